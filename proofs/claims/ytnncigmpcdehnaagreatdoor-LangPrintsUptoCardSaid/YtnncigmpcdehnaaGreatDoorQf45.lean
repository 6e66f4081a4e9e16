import Derived.Test.YtnncigmpcdehnaaGreatDoorQf42
namespace Go.Proofs.YtnncigmpcdehnaaGreatDoor
open Go Go.RowKit Go.Lib Go.Sort
section
variable{P:Program}{w:World}{S:List Nat}{size n:Nat}{s:Value}
theorem Fe{α:Type}{f:α→List Value}(hf:∀x,(f x).length=size):∀{l:List α} {i c:Nat} {x:α},l[i]?=some x→c < size→(l.flatMap f)[i*size+c]?=(f x)[c]?
 | [],i,c,x,h,_=>by simp at h
 |y::r,0,c,x,h,hc=>by
  have h:y=x:=by simpa using h
  subst h
  rw[List.flatMap_cons,List.getElem?_append_left (by rw[hf];omega)]
  simp
 |y::r,i+1,c,x,h,hc=>by
  have e:(i+1)*size+c - size=i*size+c:=by rw[Nat.add_mul]; omega
  rw[List.flatMap_cons,List.getElem?_append_right (by rw[hf,Nat.add_mul];omega),hf,e]
  exact Fe hf (by simpa using h) hc
theorem NU{α:Type}{f:α→List Value}(hf:∀x,(f x).length=size)(l:List α):(l.flatMap f).length=l.length*size:=by
 induction l with
 |nil=>simp
 |cons y r ih=>rw[List.flatMap_cons,List.length_append,hf,ih,List.length_cons,Nat.add_mul];omega
theorem kV.Tw{t e:TypeId}{inf:TypeInfo}{α:Type}{f:α→List Value}(hf:∀x,(f x).length=size){L:List α}(h:kV w S size s n (L.flatMap f))(hu:P.underlying t=some (.slice e))(hi:P.info? e=some inf)(hs:inf.size=size)(h0:0 < size){i:Nat}{x:α}(hx:L[i]?=some x) :
  ∃g off,(∀W,ai S w W→(Instr.indexAt t s (.int .i64 (i:Int))).run P W=.ok ((pt g off)) W)∧∀W,ai S w W→∀(j:Nat) (u:Value),(f x)[j]?=some u→W.cell? ⟨g,off+j,none⟩=some u:=by
 obtain⟨hl,A,c,rfl,h3⟩:=h
 have hn:L.length=n:=by
  rw[NU hf]at hl
  exact Nat.eq_of_mul_eq_mul_right h0 hl
 have hin:i < n:=by rw[←hn];exact(List.getElem?_eq_some_iff.1 hx).1
 obtain⟨g,o,rfl,hg,hlt,hr2⟩:=h3 (by omega)
 refine⟨g,o+i*inf.size,fun W _=>jn hu hi g o n c i hin W,fun W hW j u hu=>?_⟩
 have hj:j < size:=by rw[←hf x];exact(List.getElem?_eq_some_iff.1 hu).1
 have:=hr2 (i*size+j) u (by rw[Fe hf hx hj];exact hu)
 rw[hs,Nat.add_assoc]
 exact(hW.cell (p:=⟨g,o+(i*size+j),none⟩) hlt hg).trans this
theorem tP{e:TypeId}{d:TypeDesc}{W:World}{g off:Nat}{xs:List Value}(k:Nat)(ys:List Value)(hc:∀(j:Nat) (u:Value),xs[j]?=some u→W.cell? ⟨g,off+j,none⟩=some u)(hy:∀(j:Nat) (u:Value),ys[j]?=some u→xs[k+j]?=some u)(hd:P.underlying e=some d)(hr:d.isRow=true)(hs:(P.info? e).map (·.size)=some ys.length) :
  (Instr.loadAt e ((pt g (off+k)))).run P W=.ok (.agg ys.toArray) W:=
 run_loadAt_mid (P:=P) W g (off+k) e ys d (fun j u hu=>by
  have:=hc (k+j) u (hy j u hu)
  rwa [←Nat.add_assoc]at this) hd hr hs
def Kc(P:Program)(s:TypeId)(f:Nat):Option Nat:=match P.underlying s with
 |some (.struct fields)=>match fields[f]? with
  |some fd=>match P.info? fd.type with
   |some inf=>match inf.size with
    | 0=>none
    |_+1=>some fd.offset
   |none=>none
  |none=>none
 |_=>none
theorem fG{s:TypeId}{f k b off:Nat}(h:Kc P s f=some k)(W:World) :
  (Instr.fieldAt s (.pointer (some ⟨b,off,none⟩)) f).run P W=.ok (.pointer (some ⟨b,off+k,none⟩)) W:=by
 unfold Kc at h
 split at h
 ·rename_i fields hu
  split at h
  ·rename_i fd hf
   split at h
   ·rename_i inf hq
    split at h
    ·cases h
    ·rename_i n hn
     injection h with h
     subst h
     exact FQ hu hf (k:=n) (by rw[hq];simp[hn]) W
   ·cases h
  ·cases h
 ·cases h
end
open Go.RowKit Go.Lib Go.Sort
def Ps{α:Type}(o:Out α):Prop:=∀c p,o=.no c p→0 < c
theorem Ps.ok{α:Type}{a:α}{i:Nat}:Ps (.ok a i):=fun _ _ h=>nomatch h
theorem Ps.no{α:Type}{c p:Nat}(h:0 < c):Ps (.no c p:Out α):=fun _ _ e=>by injection e with e _;omega
theorem Ps.bind{α β:Type}{r:Out α}{f:α→Nat→Out β}(h:Ps r)(hf:∀a i,Ps (f a i)):Ps (r.bind f):=by
 cases r with
 |ok a i=>exact hf a i
 |no c p=>exact fun c' p' e=>h c p rfl |> fun hc=>by cases e;exact hc
theorem Ps.next{ws:List Bs}{i:Nat}:Ps (aV ws i):=by unfold aV;split;exact .ok;exact .no (by decide)
theorem Ps.Ih{ws:List Bs}{i:Nat}{s:Bs}:Ps (dL ws i s):=by unfold dL;split<;>exact .ok
theorem Ps.want{α:Type}{b:Bool}{c:Nat}{a:α}{i:Nat}(h:0 < c):Ps (ay b c a i):=by cases b;exact .no h;exact .ok
theorem Ps.number{m:Nat}{ws:List Bs}{i:Nat}:Ps (bw m ws i):=.bind .next fun _ _=>.want (by decide)
theorem Ps.int{ws:List Bs}{i:Nat}:Ps (iZ ws i):=.number
theorem Ps.name{ws:List Bs}{i:Nat}:Ps (gu ws i):=.bind .next fun _ _=>.want (by decide)
theorem Ps.pre{ws:List Bs}{i:Nat}:Ps (dV ws i):=.bind .next fun _ _=>.want (by decide)
theorem Ps.span{ws:List Bs}{i:Nat}:Ps (jj ws i):=.bind .next fun _ _=>.want (by decide)
theorem Ps.bb{ws:List Bs}{i:Nat}:Ps (eB ws i):=.bind .Ih fun a j=>by
 cases a
 ·refine .bind .Ih fun b k=>?_
  cases b
  ·exact .number
  ·exact .ok
 ·exact .ok
theorem Ps.TW{k:Nat}{m:Mt}{ws:List Bs}{i:Nat}:Ps (bu k m ws i):=by
 unfold bu
 split<;>refine .bind ?_ fun _ _=>.ok
 ·exact .span
 ·exact .pre
 ·exact .pre
 ·exact .bb
 ·exact .span
 ·exact .span
theorem Ps.field{ws:List Bs}{i:Nat}{m:Mt}:Ps (bn ws i m):=by
 unfold bn
 split
 ·exact .ok
 ·split
  ·exact .ok
  ·split
   ·exact .no (by decide)
   ·exact .bind .TW fun _ _=>.ok
theorem Ps.eO(ws:List Bs):∀(f i:Nat) (m:Mt),Ps (eO ws f i m)
 | 0,i,m=>.ok
 |f+1,i,m=>.bind .field fun r j=>by
  cases r.1
  ·exact .ok
  ·exact Ps.eO ws f j r.2
theorem Ps.gi{ws:List Bs}{i:Nat}:Ps (gi ws i):=.bind .Ih fun a j=>by
 cases a
 ·refine .bind .field fun r k=>?_
  cases r.1
  ·exact .bind .next fun _ _=>.no (by decide)
  ·exact .eO _ _ _ _
 ·exact .ok
theorem Ps.act{out:Bool}{ws:List Bs}{i:Nat}:Ps (pI out ws i):=.bind .next fun x j=>by
 split
 ·exact .ok
 split
 ·exact .ok
 split
 ·exact .ok
 split
 ·exact .bind .int fun _ _=>.ok
 ·exact .no (by decide)
theorem Ps.opt{s:Bs}{ws:List Bs}{i:Nat}:Ps (o7 s ws i):=.bind .Ih fun b j=>by
 cases b
 ·exact .ok
 ·exact .name
theorem Ps.TY{m:Mt}{ws:List Bs}{i:Nat}:Ps (No m ws i):=.bind .next fun _ _=>.bind (.want (by decide)) fun _ _=>.want (by decide)
theorem Ps.SY{ws:List Bs}{i:Nat}:Ps (oJ ws i):=.bind .name fun _ _=>.bind .gi fun _ _=>.bind .TY fun _ _=>.bind .act fun _ _=>.bind .opt fun _ _=>.bind .opt fun _ _=>.ok
theorem Ps.T8{α:Type}{ws:List Bs}{a:α}{i:Nat}:Ps (sO ws a i):=by unfold sO;split;exact .no (by decide);exact .ok
theorem Ps.body{x:Bs}{ws:List Bs}{i:Nat}{cf:CF}{d:Nat}:Ps (gx x ws i cf d):=by
 unfold gx
 split
 ·exact .bind .int fun _ _=>.ok
 split
 ·exact .bind .pre fun _ _=>.bind .int fun _ _=>.ok
 split
 ·exact .bind .name fun _ _=>.bind .number fun _ _=>.bind .number fun _ _=>.bind .number fun _ _=>.ok
 split
 ·exact .bind .name fun _ _=>.bind .int fun _ _=>.bind .int fun _ _=>.ok
 split
 ·exact .bind .SY fun _ _=>.ok
 split
 ·exact .bind (.want (by decide)) fun _ _=>.bind .act fun _ _=>.ok
 ·exact .no (by decide)
theorem Ps.line{ws:List Bs}{cf:CF}{d:Nat}:Ps (ft ws cf d):=by
 unfold ft
 split
 ·exact .ok
 ·exact .bind .next fun _ _=>.bind .body fun _ _=>.T8
def KK(cf:CF):Nat:=cf.ag.length+cf.ae.length+cf.rules.length+cf.af.length+cf.aa.length
open Go.RowKit Go.Lib Go.Sort
theorem xI{b:Nat}(hb:2≤b):∀(k u:Nat),u < b^(k+1)→(aj b u).length≤k+1
 | 0,u,h=>by rw[aW (by simpa using h)];exact Nat.le_refl _
 |k+1,u,h=>by
  by_cases hu:u < b
  ·rw[aW hu];show 1≤_;omega
  ·rw[dE hb hu,List.length_append]
   have h2:u / b < b^(k+1):=by
    rw[Nat.div_lt_iff_lt_mul (by omega),←Nat.pow_succ];exact h
   have:=xI hb k (u / b) h2
   show _+1≤_
   omega
theorem pA{u:Nat}(h:u≤18446744073709551615):(aj 10 u).length≤20:=xI (by omega) 19 u (by omega)
theorem xu{n:Int}(h:mD n):(cz n).length≤21:=by
 unfold mD at h
 unfold cz
 split
 ·have:=pA (u:=n.natAbs) (by omega)
  rw[List.length_cons];omega
 ·have:=pA (u:=n.toNat) (by omega)
  omega
theorem mg(c:UInt8)(N k:Nat)(xs:List Bs)(hk:xs.length≤k)(h:∀x∈xs,x.length≤N):(ao c xs).length≤k*(N+1):=
 Nat.le_trans (pn c N xs h) (Nat.mul_le_mul_right _ hk)
theorem rC{l:List Nat}(hl:l.length≤8)(h:∀x∈l,x < 65536):(aR l).length≤40:=by
 unfold aR
 refine mg 58 4 8 _ (by rw[List.length_map];exact hl) fun x hx=>?_
 obtain⟨y,hy,rfl⟩:=List.mem_map.1 hx
 exact gI (h y hy)
theorem vm(n:Nat):∀x∈aL n,x < 65536:=fun x hx=>by
 simp only[aL,List.mem_cons,List.not_mem_nil,or_false]at hx
 rcases hx with h|h|h|h|h|h|h|h<;>rw[h]<;>exact vo _ _
theorem Cu(v:Bool)(n:Nat):(fD v n).length≤82:=by
 unfold fD
 split
 ·unfold cM
  split
  ·have:=rC (l:=aL n) (Nat.le_refl 8) (vm n)
   omega
  ·have h1:=rC (l:=(aL n).take (gH (zs (aL n))).1) (by rw[List.length_take];show min _ 8≤8;omega) fun x hx=>vm n x (List.mem_of_mem_take hx)
   have h2:=rC (l:=(aL n).drop (gH (zs (aL n))).2) (by rw[List.length_drop]; show 8 - _≤8; omega) fun x hx=>vm n x (List.mem_of_mem_drop hx)
   simp only[List.length_append,List.length_cons];omega
 ·unfold gb
  refine Nat.le_trans (mg 46 3 4 _ (Nat.le_refl 4) fun x hx=>?_) (by decide)
  have d:∀i,(aj 10 (ah n i)).length≤3:=fun i=>fO (by have:=a7 n i;omega)
  simp only[List.mem_cons,List.not_mem_nil,or_false]at hx
  rcases hx with h|h|h|h<;>rw[h]<;>exact d _
theorem D7(v:Bool):wid v≤128:=by cases v<;>decide
theorem ui(p:Px):(pK p).length≤100:=by
 unfold pK nh
 split
 ·rename_i h
  unfold gh at h
  simp only[Bool.and_eq_true,decide_eq_true_eq]at h
  have:=D7 p.v
  have h1:=Cu p.v p.n
  have h2:=fO (u:=p.k.toNat) (by omega)
  unfold kX
  simp only[List.length_append,List.length_cons];omega
 ·exact Nat.zero_le _
theorem sd{m:Mt}(h:m.Wf):(fY m).length≤12∧∀x∈fY m,x.length≤100:=by
 have f:∀k,(il m k).length≤2∧∀x∈il m k,x.length≤100:=fun k=>by
  unfold il
  split
  ·have hi:=gN m.ff h.ff.1 h.ff.2
   have hs:=gN m.sp h.sp.1 h.sp.2
   have hd:=gN m.dp h.dp.1 h.dp.2
   have hp:=rh m.bb h.pr
   have p1:=ui m.src
   have p2:=ui m.dst
   unfold bH
   have two:∀(a b:Bs),a.length≤100→b.length≤100→([a,b]:List Bs).length≤2∧∀x∈[a,b],x.length≤100:=fun a b ha hb=>⟨Nat.le_refl _,fun x hx=>by
    simp only[List.mem_cons,List.not_mem_nil,or_false]at hx
    rcases hx with h|h<;>rw[h]<;>assumption⟩
   split<;>exact two _ _ (by decide) (by omega)
  ·exact⟨by decide,fun x hx=>by cases hx⟩
 refine⟨?_,fun x hx=>?_⟩
 ·have:=(f 0).1;have:=(f 1).1;have:=(f 2).1;have:=(f 3).1;have:=(f 4).1;have:=(f 5).1
  unfold fY
  simp only[List.length_append];omega
 ·unfold fY at hx
  simp only[List.mem_append]at hx
  rcases hx with((((h|h)|h)|h)|h)|h
  ·exact(f 0).2 x h
  ·exact(f 1).2 x h
  ·exact(f 2).2 x h
  ·exact(f 3).2 x h
  ·exact(f 4).2 x h
  ·exact(f 5).2 x h
theorem M0{m:Mt}(h:m.Wf):(Ak m).length≤1212:=by
 unfold Ak
 split
 ·unfold dQ
  split
  ·decide
  ·exact mg 32 100 12 _ (sd h).1 (sd h).2
 ·exact Nat.zero_le _
theorem ou{ws:List Bs}{M:Nat}(hn:ws.length≤12)(h:∀x∈ws,x.length≤1212+M):(eW ws).length≤12*(1213+M)+1:=by
 have:=mg 32 (1212+M) 12 ws hn h
 unfold eW
 rw[List.length_append,List.length_singleton];omega
theorem uV{B:Nat}:∀l:List (List Bs),(∀ws∈l,(eW ws).length≤B)→(dd l).length≤l.length*B
 | [],_=>Nat.zero_le _
 |ws::l,h=>by
  have h1:=h ws (by simp)
  have h2:=uV l fun x hx=>h x (List.mem_cons_of_mem _ hx)
  show(eW ws++dd l).length≤_
  rw[List.length_append,List.length_cons,Nat.add_mul];omega
structure FF(cf:CF)(M:Nat):Prop where
 m:∀x∈cf.af,x.name.length≤M
 i:∀x∈cf.aa,x.name.length≤M
 r:∀x∈cf.rules,x.name.length≤M∧x.bC.length≤M∧x.aP.length≤M
theorem xR{a o:Int}(h:mD o):(aM a o).length≤2∧∀x∈aM a o,x.length≤21:=by
 have hi:=xu h
 unfold aM
 split
 ·exact⟨by decide,fun x hx=>by rw[List.mem_singleton.1 hx];decide⟩
 split
 ·exact⟨by decide,fun x hx=>by rw[List.mem_singleton.1 hx];decide⟩
 split
 ·refine⟨Nat.le_refl 2,fun x hx=>?_⟩
  simp only[List.mem_cons,List.not_mem_nil,or_false]at hx
  rcases hx with h|h<;>rw[h]
  ·decide
  ·exact hi
 split
 ·exact⟨by decide,fun x hx=>by rw[List.mem_singleton.1 hx];decide⟩
 ·exact⟨by decide,fun x hx=>by cases hx⟩
theorem w7{k s:Bs}{M:Nat}(hk:k.length≤21)(h:s.length≤M):(cR k s).length≤2∧∀x∈cR k s,x.length≤21+M:=by
 unfold cR
 split
 ·exact⟨by simp,fun x hx=>by cases hx⟩
 ·refine⟨Nat.le_refl 2,fun x hx=>?_⟩
  simp only[List.mem_cons,List.not_mem_nil,or_false]at hx
  rcases hx with h|h<;>rw[h]<;>omega
theorem tS{r:Rl}{M:Nat}(h:r.Wf)(hm:r.name.length≤M∧r.bC.length≤M∧r.aP.length≤M):(db r).length≤12∧∀x∈db r,x.length≤1212+M:=by
 obtain⟨a1,a2⟩:=xR (a:=r.act) h.o
 obtain⟨b1,b2⟩:=w7 (k:=bK) (by decide) hm.2.1
 obtain⟨c1,c2⟩:=w7 (k:=bh) (by decide) hm.2.2
 have hp:=M0 h.m
 refine⟨?_,fun x hx=>?_⟩
 ·unfold db
  simp only[List.length_append,List.length_cons,List.length_nil];omega
 ·unfold db at hx
  simp only[List.mem_append,List.mem_cons,List.not_mem_nil,or_false]at hx
  rcases hx with(((h|h|h|h)|h)|h)|h
  ·rw[h];show 4≤_;omega
  ·rw[h];omega
  ·rw[h];omega
  ·rw[h];show 2≤_;omega
  ·have:=a2 x h;omega
  ·have:=b2 x h;omega
  ·have:=c2 x h;omega
theorem DI{cf:CF}{M N:Nat}(hw:da cf)(hm:FF cf M)(hn:KK cf≤N):(eh cf).length≤(N+1)*(12*(1213+M)+1):=by
 have B:∀ws∈kC cf,(eW ws).length≤12*(1213+M)+1:=fun ws hws=>by
  unfold kC at hws
  simp only[List.mem_append,List.mem_map,List.mem_singleton]at hws
  have c2:∀(a b:Bs),a.length≤1212+M→b.length≤1212+M→(eW [a,b]).length≤12*(1213+M)+1:=fun a b h1 h2=>ou (by simp) (by simp[h1,h2])
  have c3:∀(a b c:Bs),a.length≤1212+M→b.length≤1212+M→c.length≤1212+M→(eW [a,b,c]).length≤12*(1213+M)+1:=fun a b c h1 h2 h3=>ou (by simp) (by simp[h1,h2,h3])
  have c4:∀(a b c d:Bs),a.length≤1212+M→b.length≤1212+M→c.length≤1212+M→d.length≤1212+M→(eW [a,b,c,d]).length≤12*(1213+M)+1:=fun a b c d h1 h2 h3 h4=>ou (by simp) (by simp[h1,h2,h3,h4])
  have c5:∀(a b c d e:Bs),a.length≤1212+M→b.length≤1212+M→c.length≤1212+M→d.length≤1212+M→e.length≤1212+M→(eW [a,b,c,d,e]).length≤12*(1213+M)+1:=fun a b c d e h1 h2 h3 h4 h5=>ou (by simp) (by simp[h1,h2,h3,h4,h5])
  have k:∀(x:Bs),x.length≤10→x.length≤1212+M:=fun x h=>by omega
  have it:∀{n:Int},mD n→(cz n).length≤1212+M:=fun h=>by have:=xu h;omega
  have dg:∀{n:Nat},n≤18446744073709551615→(aj 10 n).length≤1212+M:=fun h=>by have:=pA h;omega
  rcases hws with((((⟨n,h,rfl⟩ | ⟨n,h,rfl⟩)|⟨n,h,rfl⟩)|⟨n,h,rfl⟩)|⟨n,h,rfl⟩)|rfl
  ·exact c2 _ _ (k _ (by decide)) (it (hw.p n h))
  ·exact c3 _ _ _ (k _ (by decide)) (by have:=ui n.pf;omega) (it (hw.r n h).o)
  ·have:=hm.m n h
   exact c5 _ _ _ _ _ (k _ (by decide)) (by omega) (dg (hw.m n h).a) (dg (hw.m n h).b) (dg (hw.m n h).c)
  ·have:=hm.i n h
   exact c4 _ _ _ _ (k _ (by decide)) (by omega) (it (hw.i n h).o) (it (hw.i n h).r)
  ·exact ou (tS (hw.l n h) (hm.r n h)).1 (tS (hw.l n h) (hm.r n h)).2
  ·obtain⟨a1,a2⟩:=xR (a:=cf.aS) (o:=0) (by unfold mD;decide)
   refine ou (by unfold iI;rw[List.length_cons];omega) fun x hx=>?_
   unfold iI at hx
   rcases List.mem_cons.1 hx with h|h
   ·rw[h];exact k _ (by decide)
   ·have:=a2 x h;omega
 have h:=uV (kC cf) B
 refine Nat.le_trans h (Nat.mul_le_mul_right _ ?_)
 unfold kC
 simp only[List.length_append,List.length_map,List.length_singleton]
 unfold KK at hn
 omega
theorem iH{s:Bs}(h:aB s=true):s.length≤16:=by
 unfold aB at h
 simp only[Bool.and_eq_true,decide_eq_true_eq]at h
 exact h.1.2
theorem qj{s:Bs}(h:iW s=true):s.length≤16:=by
 unfold iW at h
 rw[Bool.or_eq_true]at h
 rcases h with h|h
 ·rw[of_decide_eq_true h];decide
 ·exact iH h
theorem ED{v:Bool}{n:Nat}{k:Int}(h:gh v n k=true):mD k:=by
 unfold gh at h
 simp only[Bool.and_eq_true,decide_eq_true_eq]at h
 have:=D7 v
 unfold mD;omega
theorem G6{m:Mt}(h:DZ m)(hc:bp m=true):m.Wf:=by
 unfold bp at hc
 simp only[Bool.and_eq_true,Bool.or_eq_true,decide_eq_true_eq,Bool.not_eq_true']at hc
 have kx:∀{p:Px} {b:Bool},(b=true∨Ci p=true)→(b=false∨gh p.v p.n p.k=true) → -9223372036854775808≤p.k∧p.k≤9223372036854775807:=by
  intro p b h1 h2
  cases b with
  |true=>rcases h2 with h2|h2;exact absurd h2 (by decide);exact ED h2
  |false=>
   rcases h1 with h1|h1
   ·exact absurd h1 (by decide)
   ·have:=(of_decide_eq_true h1).2.2
    omega
 exact⟨by omega,h.sn,kx hc.1.2.2.1 hc.2.2.1.1,h.dn,kx hc.1.2.2.2.1 hc.2.2.1.2.1,⟨h.i1,h.i2⟩,⟨h.s1,h.s2⟩,⟨h.d1,h.d2⟩,h.pr⟩
theorem qR.wf{cf:CF}(h:qR cf):da cf∧FF cf 16:=by
 have i:∀n:Int,0≤n→n≤9223372036854775807→mD n:=fun n h1 h2=>by unfold mD;omega
 refine⟨⟨fun n hn=>i n (h.ag n hn).1 (h.ag n hn).2,fun r hr=>?_,fun r hr=>?_,fun m hm=>?_,fun m hm=>?_,?_⟩,⟨fun m hm=>iH (h.af m hm).1,fun m hm=>iH (h.aa m hm).1,fun r hr=>?_⟩⟩
 ·obtain⟨a,b,c,d⟩:=h.ae r hr
  exact⟨a,ED b,i _ c d⟩
 ·obtain⟨a,b,c,d,e,f⟩:=h.rules r hr
  have h1:=iH c;have h2:=qj e;have h3:=qj f
  have ha:=d
  unfold ju at ha
  simp only[Bool.and_eq_true,decide_eq_true_eq]at ha
  have:=a.out
  exact⟨by unfold maxLen;omega,G6 a.mt b,by unfold mD;omega,by unfold mD;omega,by unfold maxLen;omega,by unfold maxLen;omega⟩
 ·obtain⟨a,b,c,d⟩:=h.af m hm
  have h1:=iH a
  exact⟨by unfold maxLen;omega,b,c,d⟩
 ·obtain⟨a,b,c,d,e⟩:=h.aa m hm
  have h1:=iH a
  exact⟨by unfold maxLen;omega,i _ b c,i _ d e⟩
 ·rcases h.aS with h|h|h<;>rw[h]<;>(unfold mD;omega)
 ·obtain⟨_,_,c,_,e,f⟩:=h.rules r hr
  exact⟨iH c,qj e,qj f⟩
end Go.Proofs.YtnncigmpcdehnaaGreatDoor
