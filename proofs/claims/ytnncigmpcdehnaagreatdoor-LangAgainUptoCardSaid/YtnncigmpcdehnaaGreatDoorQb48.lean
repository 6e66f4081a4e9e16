import Derived.Test.YtnncigmpcdehnaaGreatDoorQb47
namespace Go.Proofs.YtnncigmpcdehnaaGreatDoor
open Go Go.RowKit Go.Lib Go.Sort
namespace Sx
def lY(β β':Env)(m:Nat)(ks:List Nat):Env:=
 ⟨fun i=>if i < m then β i else β' (ks.getD (i - m) 0),fun i=>if i < m then β.a i else β'.a (ks.getD (i - m) 0),
  fun i=>if i < m then β.n i else β'.n (ks.getD (i - m) 0),fun i=>if i < m then β.c i else β'.c (ks.getD (i - m) 0)⟩
def FD(r:Row):Bool:=match r.cs with
 |.ag _=>true
 |.own _ _ _=>true
 |_=>false
theorem GD{β β':Env}{W w':World}{PP:List PanicEntry→World→Prop}{row:Nat→Option Row}{m:Nat}{ks:List Nat}{mem rows:List Row}{ret:SV}{X:List Nat}{e:Ending}(hR:Rows ⟨W,[],PP⟩ β' w' mem)
  (hl:rows.length=ks.length) (hm:∀j,j < ks.length→mem[ks.getD j 0]?=rows[j]?) (hd:(rows.map Row.ty).Nodup) (hp:eR FD rows=true) (he:e=.returned (ret.den (lY β β' m ks))) :
  Bh β W row m ⟨X,[],[],rows,ret,none⟩ e w' (lY β β' m ks):=by
 have lt:∀(k:Nat) (r:Row),rows[k]?=some r→k < ks.length:=fun k r h=>by
  rw[←hl];exact(List.getElem?_eq_some_iff.1 h).1
 have at_:∀(k:Nat) (r:Row),rows[k]?=some r→mem[ks.getD k 0]?=some r:=fun k r h=>by rw[hm k (lt k r h),h]
 have sub:∀k,m+k - m=k:=fun k=>by omega
 have nl:∀k,¬(m+k < m):=fun k=>by omega
 have bY:∀(k:Nat) (r:Row),rows[k]?=some r→aE (lY β β' m ks) (m+k) r=aE β' (ks.getD k 0) r:=fun k r h=>by
  have hpr:=ba hp r (List.mem_of_getElem? h)
  obtain⟨T,cs⟩:=r
  cases cs with
  |ag cs=>show some (if m+k < m then β (m+k)else β' (ks.getD (m+k - m) 0))=some (β' (ks.getD k 0)); rw[if_neg (nl k),sub]
  |own a b c=>show(if m+k < m then β.a (m+k)else β'.a (ks.getD (m+k - m) 0)).map _=(β'.a (ks.getD k 0)).map _; rw[if_neg (nl k),sub]
  |_=>cases hpr
 refine⟨fun i hi=>⟨?_,?_,?_,?_⟩,he,fun q hq=>(by cases hq),fun k r hr=>?_,fun k r x hr hx=>?_,fun k k' r r' x hr hr' hx hx'=>?_,hR.aP⟩
 ·show β i=if i < m then β i else _;rw[if_pos hi]
 ·show β.a i=if i < m then β.a i else _;rw[if_pos hi]
 ·show β.n i=if i < m then β.n i else _;rw[if_pos hi]
 ·show β.c i=if i < m then β.c i else _;rw[if_pos hi]
 ·have h:=hR.held _ r (at_ k r hr)
  have hpr:=ba hp r (List.mem_of_getElem? hr)
  obtain⟨T,cs⟩:=r
  cases cs with
  |ag cs=>show aB w' (if m+k < m then β (m+k)else β' (ks.getD (m+k - m) 0)) T cs; rw[if_neg (nl k),sub]; exact h
  |own a b c=>
   show(if m+k < m then β.n (m+k)else β'.n (ks.getD (m+k - m) 0))=b∧Own w' T a (.slice (if m+k < m then β.a (m+k)else β'.a (ks.getD (m+k - m) 0)) b (if m+k < m then β.c (m+k)else β'.c (ks.getD (m+k - m) 0))) b c
   rw[if_neg (nl k),if_neg (nl k),if_neg (nl k),sub];exact h
  |_=>cases hpr
 ·rw[bY k r hr]at hx
  rcases hR.new _ r x (at_ k r hr) hx with h|h
  ·cases h
  ·exact .inr h
 ·rw[bY k r hr]at hx
  rw[bY k' r' hr']at hx'
  have hk:=hR.inj _ _ r r' x (at_ k r hr) (at_ k' r' hr') hx hx'
  have a1:=at_ k r hr
  have a2:=at_ k' r' hr'
  rw[hk,a2]at a1
  have hrr:r=r':=(Option.some.inj a1).symm
  subst hrr
  have i1:(rows.map Row.ty)[k]?=some r.ty:=by rw[List.getElem?_map,hr];rfl
  have i2:(rows.map Row.ty)[k']?=some r.ty:=by rw[List.getElem?_map,hr'];rfl
  exact(List.getElem?_inj (by rw[List.length_map,hl];exact lt k r hr) hd).1 (i1.trans i2.symm)
end Sx
theorem kB.pre{w:World}{S:List Nat}{size n c:Nat}{A:Option Go.Addr}{xs ys:List Value}(h:kB w S size (.slice A (n+1) c) (n+1) (xs++ys))(hx:xs.length=n*size):kB w S size (.slice A n c) n xs:=by
 obtain⟨_,A',c',h2,h3⟩:=h
 injection h2 with h2 _ h4
 subst h2;subst h4
 refine⟨hx,A,c,rfl,fun _=>?_⟩
 obtain⟨g,o,ha,hg,hl,hr⟩:=h3 (Nat.succ_pos n)
 exact⟨g,o,ha,hg,hl,fun j u hu=>hr j u (by rw[List.getElem?_append_left (List.getElem?_eq_some_iff.1 hu).1];exact hu)⟩
structure NH(mem:List Sx.Row)(k0 k1 k2 k3 k4:Nat)(cf:CF):Prop where
 p:mem[k0]?=some ⟨3,.own 1 (cf.ao.length+1) (cf.cp++L1)⟩
 r:mem[k1]?=some ⟨118,.own 19 (cf.ah.length+1) (cf.cr++L0)⟩
 l:mem[k2]?=some ⟨81,.own 49 (cf.rules.length+1) (cf.cl++L3)⟩
 m:mem[k3]?=some ⟨122,.own 4 (cf.aj.length+1) (cf.cm++L2)⟩
 i:mem[k4]?=some ⟨124,.own 3 (cf.ab.length+1) (cf.ci++L4)⟩
def kU(cf:CF):List Sx.Row:=[⟨3,.own 1 (cf.ao.length+1) (cf.cp++L1)⟩,⟨118,.own 19 (cf.ah.length+1) (cf.cr++L0)⟩,⟨81,.own 49 (cf.rules.length+1) (cf.cl++L3)⟩,⟨122,.own 4 (cf.aj.length+1) (cf.cm++L2)⟩,⟨124,.own 3 (cf.ab.length+1) (cf.ci++L4)⟩]
theorem Ob(A:Option Go.Addr):A.map (·.add 0)=A:=by
 cases A with
 |none=>rfl
 |some a=>show some (a.add 0)=some a;cases a;simp[Addr.add]
theorem Ea(β:Sx.Env)(i n:Nat):(Sx.Atom.s i 0 n 0).den β=.slice (β.a i) n (β.c i):=by
 show Value.slice (if β.c i=0 then β.a i else(β.a i).map (·.add 0)) n (β.c i - 0)=_
 rw[Ob];split<;>rfl
theorem wP{β:Sx.Env}{k0 k1 k2 k3 k4:Nat}{cf:CF}:(Sx.SV.cX (Cq k0 k1 k2 k3 k4 cf)).den β=.agg (an cf (iB β k0 k1 k2 k3 k4)).toArray:=by
 show Value.agg ((Cq k0 k1 k2 k3 k4 cf).map (Sx.Atom.den β)).toArray=_
 unfold Cq
 simp only[List.map_cons,List.map_nil,Ea]
 rfl
theorem Ma{cf:CF}:cf.cp.length=cf.ao.length*1∧cf.cr.length=cf.ah.length*19∧cf.cl.length=cf.rules.length*49∧cf.cm.length=cf.aj.length*4∧cf.ci.length=cf.ab.length*3:=by
 have fl:∀{α:Type} (f:α→List Value) (z:Nat) (_:∀x,(f x).length=z) (l:List α),(l.flatMap f).length=l.length*z:=fun f z hf l=>by
  induction l with
  |nil=>simp
  |cons y r ih=>rw[List.flatMap_cons,List.length_append,hf,ih,List.length_cons,Nat.add_mul];omega
 refine⟨by simp[CF.cp],fl _ _ (fun x=>?_) _,fl _ _ (fun x=>?_) _,fl _ _ (fun x=>?_) _,fl _ _ (fun x=>?_) _⟩
 ·exact Rt.aW x
 ·exact Rl.aW x
 ·exact Me.aW x
 ·exact Mi.aW x
theorem G3{b:Sx.bw}{β:Sx.Env}{W:World}{mem:List Sx.Row}{fS:List Nat}{k0 k1 k2 k3 k4:Nat}{cf:CF}(hS:Sx.cw b β W (Sx.rowAt mem) fS)(h:NH mem k0 k1 k2 k3 k4 cf)(hs:∀k∈[k0,k1,k2,k3,k4],k∈fS) :
  eo W [] cf (iB β k0 k1 k2 k3 k4):=by
 have no:∀{v:Value} k,v.ownBlock=some k→k∉([]:List Nat):=fun _ _ h=>by cases h
 obtain⟨l0,l1,l2,l3,l4⟩:=Ma (cf:=cf)
 have o0:Own W 3 1 (.slice (β.a k0) (cf.ao.length+1) (β.c k0)) (cf.ao.length+1) (cf.cp++L1):=(hS.held k0 (hs _ (by simp)) _ h.p).2
 have o1:Own W 118 19 (.slice (β.a k1) (cf.ah.length+1) (β.c k1)) (cf.ah.length+1) (cf.cr++L0):=(hS.held k1 (hs _ (by simp)) _ h.r).2
 have o2:Own W 81 49 (.slice (β.a k2) (cf.rules.length+1) (β.c k2)) (cf.rules.length+1) (cf.cl++L3):=(hS.held k2 (hs _ (by simp)) _ h.l).2
 have o3:Own W 122 4 (.slice (β.a k3) (cf.aj.length+1) (β.c k3)) (cf.aj.length+1) (cf.cm++L2):=(hS.held k3 (hs _ (by simp)) _ h.m).2
 have o4:Own W 124 3 (.slice (β.a k4) (cf.ab.length+1) (β.c k4)) (cf.ab.length+1) (cf.ci++L4):=(hS.held k4 (hs _ (by simp)) _ h.i).2
 exact⟨(kB.gO o0 no).pre l0,(kB.gO o1 no).pre l1,(kB.gO o2 no).pre l2,(kB.gO o3 no).pre l3,(kB.gO o4 no).pre l4⟩
def NN(fS:List Nat)(m:Nat)(cf:CF):Sx.cH:=⟨fS,[],[],kU cf,.cX (Cq m (m+1) (m+2) (m+3) (m+4) cf),none⟩
theorem G5{b:Sx.bw}{row:Nat→Option Sx.Row}{m:Nat}{cf:CF}{s:fI}{fS:List Nat}(hf:e8 cf)(W:World)(β:Sx.Env)(_:Sx.cw b β W row fS)(hr:eo W [] cf s) :
  Calls Tryz.prog 27 #[.agg (an cf s).toArray] W (Sx.a7 b β W row m (NN fS m cf)):=by
 refine(G4 W cf s hr hf).mono fun en w' hp=>?_
 rcases hp with⟨β',l,mem,⟨k0,k1,k2,k3,k4,rfl,q0,q1,q2,q3,q4⟩,he,hR⟩ | ⟨_,_,hf,_⟩
 ·refine .inl ⟨fun p hp=>(by cases hp),Sx.lY β β' m [k0,k1,k2,k3,k4],Sx.GD hR rfl (fun j hj=>?_) (by show [3,118,81,122,124].Nodup;decide) rfl ?_⟩
  ·match j,hj with
   | 0,_=>exact q0
   | 1,_=>exact q1
   | 2,_=>exact q2
   | 3,_=>exact q3
   | 4,_=>exact q4
  ·rw[he]
   show Ending.returned ((Sx.SV.cX (Cq k0 k1 k2 k3 k4 cf)).den β')=.returned ((Sx.SV.cX (Cq m (m+1) (m+2) (m+3) (m+4) cf)).den _)
   rw[wP,wP]
   congr 2
   have e:∀j,¬(m+j < m):=fun j=>by omega
   simp[iB,Sx.lY,e]
 ·exact hf.elim
theorem qL{b:Sx.bw}{mem:List Sx.Row}{i m:Nat}{cf:CF}(h:En mem i (i+1) (i+2) (i+3) (i+4) cf)(hf:e8 cf)(W:World)(β:Sx.Env)(hS:Sx.cw b β W (Sx.rowAt mem) (cN i)) :
  Calls Tryz.prog 27 (([.cX (qW i cf)]:List Sx.SV).map (Sx.SV.den β)).toArray W (Sx.a7 b β W (Sx.rowAt mem) m (NN (cN i) m cf)):=by
 obtain⟨hr,hd⟩:=pv hS h (fun k hk=>hk)
 show Calls Tryz.prog 27 #[(Sx.SV.cX (qW i cf)).den β] W _
 rw[hd]
 exact G5 hf W β hS hr
theorem qu{b:Sx.bw}{mem:List Sx.Row}{i m:Nat}{cf:CF}(hlan:dG b.w)(h9:∀k∈b.S,9≤k)(h:NH mem i (i+1) (i+2) (i+3) (i+4) cf)(hw:eU cf)(hf:e8 cf)(hB:(fm cf).length≤140737488355328)(W:World)(β:Sx.Env)(hS:Sx.cw b β W (Sx.rowAt mem) (cN i)) :
  Calls Tryz.prog 28 (([.cX (Cq i (i+1) (i+2) (i+3) (i+4) cf)]:List Sx.SV).map (Sx.SV.den β)).toArray W (Sx.a7 b β W (Sx.rowAt mem) m ⟨cN i,[],[],[],.val (.tuple #[af (dU cf).1,.int .i64 (dU cf).2]),none⟩):=by
 have hr:=G3 hS h (fun k hk=>hk)
 show Calls Tryz.prog 28 #[(Sx.SV.cX (Cq i (i+1) (i+2) (i+3) (i+4) cf)).den β] W _
 rw[wP]
 exact(BH (hlan.aP hS.aP h9) cf _ hr hw hf hB).mono fun en w' ⟨he,hc⟩=>.inl ⟨fun p hp=>(by cases hp),β,Sx.dH (v:=.tuple #[af (dU cf).1,.int .i64 (dU cf).2]) rfl rfl he (fun q hq=>by cases hq) hc⟩
open Go.RowKit Go.Lib Go.Sort
theorem vk{b:Nat}(hb:2≤b):∀(k u:Nat),u < b^(k+1)→(az b u).length≤k+1
 | 0,u,h=>by rw[bW (by simpa using h)];exact Nat.le_refl _
 |k+1,u,h=>by
  by_cases hu:u < b
  ·rw[bW hu];show 1≤_;omega
  ·rw[eH hb hu,List.length_append]
   have h2:u / b < b^(k+1):=by
    rw[Nat.div_lt_iff_lt_mul (by omega),←Nat.pow_succ];exact h
   have:=vk hb k (u / b) h2
   show _+1≤_
   omega
theorem oq{u:Nat}(h:u≤18446744073709551615):(az 10 u).length≤20:=vk (by omega) 19 u (by omega)
theorem uZ{n:Int}(h:nG n):(bb n).length≤21:=by
 unfold nG at h
 unfold bb
 split
 ·have:=oq (u:=n.natAbs) (by omega)
  rw[List.length_cons];omega
 ·have:=oq (u:=n.toNat) (by omega)
  omega
theorem k9(c:UInt8)(N k:Nat)(xs:List Bs)(hk:xs.length≤k)(h:∀x∈xs,x.length≤N):(aQ c xs).length≤k*(N+1):=
 Nat.le_trans (n9 c N xs h) (Nat.mul_le_mul_right _ hk)
theorem qa{l:List Nat}(hl:l.length≤8)(h:∀x∈l,x < 65536):(de l).length≤40:=by
 unfold de
 refine k9 58 4 8 _ (by rw[List.length_map];exact hl) fun x hx=>?_
 obtain⟨y,hy,rfl⟩:=List.mem_map.1 hx
 exact jo (h y hy)
theorem sV(n:Nat):∀x∈bS n,x < 65536:=fun x hx=>by
 simp only[bS,List.mem_cons,List.not_mem_nil,or_false]at hx
 rcases hx with h|h|h|h|h|h|h|h<;>rw[h]<;>exact GB _ _
theorem zI(v:Bool)(n:Nat):(jb v n).length≤82:=by
 unfold jb
 split
 ·unfold dD
  split
  ·have:=qa (l:=bS n) (Nat.le_refl 8) (sV n)
   omega
  ·have h1:=qa (l:=(bS n).take (fV (zs (bS n))).1) (by rw[List.length_take];show min _ 8≤8;omega) fun x hx=>sV n x (List.mem_of_mem_take hx)
   have h2:=qa (l:=(bS n).drop (fV (zs (bS n))).2) (by rw[List.length_drop]; show 8 - _≤8; omega) fun x hx=>sV n x (List.mem_of_mem_drop hx)
   simp only[List.length_append,List.length_cons];omega
 ·unfold gG
  refine Nat.le_trans (k9 46 3 4 _ (Nat.le_refl 4) fun x hx=>?_) (by decide)
  have d:∀i,(az 10 (ay n i)).length≤3:=fun i=>gT (by have:=bU n i;omega)
  simp only[List.mem_cons,List.not_mem_nil,or_false]at hx
  rcases hx with h|h|h|h<;>rw[h]<;>exact d _
theorem Bn(v:Bool):wid v≤128:=by cases v<;>decide
theorem rV(p:Px):(rW p).length≤100:=by
 unfold rW r7
 split
 ·rename_i h
  unfold gg at h
  simp only[Bool.and_eq_true,decide_eq_true_eq]at h
  have:=Bn p.v
  have h1:=zI p.v p.n
  have h2:=gT (u:=p.k.toNat) (by omega)
  unfold oF
  simp only[List.length_append,List.length_cons];omega
 ·exact Nat.zero_le _
theorem qx{m:Mt}(h:m.Wf):(fR m).length≤12∧∀x∈fR m,x.length≤100:=by
 have f:∀k,(lR m k).length≤2∧∀x∈lR m k,x.length≤100:=fun k=>by
  unfold lR
  split
  ·have hi:=j7 m.gf h.gf.1 h.gf.2
   have hs:=j7 m.sp h.sp.1 h.sp.2
   have hd:=j7 m.dp h.dp.1 h.dp.2
   have hp:=uE m.bV h.pr
   have p1:=rV m.src
   have p2:=rV m.dst
   unfold bN
   have two:∀(a b:Bs),a.length≤100→b.length≤100→([a,b]:List Bs).length≤2∧∀x∈[a,b],x.length≤100:=fun a b ha hb=>⟨Nat.le_refl _,fun x hx=>by
    simp only[List.mem_cons,List.not_mem_nil,or_false]at hx
    rcases hx with h|h<;>rw[h]<;>assumption⟩
   split<;>exact two _ _ (by decide) (by omega)
  ·exact⟨by decide,fun x hx=>by cases hx⟩
 refine⟨?_,fun x hx=>?_⟩
 ·have:=(f 0).1;have:=(f 1).1;have:=(f 2).1;have:=(f 3).1;have:=(f 4).1;have:=(f 5).1
  unfold fR
  simp only[List.length_append];omega
 ·unfold fR at hx
  simp only[List.mem_append]at hx
  rcases hx with((((h|h)|h)|h)|h)|h
  ·exact(f 0).2 x h
  ·exact(f 1).2 x h
  ·exact(f 2).2 x h
  ·exact(f 3).2 x h
  ·exact(f 4).2 x h
  ·exact(f 5).2 x h
theorem I5{m:Mt}(h:m.Wf):(Er m).length≤1212:=by
 unfold Er
 split
 ·unfold ji
  split
  ·decide
  ·exact k9 32 100 12 _ (qx h).1 (qx h).2
 ·exact Nat.zero_le _
theorem mQ{ws:List Bs}{M:Nat}(hn:ws.length≤12)(h:∀x∈ws,x.length≤1212+M):(bR ws).length≤12*(1213+M)+1:=by
 have:=k9 32 (1212+M) 12 ws hn h
 unfold bR
 rw[List.length_append,List.length_singleton];omega
theorem sK{B:Nat}:∀l:List (List Bs),(∀ws∈l,(bR ws).length≤B)→(di l).length≤l.length*B
 | [],_=>Nat.zero_le _
 |ws::l,h=>by
  have h1:=h ws (by simp)
  have h2:=sK l fun x hx=>h x (List.mem_cons_of_mem _ hx)
  show(bR ws++di l).length≤_
  rw[List.length_append,List.length_cons,Nat.add_mul];omega
structure Ou(cf:CF)(M:Nat):Prop where
 m:∀x∈cf.aj,x.name.length≤M
 i:∀x∈cf.ab,x.name.length≤M
 r:∀x∈cf.rules,x.name.length≤M∧x.aq.length≤M∧x.ai.length≤M
theorem vw{a o:Int}(h:nG o):(aH a o).length≤2∧∀x∈aH a o,x.length≤21:=by
 have hi:=uZ h
 unfold aH
 split
 ·exact⟨by decide,fun x hx=>by rw[List.mem_singleton.1 hx];decide⟩
 split
 ·exact⟨by decide,fun x hx=>by rw[List.mem_singleton.1 hx];decide⟩
 split
 ·refine⟨Nat.le_refl 2,fun x hx=>?_⟩
  simp only[List.mem_cons,List.not_mem_nil,or_false]at hx
  rcases hx with h|h<;>rw[h]
  ·decide
  ·exact hi
 split
 ·exact⟨by decide,fun x hx=>by rw[List.mem_singleton.1 hx];decide⟩
 ·exact⟨by decide,fun x hx=>by cases hx⟩
theorem uM{k s:Bs}{M:Nat}(hk:k.length≤21)(h:s.length≤M):(cO k s).length≤2∧∀x∈cO k s,x.length≤21+M:=by
 unfold cO
 split
 ·exact⟨by simp,fun x hx=>by cases hx⟩
 ·refine⟨Nat.le_refl 2,fun x hx=>?_⟩
  simp only[List.mem_cons,List.not_mem_nil,or_false]at hx
  rcases hx with h|h<;>rw[h]<;>omega
theorem rO{r:Rl}{M:Nat}(h:r.Wf)(hm:r.name.length≤M∧r.aq.length≤M∧r.ai.length≤M):(dR r).length≤12∧∀x∈dR r,x.length≤1212+M:=by
 obtain⟨a1,a2⟩:=vw (a:=r.act) h.o
 obtain⟨b1,b2⟩:=uM (k:=ak) (by decide) hm.2.1
 obtain⟨c1,c2⟩:=uM (k:=ae) (by decide) hm.2.2
 have hp:=I5 h.m
 refine⟨?_,fun x hx=>?_⟩
 ·unfold dR
  simp only[List.length_append,List.length_cons,List.length_nil];omega
 ·unfold dR at hx
  simp only[List.mem_append,List.mem_cons,List.not_mem_nil,or_false]at hx
  rcases hx with(((h|h|h|h)|h)|h)|h
  ·rw[h];show 4≤_;omega
  ·rw[h];omega
  ·rw[h];omega
  ·rw[h];show 2≤_;omega
  ·have:=a2 x h;omega
  ·have:=b2 x h;omega
  ·have:=c2 x h;omega
theorem AT{cf:CF}{M N:Nat}(hw:eU cf)(hm:Ou cf M)(hn:Ct cf≤N):(fm cf).length≤(N+1)*(12*(1213+M)+1):=by
 have B:∀ws∈jQ cf,(bR ws).length≤12*(1213+M)+1:=fun ws hws=>by
  unfold jQ at hws
  simp only[List.mem_append,List.mem_map,List.mem_singleton]at hws
  have c2:∀(a b:Bs),a.length≤1212+M→b.length≤1212+M→(bR [a,b]).length≤12*(1213+M)+1:=fun a b h1 h2=>mQ (by simp) (by simp[h1,h2])
  have c3:∀(a b c:Bs),a.length≤1212+M→b.length≤1212+M→c.length≤1212+M→(bR [a,b,c]).length≤12*(1213+M)+1:=fun a b c h1 h2 h3=>mQ (by simp) (by simp[h1,h2,h3])
  have c4:∀(a b c d:Bs),a.length≤1212+M→b.length≤1212+M→c.length≤1212+M→d.length≤1212+M→(bR [a,b,c,d]).length≤12*(1213+M)+1:=fun a b c d h1 h2 h3 h4=>mQ (by simp) (by simp[h1,h2,h3,h4])
  have c5:∀(a b c d e:Bs),a.length≤1212+M→b.length≤1212+M→c.length≤1212+M→d.length≤1212+M→e.length≤1212+M→(bR [a,b,c,d,e]).length≤12*(1213+M)+1:=fun a b c d e h1 h2 h3 h4 h5=>mQ (by simp) (by simp[h1,h2,h3,h4,h5])
  have k:∀(x:Bs),x.length≤10→x.length≤1212+M:=fun x h=>by omega
  have it:∀{n:Int},nG n→(bb n).length≤1212+M:=fun h=>by have:=uZ h;omega
  have dg:∀{n:Nat},n≤18446744073709551615→(az 10 n).length≤1212+M:=fun h=>by have:=oq h;omega
  rcases hws with((((⟨n,h,rfl⟩ | ⟨n,h,rfl⟩)|⟨n,h,rfl⟩)|⟨n,h,rfl⟩)|⟨n,h,rfl⟩)|rfl
  ·exact c2 _ _ (k _ (by decide)) (it (hw.p n h))
  ·exact c3 _ _ _ (k _ (by decide)) (by have:=rV n.pf;omega) (it (hw.r n h).o)
  ·have:=hm.m n h
   exact c5 _ _ _ _ _ (k _ (by decide)) (by omega) (dg (hw.m n h).a) (dg (hw.m n h).b) (dg (hw.m n h).c)
  ·have:=hm.i n h
   exact c4 _ _ _ _ (k _ (by decide)) (by omega) (it (hw.i n h).o) (it (hw.i n h).r)
  ·exact mQ (rO (hw.l n h) (hm.r n h)).1 (rO (hw.l n h) (hm.r n h)).2
  ·obtain⟨a1,a2⟩:=vw (a:=cf.aL) (o:=0) (by unfold nG;decide)
   refine mQ (by unfold gU;rw[List.length_cons];omega) fun x hx=>?_
   unfold gU at hx
   rcases List.mem_cons.1 hx with h|h
   ·rw[h];exact k _ (by decide)
   ·have:=a2 x h;omega
 have h:=sK (jQ cf) B
 refine Nat.le_trans h (Nat.mul_le_mul_right _ ?_)
 unfold jQ
 simp only[List.length_append,List.length_map,List.length_singleton]
 unfold Ct at hn
 omega
theorem gP{s:Bs}(h:aM s=true):s.length≤16:=by
 unfold aM at h
 simp only[Bool.and_eq_true,decide_eq_true_eq]at h
 exact h.1.2
theorem oU{s:Bs}(h:fz s=true):s.length≤16:=by
 unfold fz at h
 rw[Bool.or_eq_true]at h
 rcases h with h|h
 ·rw[of_decide_eq_true h];decide
 ·exact gP h
theorem BO{v:Bool}{n:Nat}{k:Int}(h:gg v n k=true):nG k:=by
 unfold gg at h
 simp only[Bool.and_eq_true,decide_eq_true_eq]at h
 have:=Bn v
 unfold nG;omega
theorem D0{m:Mt}(h:Bg m)(hc:bL m=true):m.Wf:=by
 unfold bL at hc
 simp only[Bool.and_eq_true,Bool.or_eq_true,decide_eq_true_eq,Bool.not_eq_true']at hc
 have kx:∀{p:Px} {b:Bool},(b=true∨zA p=true)→(b=false∨gg p.v p.n p.k=true) → -9223372036854775808≤p.k∧p.k≤9223372036854775807:=by
  intro p b h1 h2
  cases b with
  |true=>rcases h2 with h2|h2;exact absurd h2 (by decide);exact BO h2
  |false=>
   rcases h1 with h1|h1
   ·exact absurd h1 (by decide)
   ·have:=(of_decide_eq_true h1).2.2
    omega
 exact⟨by omega,h.sn,kx hc.1.2.2.1 hc.2.2.1.1,h.dn,kx hc.1.2.2.2.1 hc.2.2.1.2.1,⟨h.i1,h.i2⟩,⟨h.s1,h.s2⟩,⟨h.d1,h.d2⟩,h.pr⟩
theorem ly.wf{cf:CF}(h:ly cf):eU cf∧Ou cf 16:=by
 have i:∀n:Int,0≤n→n≤9223372036854775807→nG n:=fun n h1 h2=>by unfold nG;omega
 refine⟨⟨fun n hn=>i n (h.ao n hn).1 (h.ao n hn).2,fun r hr=>?_,fun r hr=>?_,fun m hm=>?_,fun m hm=>?_,?_⟩,⟨fun m hm=>gP (h.aj m hm).1,fun m hm=>gP (h.ab m hm).1,fun r hr=>?_⟩⟩
 ·obtain⟨a,b,c,d⟩:=h.ah r hr
  exact⟨a,BO b,i _ c d⟩
 ·obtain⟨a,b,c,d,e,f⟩:=h.rules r hr
  have h1:=gP c;have h2:=oU e;have h3:=oU f
  have ha:=d
  unfold gD at ha
  simp only[Bool.and_eq_true,decide_eq_true_eq]at ha
  have:=a.out
  exact⟨by unfold maxLen;omega,D0 a.mt b,by unfold nG;omega,by unfold nG;omega,by unfold maxLen;omega,by unfold maxLen;omega⟩
 ·obtain⟨a,b,c,d⟩:=h.aj m hm
  have h1:=gP a
  exact⟨by unfold maxLen;omega,b,c,d⟩
 ·obtain⟨a,b,c,d,e⟩:=h.ab m hm
  have h1:=gP a
  exact⟨by unfold maxLen;omega,i _ b c,i _ d e⟩
 ·rcases h.aL with h|h|h<;>rw[h]<;>(unfold nG;omega)
 ·obtain⟨_,_,c,_,e,f⟩:=h.rules r hr
  exact⟨gP c,oU e,oU f⟩
theorem pR{s:Bs}{cf:CF}(h:ed s=.ok cf):ly cf∧eU cf∧e8 cf∧(fm cf).length≤140737488355328∧qO cf=0:=by
 have ok:=Fo h
 have hc:Ct cf≤65537:=by
  unfold ed at h
  split at h
  ·cases h
  ·have h1:=qp _ _ _ _ _ h
   have h2:=sI s
   have h3:Ct wS=0:=rfl
   omega
 have hl:=AT ok.wf.1 ok.wf.2 hc
 refine⟨ok,ok.wf.1,?_,by omega,(ts ok.in).2 ok⟩
 unfold Ct at hc
 exact⟨by omega,by omega,by omega,by omega,by omega⟩
theorem Fp{s:Bs}{code p:Nat}(h:ed s=.no code p):0 < code∧p≤s.length+1:=by
 unfold ed at h
 split at h
 ·injection h with h1 h2
  omega
 ·have h1:=uD _ _ _ _ _ _ h
  have h2:=sI s
  exact⟨uC _ _ _ _ _ _ h,by omega⟩
theorem zX(hU:Et){cf:CF}(ok:ly cf):(dU cf=([],4)∧uf cf≠0)∨(dU cf=(fm cf,0)∧ed (fm cf)=.ok cf):=by
 have he:=(ts ok.in).2 ok
 by_cases hl:(fm cf).length≤65536
 ·right
  have h:uf cf=0:=by unfold uf;rw[he,decide_eq_true hl];rfl
  refine⟨by unfold dU;rw[if_pos h],?_⟩
  unfold ed
  rw[if_neg (by omega)]
  exact Ho hU ok
 ·left
  have h:uf cf=4:=by unfold uf;rw[he,decide_eq_false hl];rfl
  refine⟨by unfold dU;rw[h,if_neg (by decide)],by rw[h];decide⟩
end Go.Proofs.YtnncigmpcdehnaaGreatDoor
