import Derived.Test.YtnncigmpcdehnaaGreatDoorQc45
namespace Go.Proofs.YtnncigmpcdehnaaGreatDoor
set_option maxRecDepth 100000
open Go Go.RowKit Go.Lib Go.Sort
theorem JC{w:World}{S:List Nat}{size n c:Nat}{A:Option Go.Addr}{xs:List Value}(h:kp w S size (.slice A n c) n xs) :
  ∀W,ah S w W→∃A' c',Value.slice A n c=.slice A' n c'∧(0 < xs.length→∃ad,A'=some ad∧∀(j:Nat) (u:Value),xs[j]?=some u→W.cell? (ad.add j)=some u):=by
 intro W hW
 obtain⟨h1,A',c',h2,h3⟩:=h.az hW
 refine⟨A',c',h2,fun h0=>?_⟩
 have hn:0 < n:=by
  rcases Nat.eq_zero_or_pos n with hz|hz
  ·rw[h1,hz,Nat.zero_mul]at h0;omega
  ·exact hz
 obtain⟨g,o,ha,_,_,hr⟩:=h3 hn
 exact⟨⟨g,o,none⟩,ha,fun j u hu=>by rw[Addr.add_lit];exact hr j u hu⟩
theorem tw{w:World}{size n c B:Nat}{A:Option Go.Addr}{xs:List Value}(h:kp w [] size (.slice A n c) n xs)(ho:∀u∈xs,u.oneCell'=true)(hn:n≤1000000000)(hb:B≤1000) :
  (∀W,ah [] w W→∃A' c',Value.slice A n c=.slice A' n c'∧(0 < xs.length→∃ad,A'=some ad∧∀(j:Nat) (u:Value),xs[j]?=some u→W.cell? (ad.add j)=some u))∧xs.length=n*size∧(∀u∈xs,u.oneCell'=true)∧0+n≤maxLen∧(0+n)*B≤140737488355328:=
 ⟨JC h,h.1,ho,by unfold maxLen;omega,Nat.le_trans (Nat.mul_le_mul (show 0+n≤1000000000 by omega) hb) (by decide)⟩
theorem tt{cells:List Value}{size n B:Nat}(hl:cells.length=1*size)(ha:cells.all (fun u=>u.oneCell')=true)(hn:n≤1000000000)(hb:B≤1000) :
  True∧cells.length=1*size∧(∀u:Value,u∈cells→u.oneCell'=true)∧0+n+1≤maxLen∧(0+n+1)*B≤140737488355328:=
 ⟨trivial,hl,fun u hu=>List.all_eq_true.1 ha u hu,by unfold maxLen;omega,Nat.le_trans (Nat.mul_le_mul (show 0+n+1≤1000000001 by omega) hb) (by decide)⟩
theorem tu{n:Nat}:(0:Int)=((0:Nat):Int)∧((n:Nat):Int)=((n:Nat):Int)∧0≤n∧n≤0+n+1:=⟨rfl,rfl,Nat.zero_le _,by omega⟩
theorem all_map{α:Type}{f:α→Value}(hf:∀x,(f x).oneCell'=true)(l:List α):∀u∈l.map f,u.oneCell'=true:=fun u hu=>by
 obtain⟨x,_,rfl⟩:=List.mem_map.1 hu
 exact hf x
theorem po{α:Type}{f:α→List Value}(hf:∀x,(f x).all (fun u=>u.oneCell')=true)(l:List α):∀u∈l.flatMap f,u.oneCell'=true:=fun u hu=>by
 obtain⟨x,_,hx⟩:=List.mem_flatMap.1 hu
 exact List.all_eq_true.1 (hf x) u hx
def MP:List Value:=[.int .i64 77]
def MO:List Value:=ow.cells++[.int .i64 77]
def MR:List Value:=.string ⟨#[]⟩::(fL.cells++[.int .i64 0,.int .i64 77,.string ⟨#[]⟩,.string ⟨#[]⟩])
def MQ:List Value:=[.string ⟨#[120]⟩,.int .u64 0,.int .u64 0,.int .u64 0]
def MS:List Value:=[.string ⟨#[]⟩,.int .i64 77,.int .i64 0]
def CT(k0 k1 k2 k3 k4:Nat)(cf:CF):List Sx.Atom:=[.s k0 0 cf.ag.length 0,.s k1 0 cf.ae.length 0,.s k2 0 cf.rules.length 0,.s k3 0 cf.af.length 0,.s k4 0 cf.aa.length 0,.v (.int .i64 cf.a8)]
def P4(cf:CF)(l:List Sx.SV)(mem:List Sx.Row):Prop:=∃k0 k1 k2 k3 k4,l=[.db (CT k0 k1 k2 k3 k4 cf)]∧mem[k0]?=some ⟨3,.own 1 (cf.ag.length+1) (cf.cp++MP)⟩∧mem[k1]?=some ⟨118,.own 19 (cf.ae.length+1) (cf.cr++MO)⟩∧mem[k2]?=some ⟨81,.own 49 (cf.rules.length+1) (cf.cl++MR)⟩∧mem[k3]?=some ⟨122,.own 4 (cf.af.length+1) (cf.cm++MQ)⟩∧mem[k4]?=some ⟨124,.own 3 (cf.aa.length+1) (cf.ci++MS)⟩
theorem Hu(w:World)(cf:CF)(s:eJ)(hr:dC w [] cf s)(hf:ef cf):Calls Tryz.prog 27 #[.agg (an cf s).toArray] w (Sx.bJ ⟨w,[],fun _ _=>False⟩ (P4 cf)):=by
 have c8:=tw hr.p (all_map (fun _=>rfl) cf.ag) hf.p (B:=bytesOf 3) cq.1
 have c20:=tw hr.r (po (fun _=>rfl) cf.ae) hf.r (B:=bytesOf 118) cq.2.1
 have c33:=tw hr.l (po (fun _=>rfl) cf.rules) hf.l (B:=bytesOf 81) cq.2.2.1
 have c46:=tw hr.m (po (fun _=>rfl) cf.af) hf.m (B:=bytesOf 122) cq.2.2.2.1
 have c59:=tw hr.i (po (fun _=>rfl) cf.aa) hf.i (B:=bytesOf 124) cq.2.2.2.2
 have c10:=tt (cells:=MP) (size:=1) rfl rfl hf.p (B:=bytesOf 3) cq.1
 have c23:=tt (cells:=MO) (size:=19) rfl rfl hf.r (B:=bytesOf 118) cq.2.1
 have c36:=tt (cells:=MR) (size:=49) rfl rfl hf.l (B:=bytesOf 81) cq.2.2.1
 have c49:=tt (cells:=MQ) (size:=4) rfl rfl hf.m (B:=bytesOf 122) cq.2.2.2.1
 have c62:=tt (cells:=MS) (size:=3) rfl rfl hf.i (B:=bytesOf 124) cq.2.2.2.2
 have c14:=tu (n:=cf.ag.length)
 have c27:=tu (n:=cf.ae.length)
 have c40:=tu (n:=cf.rules.length)
 have c53:=tu (n:=cf.af.length)
 have c66:=tu (n:=cf.aa.length)
 have z0:P4 cf [.db (CT 5 8 11 14 17 cf)] [⟨46,.aj (an cf s)⟩,⟨46,.dm ((CT 5 8 11 14 17 cf).map Sx.Atom.sv)⟩,⟨46,.dm ((CT 5 8 11 14 17 cf).map Sx.Atom.sv)⟩,
   Sx.al,⟨3,.aj MP⟩,⟨3,.own 1 (0+cf.ag.length+1) (cf.cp++MP)⟩,Sx.al,⟨118,.aj MO⟩,⟨118,.own 19 (0+cf.ae.length+1) (cf.cr++MO)⟩,
   Sx.al,⟨81,.aj MR⟩,⟨81,.own 49 (0+cf.rules.length+1) (cf.cl++MR)⟩,Sx.al,⟨122,.aj MQ⟩,⟨122,.own 4 (0+cf.af.length+1) (cf.cm++MQ)⟩,
   Sx.al,⟨124,.aj MS⟩,⟨124,.own 3 (0+cf.aa.length+1) (cf.ci++MS)⟩]:=by
  simp only[Nat.zero_add]
  exact⟨5,8,11,14,17,rfl,rfl,rfl,rfl,rfl,rfl⟩
 refine Sx.aW (args:=[.val (.agg (an cf s).toArray)]) (dE w) [(8,.app cf.ag.length cf.cp),(14,.Nw 0 cf.ag.length),(20,.app cf.ae.length cf.cr),(27,.Nw 0 cf.ae.length),(33,.app cf.rules.length cf.cl),(40,.Nw 0 cf.rules.length),(46,.app cf.af.length cf.cm),(53,.Nw 0 cf.af.length),(59,.app cf.aa.length cf.ci),(66,.Nw 0 cf.aa.length)] [] (by kernel_rfl) Tryz.func27 rfl (Nat.le_of_ble_eq_true rfl) rfl ?_
 exact Eq.mp (by kernel_rfl) (Sx.t8 c8 c10 c14 c20 c23 c27 c33 c36 (Sx.t4 c40 c46 c49 c53 (Sx.t2 c59 c62 (And.intro c66 z0))))
open Go.RowKit Go.Lib Go.Sort
def Ps{α:Type}(o:Out α):Prop:=∀c p,o=.no c p→0 < c
theorem Ps.ok{α:Type}{a:α}{i:Nat}:Ps (.ok a i):=fun _ _ h=>nomatch h
theorem Ps.no{α:Type}{c p:Nat}(h:0 < c):Ps (.no c p:Out α):=fun _ _ e=>by injection e with e _;omega
theorem Ps.bind{α β:Type}{r:Out α}{f:α→Nat→Out β}(h:Ps r)(hf:∀a i,Ps (f a i)):Ps (r.bind f):=by
 cases r with
 |ok a i=>exact hf a i
 |no c p=>exact fun c' p' e=>h c p rfl |> fun hc=>by cases e;exact hc
theorem Ps.next{ws:List Bs}{i:Nat}:Ps (aY ws i):=by unfold aY;split;exact .ok;exact .no (by decide)
theorem Ps.Fg{ws:List Bs}{i:Nat}{s:Bs}:Ps (cH ws i s):=by unfold cH;split<;>exact .ok
theorem Ps.want{α:Type}{b:Bool}{c:Nat}{a:α}{i:Nat}(h:0 < c):Ps (ak b c a i):=by cases b;exact .no h;exact .ok
theorem Ps.number{m:Nat}{ws:List Bs}{i:Nat}:Ps (bw m ws i):=.bind .next fun _ _=>.want (by decide)
theorem Ps.int{ws:List Bs}{i:Nat}:Ps (ic ws i):=.number
theorem Ps.name{ws:List Bs}{i:Nat}:Ps (ed ws i):=.bind .next fun _ _=>.want (by decide)
theorem Ps.pre{ws:List Bs}{i:Nat}:Ps (dD ws i):=.bind .next fun _ _=>.want (by decide)
theorem Ps.span{ws:List Bs}{i:Nat}:Ps (iC ws i):=.bind .next fun _ _=>.want (by decide)
theorem Ps.bS{ws:List Bs}{i:Nat}:Ps (dX ws i):=.bind .Fg fun a j=>by
 cases a
 ·refine .bind .Fg fun b k=>?_
  cases b
  ·exact .number
  ·exact .ok
 ·exact .ok
theorem Ps.P9{k:Nat}{m:Mt}{ws:List Bs}{i:Nat}:Ps (br k m ws i):=by
 unfold br
 split<;>refine .bind ?_ fun _ _=>.ok
 ·exact .span
 ·exact .pre
 ·exact .pre
 ·exact .bS
 ·exact .span
 ·exact .span
theorem Ps.field{ws:List Bs}{i:Nat}{m:Mt}:Ps (bp ws i m):=by
 unfold bp
 split
 ·exact .ok
 ·split
  ·exact .ok
  ·split
   ·exact .no (by decide)
   ·exact .bind .P9 fun _ _=>.ok
theorem Ps.ei(ws:List Bs):∀(f i:Nat) (m:Mt),Ps (ei ws f i m)
 | 0,i,m=>.ok
 |f+1,i,m=>.bind .field fun r j=>by
  cases r.1
  ·exact .ok
  ·exact Ps.ei ws f j r.2
theorem Ps.dR{ws:List Bs}{i:Nat}:Ps (dR ws i):=.bind .Fg fun a j=>by
 cases a
 ·refine .bind .field fun r k=>?_
  cases r.1
  ·exact .bind .next fun _ _=>.no (by decide)
  ·exact .ei _ _ _ _
 ·exact .ok
theorem Ps.act{out:Bool}{ws:List Bs}{i:Nat}:Ps (ou out ws i):=.bind .next fun x j=>by
 split
 ·exact .ok
 split
 ·exact .ok
 split
 ·exact .ok
 split
 ·exact .bind .int fun _ _=>.ok
 ·exact .no (by decide)
theorem Ps.opt{s:Bs}{ws:List Bs}{i:Nat}:Ps (js s ws i):=.bind .Fg fun b j=>by
 cases b
 ·exact .ok
 ·exact .name
theorem Ps.Qa{m:Mt}{ws:List Bs}{i:Nat}:Ps (J1 m ws i):=.bind .next fun _ _=>.bind (.want (by decide)) fun _ _=>.want (by decide)
theorem Ps.Pb{ws:List Bs}{i:Nat}:Ps (nu ws i):=.bind .name fun _ _=>.bind .dR fun _ _=>.bind .Qa fun _ _=>.bind .act fun _ _=>.bind .opt fun _ _=>.bind .opt fun _ _=>.ok
theorem Ps.Qe{α:Type}{ws:List Bs}{a:α}{i:Nat}:Ps (gy ws a i):=by unfold gy;split;exact .no (by decide);exact .ok
theorem Ps.body{x:Bs}{ws:List Bs}{i:Nat}{cf:CF}{d:Nat}:Ps (fC x ws i cf d):=by
 unfold fC
 split
 ·exact .bind .int fun _ _=>.ok
 split
 ·exact .bind .pre fun _ _=>.bind .int fun _ _=>.ok
 split
 ·exact .bind .name fun _ _=>.bind .number fun _ _=>.bind .number fun _ _=>.bind .number fun _ _=>.ok
 split
 ·exact .bind .name fun _ _=>.bind .int fun _ _=>.bind .int fun _ _=>.ok
 split
 ·exact .bind .Pb fun _ _=>.ok
 split
 ·exact .bind (.want (by decide)) fun _ _=>.bind .act fun _ _=>.ok
 ·exact .no (by decide)
theorem Ps.line{ws:List Bs}{cf:CF}{d:Nat}:Ps (eS ws cf d):=by
 unfold eS
 split
 ·exact .ok
 ·exact .bind .next fun _ _=>.bind .body fun _ _=>.Qe
def M3(cf:CF):Nat:=cf.ag.length+cf.ae.length+cf.rules.length+cf.af.length+cf.aa.length
open Go Go.RowKit Go.Lib Go.Sort
namespace Sx
def lZ(β β':Env)(m:Nat)(ks:List Nat):Env:=
 ⟨fun i=>if i < m then β i else β' (ks.getD (i - m) 0),fun i=>if i < m then β.a i else β'.a (ks.getD (i - m) 0),
  fun i=>if i < m then β.n i else β'.n (ks.getD (i - m) 0),fun i=>if i < m then β.c i else β'.c (ks.getD (i - m) 0)⟩
def F2(r:Row):Bool:=match r.cs with
 |.aj _=>true
 |.own _ _ _=>true
 |_=>false
theorem G1{β β':Env}{W w':World}{PP:List PanicEntry→World→Prop}{row:Nat→Option Row}{m:Nat}{ks:List Nat}{mem rows:List Row}{ret:SV}{X:List Nat}{e:Ending}(hR:Rows ⟨W,[],PP⟩ β' w' mem)
  (hl:rows.length=ks.length) (hm:∀j,j < ks.length→mem[ks.getD j 0]?=rows[j]?) (hd:(rows.map Row.ty).Nodup) (hp:eb F2 rows=true) (he:e=.returned (ret.den (lZ β β' m ks))) :
  Bz β W row m ⟨X,[],[],rows,ret,none⟩ e w' (lZ β β' m ks):=by
 have lt:∀(k:Nat) (r:Row),rows[k]?=some r→k < ks.length:=fun k r h=>by
  rw[←hl];exact(List.getElem?_eq_some_iff.1 h).1
 have at_:∀(k:Nat) (r:Row),rows[k]?=some r→mem[ks.getD k 0]?=some r:=fun k r h=>by rw[hm k (lt k r h),h]
 have sub:∀k,m+k - m=k:=fun k=>by omega
 have nl:∀k,¬(m+k < m):=fun k=>by omega
 have bM:∀(k:Nat) (r:Row),rows[k]?=some r→aw (lZ β β' m ks) (m+k) r=aw β' (ks.getD k 0) r:=fun k r h=>by
  have hpr:=aP hp r (List.mem_of_getElem? h)
  obtain⟨T,cs⟩:=r
  cases cs with
  |aj cs=>show some (if m+k < m then β (m+k)else β' (ks.getD (m+k - m) 0))=some (β' (ks.getD k 0)); rw[if_neg (nl k),sub]
  |own a b c=>show(if m+k < m then β.a (m+k)else β'.a (ks.getD (m+k - m) 0)).map _=(β'.a (ks.getD k 0)).map _; rw[if_neg (nl k),sub]
  |_=>cases hpr
 refine⟨fun i hi=>⟨?_,?_,?_,?_⟩,he,fun q hq=>(by cases hq),fun k r hr=>?_,fun k r x hr hx=>?_,fun k k' r r' x hr hr' hx hx'=>?_,hR.az⟩
 ·show β i=if i < m then β i else _;rw[if_pos hi]
 ·show β.a i=if i < m then β.a i else _;rw[if_pos hi]
 ·show β.n i=if i < m then β.n i else _;rw[if_pos hi]
 ·show β.c i=if i < m then β.c i else _;rw[if_pos hi]
 ·have h:=hR.held _ r (at_ k r hr)
  have hpr:=aP hp r (List.mem_of_getElem? hr)
  obtain⟨T,cs⟩:=r
  cases cs with
  |aj cs=>show aq w' (if m+k < m then β (m+k)else β' (ks.getD (m+k - m) 0)) T cs; rw[if_neg (nl k),sub]; exact h
  |own a b c=>
   show(if m+k < m then β.n (m+k)else β'.n (ks.getD (m+k - m) 0))=b∧Own w' T a (.slice (if m+k < m then β.a (m+k)else β'.a (ks.getD (m+k - m) 0)) b (if m+k < m then β.c (m+k)else β'.c (ks.getD (m+k - m) 0))) b c
   rw[if_neg (nl k),if_neg (nl k),if_neg (nl k),sub];exact h
  |_=>cases hpr
 ·rw[bM k r hr]at hx
  rcases hR.new _ r x (at_ k r hr) hx with h|h
  ·cases h
  ·exact .inr h
 ·rw[bM k r hr]at hx
  rw[bM k' r' hr']at hx'
  have hk:=hR.inj _ _ r r' x (at_ k r hr) (at_ k' r' hr') hx hx'
  have a1:=at_ k r hr
  have a2:=at_ k' r' hr'
  rw[hk,a2]at a1
  have hrr:r=r':=(Option.some.inj a1).symm
  subst hrr
  have i1:(rows.map Row.ty)[k]?=some r.ty:=by rw[List.getElem?_map,hr];rfl
  have i2:(rows.map Row.ty)[k']?=some r.ty:=by rw[List.getElem?_map,hr'];rfl
  exact(List.getElem?_inj (by rw[List.length_map,hl];exact lt k r hr) hd).1 (i1.trans i2.symm)
end Sx
theorem kp.pre{w:World}{S:List Nat}{size n c:Nat}{A:Option Go.Addr}{xs ys:List Value}(h:kp w S size (.slice A (n+1) c) (n+1) (xs++ys))(hx:xs.length=n*size):kp w S size (.slice A n c) n xs:=by
 obtain⟨_,A',c',h2,h3⟩:=h
 injection h2 with h2 _ h4
 subst h2;subst h4
 refine⟨hx,A,c,rfl,fun _=>?_⟩
 obtain⟨g,o,ha,hg,hl,hr⟩:=h3 (Nat.succ_pos n)
 exact⟨g,o,ha,hg,hl,fun j u hu=>hr j u (by rw[List.getElem?_append_left (List.getElem?_eq_some_iff.1 hu).1];exact hu)⟩
structure O0(mem:List Sx.Row)(k0 k1 k2 k3 k4:Nat)(cf:CF):Prop where
 p:mem[k0]?=some ⟨3,.own 1 (cf.ag.length+1) (cf.cp++MP)⟩
 r:mem[k1]?=some ⟨118,.own 19 (cf.ae.length+1) (cf.cr++MO)⟩
 l:mem[k2]?=some ⟨81,.own 49 (cf.rules.length+1) (cf.cl++MR)⟩
 m:mem[k3]?=some ⟨122,.own 4 (cf.af.length+1) (cf.cm++MQ)⟩
 i:mem[k4]?=some ⟨124,.own 3 (cf.aa.length+1) (cf.ci++MS)⟩
def rJ(cf:CF):List Sx.Row:=[⟨3,.own 1 (cf.ag.length+1) (cf.cp++MP)⟩,⟨118,.own 19 (cf.ae.length+1) (cf.cr++MO)⟩,⟨81,.own 49 (cf.rules.length+1) (cf.cl++MR)⟩,⟨122,.own 4 (cf.af.length+1) (cf.cm++MQ)⟩,⟨124,.own 3 (cf.aa.length+1) (cf.ci++MS)⟩]
theorem PG(A:Option Go.Addr):A.map (·.add 0)=A:=by
 cases A with
 |none=>rfl
 |some a=>show some (a.add 0)=some a;cases a;simp[Addr.add]
theorem EB(β:Sx.Env)(i n:Nat):(Sx.Atom.s i 0 n 0).den β=.slice (β.a i) n (β.c i):=by
 show Value.slice (if β.c i=0 then β.a i else(β.a i).map (·.add 0)) n (β.c i - 0)=_
 rw[PG];split<;>rfl
theorem wK{β:Sx.Env}{k0 k1 k2 k3 k4:Nat}{cf:CF}:(Sx.SV.db (CT k0 k1 k2 k3 k4 cf)).den β=.agg (an cf (iq β k0 k1 k2 k3 k4)).toArray:=by
 show Value.agg ((CT k0 k1 k2 k3 k4 cf).map (Sx.Atom.den β)).toArray=_
 unfold CT
 simp only[List.map_cons,List.map_nil,EB]
 rfl
theorem MY{cf:CF}:cf.cp.length=cf.ag.length*1∧cf.cr.length=cf.ae.length*19∧cf.cl.length=cf.rules.length*49∧cf.cm.length=cf.af.length*4∧cf.ci.length=cf.aa.length*3:=by
 have fl:∀{α:Type} (f:α→List Value) (z:Nat) (_:∀x,(f x).length=z) (l:List α),(l.flatMap f).length=l.length*z:=fun f z hf l=>by
  induction l with
  |nil=>simp
  |cons y r ih=>rw[List.flatMap_cons,List.length_append,hf,ih,List.length_cons,Nat.add_mul];omega
 refine⟨by simp[CF.cp],fl _ _ (fun x=>?_) _,fl _ _ (fun x=>?_) _,fl _ _ (fun x=>?_) _,fl _ _ (fun x=>?_) _⟩
 ·exact Rt.aF x
 ·exact Rl.aF x
 ·exact Me.aF x
 ·exact Mi.aF x
theorem Ht{b:Sx.a7}{β:Sx.Env}{W:World}{mem:List Sx.Row}{fK:List Nat}{k0 k1 k2 k3 k4:Nat}{cf:CF}(hS:Sx.dz b β W (Sx.rowAt mem) fK)(h:O0 mem k0 k1 k2 k3 k4 cf)(hs:∀k∈[k0,k1,k2,k3,k4],k∈fK) :
  dC W [] cf (iq β k0 k1 k2 k3 k4):=by
 have no:∀{v:Value} k,v.ownBlock=some k→k∉([]:List Nat):=fun _ _ h=>by cases h
 obtain⟨l0,l1,l2,l3,l4⟩:=MY (cf:=cf)
 have o0:Own W 3 1 (.slice (β.a k0) (cf.ag.length+1) (β.c k0)) (cf.ag.length+1) (cf.cp++MP):=(hS.held k0 (hs _ (by simp)) _ h.p).2
 have o1:Own W 118 19 (.slice (β.a k1) (cf.ae.length+1) (β.c k1)) (cf.ae.length+1) (cf.cr++MO):=(hS.held k1 (hs _ (by simp)) _ h.r).2
 have o2:Own W 81 49 (.slice (β.a k2) (cf.rules.length+1) (β.c k2)) (cf.rules.length+1) (cf.cl++MR):=(hS.held k2 (hs _ (by simp)) _ h.l).2
 have o3:Own W 122 4 (.slice (β.a k3) (cf.af.length+1) (β.c k3)) (cf.af.length+1) (cf.cm++MQ):=(hS.held k3 (hs _ (by simp)) _ h.m).2
 have o4:Own W 124 3 (.slice (β.a k4) (cf.aa.length+1) (β.c k4)) (cf.aa.length+1) (cf.ci++MS):=(hS.held k4 (hs _ (by simp)) _ h.i).2
 exact⟨(kp.gK o0 no).pre l0,(kp.gK o1 no).pre l1,(kp.gK o2 no).pre l2,(kp.gK o3 no).pre l3,(kp.gK o4 no).pre l4⟩
def OJ(fK:List Nat)(m:Nat)(cf:CF):Sx.cj:=⟨fK,[],[],rJ cf,.db (CT m (m+1) (m+2) (m+3) (m+4) cf),none⟩
theorem yZ{b:Sx.a7}{row:Nat→Option Sx.Row}{m:Nat}{cf:CF}{s:eJ}{fK:List Nat}(hf:ef cf)(W:World)(β:Sx.Env)(_:Sx.dz b β W row fK)(hr:dC W [] cf s) :
  Calls Tryz.prog 27 #[.agg (an cf s).toArray] W (Sx.aQ b β W row m (OJ fK m cf)):=by
 refine(Hu W cf s hr hf).mono fun en w' hp=>?_
 rcases hp with⟨β',l,mem,⟨k0,k1,k2,k3,k4,rfl,q0,q1,q2,q3,q4⟩,he,hR⟩ | ⟨_,_,hf,_⟩
 ·refine .inl ⟨fun p hp=>(by cases hp),Sx.lZ β β' m [k0,k1,k2,k3,k4],Sx.G1 hR rfl (fun j hj=>?_) (by show [3,118,81,122,124].Nodup;decide) rfl ?_⟩
  ·match j,hj with
   | 0,_=>exact q0
   | 1,_=>exact q1
   | 2,_=>exact q2
   | 3,_=>exact q3
   | 4,_=>exact q4
  ·rw[he]
   show Ending.returned ((Sx.SV.db (CT k0 k1 k2 k3 k4 cf)).den β')=.returned ((Sx.SV.db (CT m (m+1) (m+2) (m+3) (m+4) cf)).den _)
   rw[wK,wK]
   congr 2
   have e:∀j,¬(m+j < m):=fun j=>by omega
   simp[iq,Sx.lZ,e]
 ·exact hf.elim
theorem qm{b:Sx.a7}{mem:List Sx.Row}{i m:Nat}{cf:CF}(hlan:dy b.w)(h9:∀k∈b.S,9≤k)(h:O0 mem i (i+1) (i+2) (i+3) (i+4) cf)(hw:dL cf)(hf:ef cf)(hB:(cJ cf).length≤140737488355328)(W:World)(β:Sx.Env)(hS:Sx.dz b β W (Sx.rowAt mem) (ec i)) :
  Calls Tryz.prog 28 (([.db (CT i (i+1) (i+2) (i+3) (i+4) cf)]:List Sx.SV).map (Sx.SV.den β)).toArray W (Sx.aQ b β W (Sx.rowAt mem) m ⟨ec i,[],[],[],.val (.tuple #[ab (dt cf).1,.int .i64 (dt cf).2]),none⟩):=by
 have hr:=Ht hS h (fun k hk=>hk)
 show Calls Tryz.prog 28 #[(Sx.SV.db (CT i (i+1) (i+2) (i+3) (i+4) cf)).den β] W _
 rw[wK]
 exact(Cc (hlan.az hS.az h9) cf _ hr hw hf hB).mono fun en w' ⟨he,hc⟩=>.inl ⟨fun p hp=>(by cases hp),β,Sx.cN (v:=.tuple #[ab (dt cf).1,.int .i64 (dt cf).2]) rfl rfl he (fun q hq=>by cases hq) hc⟩
end Go.Proofs.YtnncigmpcdehnaaGreatDoor
