import Derived.Test.YtnncigmpcdehnaaGreatDoorQf47
import Derived.OpenShut
import Derived.ChangeMaps5
import Derived.Deep.Slices
namespace Go.Proofs.YtnncigmpcdehnaaGreatDoor
open Go Go.RowKit Go.Lib Go.Sort _root_.Go.Proofs.Tryz
namespace Sx
def nu(β β':Env)(m:Nat)(ks:List Nat):Env:=
 ⟨fun i=>if i < m then β i else β' (ks.getD (i - m) 0),fun i=>if i < m then β.a i else β'.a (ks.getD (i - m) 0),
  fun i=>if i < m then β.n i else β'.n (ks.getD (i - m) 0),fun i=>if i < m then β.c i else β'.c (ks.getD (i - m) 0)⟩
def Ja(r:Row):Bool:=match r.cs with
 |.ak _=>true
 |.own _ _ _=>true
 |_=>false
theorem J5{β β':Env}{W w':World}{PP:List PanicEntry→World→Prop}{row:Nat→Option Row}{m:Nat}{ks:List Nat}{mem rows:List Row}{ret:SV}{X:List Nat}{e:Ending}(hR:Rows ⟨W,[],PP⟩ β' w' mem)
  (hl:rows.length=ks.length) (hm:∀j,j < ks.length→mem[ks.getD j 0]?=rows[j]?) (hd:(rows.map Row.ty).Nodup) (hp:fj Ja rows=true) (he:e=.returned (ret.den (nu β β' m ks))) :
  Cf β W row m ⟨X,[],[],rows,ret,none⟩ e w' (nu β β' m ks):=by
 have lt:∀(k:Nat) (r:Row),rows[k]?=some r→k < ks.length:=fun k r h=>by
  rw[←hl];exact(List.getElem?_eq_some_iff.1 h).1
 have at_:∀(k:Nat) (r:Row),rows[k]?=some r→mem[ks.getD k 0]?=some r:=fun k r h=>by rw[hm k (lt k r h),h]
 have sub:∀k,m+k - m=k:=fun k=>by omega
 have nl:∀k,¬(m+k < m):=fun k=>by omega
 have b9:∀(k:Nat) (r:Row),rows[k]?=some r→av (nu β β' m ks) (m+k) r=av β' (ks.getD k 0) r:=fun k r h=>by
  have hpr:=aT hp r (List.mem_of_getElem? h)
  obtain⟨T,cs⟩:=r
  cases cs with
  |ak cs=>show some (if m+k < m then β (m+k)else β' (ks.getD (m+k - m) 0))=some (β' (ks.getD k 0)); rw[if_neg (nl k),sub]
  |own a b c=>show(if m+k < m then β.a (m+k)else β'.a (ks.getD (m+k - m) 0)).map _=(β'.a (ks.getD k 0)).map _; rw[if_neg (nl k),sub]
  |_=>cases hpr
 refine⟨fun i hi=>⟨?_,?_,?_,?_⟩,he,fun q hq=>(by cases hq),fun k r hr=>?_,fun k r x hr hx=>?_,fun k k' r r' x hr hr' hx hx'=>?_,hR.aG⟩
 ·show β i=if i < m then β i else _;rw[if_pos hi]
 ·show β.a i=if i < m then β.a i else _;rw[if_pos hi]
 ·show β.n i=if i < m then β.n i else _;rw[if_pos hi]
 ·show β.c i=if i < m then β.c i else _;rw[if_pos hi]
 ·have h:=hR.held _ r (at_ k r hr)
  have hpr:=aT hp r (List.mem_of_getElem? hr)
  obtain⟨T,cs⟩:=r
  cases cs with
  |ak cs=>show au w' (if m+k < m then β (m+k)else β' (ks.getD (m+k - m) 0)) T cs; rw[if_neg (nl k),sub]; exact h
  |own a b c=>
   show(if m+k < m then β.n (m+k)else β'.n (ks.getD (m+k - m) 0))=b∧Own w' T a (.slice (if m+k < m then β.a (m+k)else β'.a (ks.getD (m+k - m) 0)) b (if m+k < m then β.c (m+k)else β'.c (ks.getD (m+k - m) 0))) b c
   rw[if_neg (nl k),if_neg (nl k),if_neg (nl k),sub];exact h
  |_=>cases hpr
 ·rw[b9 k r hr]at hx
  rcases hR.new _ r x (at_ k r hr) hx with h|h
  ·cases h
  ·exact .inr h
 ·rw[b9 k r hr]at hx
  rw[b9 k' r' hr']at hx'
  have hk:=hR.inj _ _ r r' x (at_ k r hr) (at_ k' r' hr') hx hx'
  have a1:=at_ k r hr
  have a2:=at_ k' r' hr'
  rw[hk,a2]at a1
  have hrr:r=r':=(Option.some.inj a1).symm
  subst hrr
  have i1:(rows.map Row.ty)[k]?=some r.ty:=by rw[List.getElem?_map,hr];rfl
  have i2:(rows.map Row.ty)[k']?=some r.ty:=by rw[List.getElem?_map,hr'];rfl
  exact(List.getElem?_inj (by rw[List.length_map,hl];exact lt k r hr) hd).1 (i1.trans i2.symm)
end Sx
theorem kV.pre{w:World}{S:List Nat}{size n c:Nat}{A:Option Go.Addr}{xs ys:List Value}(h:kV w S size (.slice A (n+1) c) (n+1) (xs++ys))(hx:xs.length=n*size):kV w S size (.slice A n c) n xs:=by
 obtain⟨_,A',c',h2,h3⟩:=h
 injection h2 with h2 _ h4
 subst h2;subst h4
 refine⟨hx,A,c,rfl,fun _=>?_⟩
 obtain⟨g,o,ha,hg,hl,hr⟩:=h3 (Nat.succ_pos n)
 exact⟨g,o,ha,hg,hl,fun j u hu=>hr j u (by rw[List.getElem?_append_left (List.getElem?_eq_some_iff.1 hu).1];exact hu)⟩
structure Lu(mem:List Sx.Row)(k0 k1 k2 k3 k4:Nat)(cf:CF):Prop where
 p:mem[k0]?=some ⟨3,.own 1 (cf.ag.length+1) (cf.cp++O6)⟩
 r:mem[k1]?=some ⟨118,.own 19 (cf.ae.length+1) (cf.cr++O5)⟩
 l:mem[k2]?=some ⟨81,.own 49 (cf.rules.length+1) (cf.cl++O8)⟩
 m:mem[k3]?=some ⟨122,.own 4 (cf.af.length+1) (cf.cm++O7)⟩
 i:mem[k4]?=some ⟨124,.own 3 (cf.aa.length+1) (cf.ci++O9)⟩
def ID(cf:CF):List Sx.Row:=[⟨3,.own 1 (cf.ag.length+1) (cf.cp++O6)⟩,⟨118,.own 19 (cf.ae.length+1) (cf.cr++O5)⟩,⟨81,.own 49 (cf.rules.length+1) (cf.cl++O8)⟩,⟨122,.own 4 (cf.af.length+1) (cf.cm++O7)⟩,⟨124,.own 3 (cf.aa.length+1) (cf.ci++O9)⟩]
theorem Ty(A:Option Go.Addr):A.map (·.add 0)=A:=by
 cases A with
 |none=>rfl
 |some a=>show some (a.add 0)=some a;cases a;simp[Addr.add]
theorem Hf(β:Sx.Env)(i n:Nat):(Sx.Atom.s i 0 n 0).den β=.slice (β.a i) n (β.c i):=by
 show Value.slice (if β.c i=0 then β.a i else(β.a i).map (·.add 0)) n (β.c i - 0)=_
 rw[Ty];split<;>rfl
theorem tp{β:Sx.Env}{k0 k1 k2 k3 k4:Nat}{cf:CF}:(Sx.SV.dD (DE k0 k1 k2 k3 k4 cf)).den β=.agg (al cf (iD β k0 k1 k2 k3 k4)).toArray:=by
 show Value.agg ((DE k0 k1 k2 k3 k4 cf).map (Sx.Atom.den β)).toArray=_
 unfold DE
 simp only[List.map_cons,List.map_nil,Hf]
 rfl
theorem KB{cf:CF}:cf.cp.length=cf.ag.length*1∧cf.cr.length=cf.ae.length*19∧cf.cl.length=cf.rules.length*49∧cf.cm.length=cf.af.length*4∧cf.ci.length=cf.aa.length*3:=by
 have fl:∀{α:Type} (f:α→List Value) (z:Nat) (_:∀x,(f x).length=z) (l:List α),(l.flatMap f).length=l.length*z:=fun f z hf l=>by
  induction l with
  |nil=>simp
  |cons y r ih=>rw[List.flatMap_cons,List.length_append,hf,ih,List.length_cons,Nat.add_mul];omega
 refine⟨by simp[CF.cp],fl _ _ (fun x=>?_) _,fl _ _ (fun x=>?_) _,fl _ _ (fun x=>?_) _,fl _ _ (fun x=>?_) _⟩
 ·exact Rt.az x
 ·exact Rl.az x
 ·exact Me.az x
 ·exact Mi.az x
theorem BA{b:Sx.aU}{β:Sx.Env}{W:World}{mem:List Sx.Row}{see:List Nat}{k0 k1 k2 k3 k4:Nat}{cf:CF}(hS:Sx.eF b β W (Sx.rowAt mem) see)(h:Lu mem k0 k1 k2 k3 k4 cf)(hs:∀k∈[k0,k1,k2,k3,k4],k∈see) :
  dj W [] cf (iD β k0 k1 k2 k3 k4):=by
 have no:∀{v:Value} k,v.ownBlock=some k→k∉([]:List Nat):=fun _ _ h=>by cases h
 obtain⟨l0,l1,l2,l3,l4⟩:=KB (cf:=cf)
 have o0:Own W 3 1 (.slice (β.a k0) (cf.ag.length+1) (β.c k0)) (cf.ag.length+1) (cf.cp++O6):=(hS.held k0 (hs _ (by simp)) _ h.p).2
 have o1:Own W 118 19 (.slice (β.a k1) (cf.ae.length+1) (β.c k1)) (cf.ae.length+1) (cf.cr++O5):=(hS.held k1 (hs _ (by simp)) _ h.r).2
 have o2:Own W 81 49 (.slice (β.a k2) (cf.rules.length+1) (β.c k2)) (cf.rules.length+1) (cf.cl++O8):=(hS.held k2 (hs _ (by simp)) _ h.l).2
 have o3:Own W 122 4 (.slice (β.a k3) (cf.af.length+1) (β.c k3)) (cf.af.length+1) (cf.cm++O7):=(hS.held k3 (hs _ (by simp)) _ h.m).2
 have o4:Own W 124 3 (.slice (β.a k4) (cf.aa.length+1) (β.c k4)) (cf.aa.length+1) (cf.ci++O9):=(hS.held k4 (hs _ (by simp)) _ h.i).2
 exact⟨(kV.eM o0 no).pre l0,(kV.eM o1 no).pre l1,(kV.eM o2 no).pre l2,(kV.eM o3 no).pre l3,(kV.eM o4 no).pre l4⟩
def Tr(see:List Nat)(m:Nat)(cf:CF):Sx.cC:=⟨see,[],[],ID cf,.dD (DE m (m+1) (m+2) (m+3) (m+4) cf),none⟩
theorem KE{b:Sx.aU}{row:Nat→Option Sx.Row}{m:Nat}{cf:CF}{s:ey}{see:List Nat}(hf:fb cf)(W:World)(β:Sx.Env)(_:Sx.eF b β W row see)(hr:dj W [] cf s) :
  Calls prog 27 #[.agg (al cf s).toArray] W (Sx.aY b β W row m (Tr see m cf)):=by
 refine(KD W cf s hr hf).mono fun en w' hp=>?_
 rcases hp with⟨β',l,mem,⟨k0,k1,k2,k3,k4,rfl,q0,q1,q2,q3,q4⟩,he,hR⟩ | ⟨_,_,hf,_⟩
 ·refine .inl ⟨fun p hp=>(by cases hp),Sx.nu β β' m [k0,k1,k2,k3,k4],Sx.J5 hR rfl (fun j hj=>?_) (by show [3,118,81,122,124].Nodup;decide) rfl ?_⟩
  ·match j,hj with
   | 0,_=>exact q0
   | 1,_=>exact q1
   | 2,_=>exact q2
   | 3,_=>exact q3
   | 4,_=>exact q4
  ·rw[he]
   show Ending.returned ((Sx.SV.dD (DE k0 k1 k2 k3 k4 cf)).den β')=.returned ((Sx.SV.dD (DE m (m+1) (m+2) (m+3) (m+4) cf)).den _)
   rw[tp,tp]
   congr 2
   have e:∀j,¬(m+j < m):=fun j=>by omega
   simp[iD,Sx.nu,e]
 ·exact hf.elim
theorem Ah{b:Sx.aU}{mem:List Sx.Row}{i m:Nat}{cf:CF}(hlan:eb b.w)(h9:∀k∈b.S,9≤k)(h:Lu mem i (i+1) (i+2) (i+3) (i+4) cf)(hw:da cf)(hf:fb cf)(hB:(eh cf).length≤140737488355328)(W:World)(β:Sx.Env)(hS:Sx.eF b β W (Sx.rowAt mem) (fF i)) :
  Calls prog 28 (([.dD (DE i (i+1) (i+2) (i+3) (i+4) cf)]:List Sx.SV).map (Sx.SV.den β)).toArray W (Sx.aY b β W (Sx.rowAt mem) m ⟨fF i,[],[],[],.val (.tuple #[ab (dG cf).1,.int .i64 (dG cf).2]),none⟩):=by
 have hr:=BA hS h (fun k hk=>hk)
 show Calls prog 28 #[(Sx.SV.dD (DE i (i+1) (i+2) (i+3) (i+4) cf)).den β] W _
 rw[tp]
 exact(Ev (hlan.aG hS.aG h9) cf _ hr hw hf hB).mono fun en w' ⟨he,hc⟩=>.inl ⟨fun p hp=>(by cases hp),β,Sx.du (v:=.tuple #[ab (dG cf).1,.int .i64 (dG cf).2]) rfl rfl he (fun q hq=>by cases hq) hc⟩
set_option maxRecDepth 100000
open Go Go.RowKit Go.Lib Go.Sort _root_.Go.Proofs.Tryz
theorem yc{P:Program}{t e:TypeId}{inf:TypeInfo}(hu:P.underlying t=some (.slice e))(hi:P.info? e=some inf)(g o n c k:Nat)(h:k≤c)(W:World) :
  (Instr.sliceAt t (.slice (some ⟨g,o,none⟩) n c) none (some (.int .i64 (k:Int))) none).run P W=.ok (.slice (some ⟨g,o,none⟩) k c) W:=by
 simp[Instr.sliceAt,run_underlying hu,Instr.slice,Instr.sliceBounds,Instr.sliceBound,asIntOf,h,sizeOf,typeInfo,hi,Addr.add]
def kG(w:World)(sl:Sl)(n size k:Nat)(v:Value):Prop:=∃g o,sl.A=some ⟨g,o,none⟩∧n+1≤sl.c∧g < w.heap.size∧w.cell? ⟨g,o+n*size+k,none⟩=some v
theorem kG.eM{w:World}{T size n c k:Nat}{A:Option Go.Addr}{xs ys:List Value}{v:Value}(h:Own w T size (.slice A (n+1) c) (n+1) (xs++ys))(hx:xs.length=n*size)(hy:ys[k]?=some v):kG w ⟨A,c⟩ n size k v:=by
 obtain⟨g,o,c',hv,hc,_,hg⟩:=h.some_ (Nat.succ_pos n)
 injection hv with h1 _ h3
 subst h1;subst h3
 refine⟨g,o,rfl,hc,hg,?_⟩
 have:=(Own.cell h (j:=n*size+k) (u:=v) (by rw[List.getElem?_append_right (by omega),hx,Nat.add_sub_cancel_left];exact hy)).1
 rw[←Nat.add_assoc]at this
 exact this
theorem kG.ix{w:World}{P:Program}{sl:Sl}{n size k t e:Nat}{inf:TypeInfo}{d:TypeDesc}{tv:Nat}{v:Value}(h:kG w sl n size k v)(hu:P.underlying t=some (.slice e))(hi:P.info? e=some inf)(hs:inf.size=size)(hv:P.underlying tv=some d)(hr:d.isRow=false) :
  ∃g o,(∀W,ai [] w W→(Instr.sliceAt t (.slice sl.A n sl.c) none (some (.int .i64 ((n+1:Nat):Int))) none).run P W=.ok (.slice (some ⟨g,o,none⟩) (n+1) sl.c) W)∧
   (∀W,ai [] w W→(Instr.indexAt t (.slice (some ⟨g,o,none⟩) (n+1) sl.c) (.int .i64 (n:Int))).run P W=.ok (.pointer (some ⟨g,o+n*size,none⟩)) W)∧
   ∀W,ai [] w W→(Instr.loadAt tv (.pointer (some ⟨g,o+n*size+k,none⟩))).run P W=.ok v W:=by
 obtain⟨g,o,ha,hc,hg,hcell⟩:=h
 rw[ha]
 refine⟨g,o,fun W _=>yc hu hi g o n sl.c (n+1) hc W,fun W _=>?_,fun W hW=>sY hv hr ((hW.cell (p:=⟨g,o+n*size+k,none⟩) hg (by simp)).trans hcell)⟩
 have:=jn hu hi g o (n+1) sl.c n (Nat.lt_succ_self n) W
 rw[hs]at this
 exact this
structure SE(w:World)(cf:CF)(s:ey):Prop where
 p:kG w s.p cf.ag.length 1 0 (.int .i64 77)
 r:kG w s.r cf.ae.length 19 18 (.int .i64 77)
 l:kG w s.l cf.rules.length 49 46 (.int .i64 77)
 m:kG w s.m cf.af.length 4 0 (ab [120])
 i:kG w s.i cf.aa.length 3 1 (.int .i64 77)
theorem zA{n:Nat}(h:n≤1000000000):Value.int .i64 (IntKind.i64.wrap ((n:Int)+1))=.int .i64 ((n+1:Nat):Int):=iw (by rw[sV (by omega) (by omega)];rfl)
theorem Qf{w:World}(cf:CF)(s t:ey)(hs:dj w [] cf s)(ht:dj w [] cf t)(hx:SE w cf s)(hw:da cf)(hf:fb cf):Calls prog 30 #[.agg (al cf s).toArray,.agg (al cf t).toArray] w (Rn w (.bool true)):=by
 have c7:=fun W (hW:ai [] w W)=>(show Calls prog 25 #[.agg (al cf s).toArray,.agg (al cf t).toArray] W (Rn W (.bool true))from by
  have:=Iw cf cf s t (hs.aG hW) (ht.aG hW) hw hw hf
  rwa [show cx cf cf=true from(bD _ _).2 rfl]at this)
 obtain⟨i3,a1,a2⟩:=cY (P:=prog) (t:=3) (n:=1) (by kernel_rfl)
 obtain⟨i118,b1,b2⟩:=cY (P:=prog) (t:=118) (n:=19) (by kernel_rfl)
 obtain⟨i81,d1,d2⟩:=cY (P:=prog) (t:=81) (n:=49) (by kernel_rfl)
 obtain⟨i122,e1,e2⟩:=cY (P:=prog) (t:=122) (n:=4) (by kernel_rfl)
 obtain⟨i124,f1,f2⟩:=cY (P:=prog) (t:=124) (n:=3) (by kernel_rfl)
 obtain⟨g0,o0,c15,c19,c20⟩:=hx.p.ix underlying40 a1 a2 (tv:=3) underlying3 rfl
 obtain⟨g1,o1,c29,c33,c35⟩:=hx.r.ix underlying41 b1 b2 (tv:=3) underlying3 rfl
 obtain⟨g2,o2,c45,c49,c51⟩:=hx.l.ix underlying42 d1 d2 (tv:=3) underlying3 rfl
 obtain⟨g3,o3,c61,c65,c67⟩:=hx.m.ix underlying43 e1 e2 (tv:=9) underlying9 rfl
 obtain⟨g4,o4,c77,c81,c83⟩:=hx.i.ix underlying44 f1 f2 (tv:=3) underlying3 rfl
 have c14:=zA hf.p
 have c28:=zA hf.r
 have c44:=zA hf.l
 have c60:=zA hf.m
 have c76:=zA hf.i
 have c21:Value.bool ((77:Int)==77)=.bool true:=rfl
 have c36:=c21
 have c52:=c21
 have c84:=c21
 have c68:=fun W=>bJ (.tmp 67) (.const (ab [120])) [120] [120] true rfl W
 have c34:=fun W (_:ai [] w W)=>fG (P:=prog) (s:=118) (f:=1) (k:=18) (b:=g1) (off:=o1+cf.ae.length*19) (by kernel_rfl) W
 have c50:=fun W (_:ai [] w W)=>fG (P:=prog) (s:=81) (f:=3) (k:=46) (b:=g2) (off:=o2+cf.rules.length*49) (by kernel_rfl) W
 have c66:=fun W (_:ai [] w W)=>fG (P:=prog) (s:=122) (f:=0) (k:=0) (b:=g3) (off:=o3+cf.af.length*4) (by kernel_rfl) W
 have c82:=fun W (_:ai [] w W)=>fG (P:=prog) (s:=124) (f:=1) (k:=1) (b:=g4) (off:=o4+cf.aa.length*3) (by kernel_rfl) W
 have z0:Value.bool true=.bool true:=rfl
 refine Sx.aF (args:=[.agg (al cf s).toArray,.agg (al cf t).toArray]) [(7,.call (.bool true)),
  (14,.is (.int .i64 ((cf.ag.length+1:Nat):Int))),(15,.any (.slice (some ⟨g0,o0,none⟩) (cf.ag.length+1) s.p.c)),(19,.any ((pt g0 (o0+cf.ag.length*1)))),(20,.any (.int .i64 77)),(21,.is (.bool true)),
  (28,.is (.int .i64 ((cf.ae.length+1:Nat):Int))),(29,.any (.slice (some ⟨g1,o1,none⟩) (cf.ae.length+1) s.r.c)),(33,.any ((pt g1 (o1+cf.ae.length*19)))),(34,.any ((pt g1 (o1+cf.ae.length*19+18)))),(35,.any (.int .i64 77)),(36,.is (.bool true)),
  (44,.is (.int .i64 ((cf.rules.length+1:Nat):Int))),(45,.any (.slice (some ⟨g2,o2,none⟩) (cf.rules.length+1) s.l.c)),(49,.any ((pt g2 (o2+cf.rules.length*49)))),(50,.any ((pt g2 (o2+cf.rules.length*49+46)))),(51,.any (.int .i64 77)),(52,.is (.bool true)),
  (60,.is (.int .i64 ((cf.af.length+1:Nat):Int))),(61,.any (.slice (some ⟨g3,o3,none⟩) (cf.af.length+1) s.m.c)),(65,.any ((pt g3 (o3+cf.af.length*4)))),(66,.any ((pt g3 (o3+cf.af.length*4+0)))),(67,.any (ab [120])),(68,.bin (.bool true)),
  (76,.is (.int .i64 ((cf.aa.length+1:Nat):Int))),(77,.any (.slice (some ⟨g4,o4,none⟩) (cf.aa.length+1) s.i.c)),(81,.any ((pt g4 (o4+cf.aa.length*3)))),(82,.any ((pt g4 (o4+cf.aa.length*3+1)))),(83,.any (.int .i64 77)),(84,.is (.bool true))] [] (by kernel_rfl) func30 rfl (cn rfl) ?_
 exact Eq.mp (by kernel_rfl) (Sx.t8 c7 c14 c15 c19 c20 c21 c28 c29 (Sx.t8 c33 c34 c35 c36 c44 c45 c49 c50 (Sx.t8 c51 c52 c60 c61 c65 c66 c67 c68 (Sx.t4 c76 c77 c81 c82 (Sx.t2 c83 c84 z0)))))
open Go Go.RowKit Go.Lib Go.Sort
def s0:ey:=⟨⟨none,0⟩,⟨none,0⟩,⟨none,0⟩,⟨none,0⟩,⟨none,0⟩⟩
abbrev SM(w:World):Sx.aU:=⟨w,[],fun _ _=>False⟩
open Go Go.RowKit Go.Lib Go.Sort
theorem da.in{cf:CF}(h:da cf):OD cf:=
 ⟨fun n hn=>(h.p n hn).2,fun r hr=>⟨(h.r r hr).n,(h.r r hr).o.2⟩,fun m hm=>⟨(h.m m hm).a,(h.m m hm).b,(h.m m hm).c⟩,fun m hm=>⟨(h.i m hm).o.2,(h.i m hm).r.2⟩,fun r hr=>⟨(h.l r hr).m.in,(h.l r hr).o.2⟩⟩
theorem BG{cf:CF}{N:Nat}(hw:da cf)(hM:FF cf N)(hN:KK cf≤N)(hb:N≤1048576):fb cf∧(eh cf).length≤140737488355328:=by
 have hl:=DI hw (M:=1048576) ⟨fun x hx=>Nat.le_trans (hM.m x hx) hb,fun x hx=>Nat.le_trans (hM.i x hx) hb,fun x hx=>⟨Nat.le_trans (hM.r x hx).1 hb,Nat.le_trans (hM.r x hx).2.1 hb,Nat.le_trans (hM.r x hx).2.2 hb⟩⟩ (Nat.le_trans hN hb)
 refine⟨?_,by omega⟩
 unfold KK at hN
 exact⟨by omega,by omega,by omega,by omega,by omega⟩
set_option maxRecDepth 100000
open Go Go.RowKit Go.Lib Go.Sort _root_.Go.Proofs.Tryz
theorem KC{b:Sx.aU}{β:Sx.Env}{W:World}{mem:List Sx.Row}{see:List Nat}{k0 k1 k2 k3 k4:Nat}{cf:CF}(hS:Sx.eF b β W (Sx.rowAt mem) see)(h:Lu mem k0 k1 k2 k3 k4 cf)(hs:∀k∈[k0,k1,k2,k3,k4],k∈see):SE W cf (iD β k0 k1 k2 k3 k4):=by
 obtain⟨l0,l1,l2,l3,l4⟩:=KB (cf:=cf)
 have o0:Own W 3 1 (.slice (β.a k0) (cf.ag.length+1) (β.c k0)) (cf.ag.length+1) (cf.cp++O6):=(hS.held k0 (hs _ (by simp)) _ h.p).2
 have o1:Own W 118 19 (.slice (β.a k1) (cf.ae.length+1) (β.c k1)) (cf.ae.length+1) (cf.cr++O5):=(hS.held k1 (hs _ (by simp)) _ h.r).2
 have o2:Own W 81 49 (.slice (β.a k2) (cf.rules.length+1) (β.c k2)) (cf.rules.length+1) (cf.cl++O8):=(hS.held k2 (hs _ (by simp)) _ h.l).2
 have o3:Own W 122 4 (.slice (β.a k3) (cf.af.length+1) (β.c k3)) (cf.af.length+1) (cf.cm++O7):=(hS.held k3 (hs _ (by simp)) _ h.m).2
 have o4:Own W 124 3 (.slice (β.a k4) (cf.aa.length+1) (β.c k4)) (cf.aa.length+1) (cf.ci++O9):=(hS.held k4 (hs _ (by simp)) _ h.i).2
 exact⟨kG.eM o0 l0 rfl,kG.eM o1 l1 rfl,kG.eM o2 l2 rfl,kG.eM o3 l3 rfl,kG.eM o4 l4 rfl⟩
theorem GC{b:Sx.aU}{mem:List Sx.Row}{m:Nat}{cf:CF}{s:ey}(h:Lu mem 1 2 3 4 5 cf)(hw:da cf)(hf:fb cf)(hb:b.S=[])(hr:dj b.w [] cf s)(W:World)(β:Sx.Env)(hS:Sx.eF b β W (Sx.rowAt mem) (fF 1)) :
  Calls prog 30 (([.dD (DE 1 2 3 4 5 cf),.val (.agg (al cf s).toArray)]:List Sx.SV).map (Sx.SV.den β)).toArray W (Sx.aY b β W (Sx.rowAt mem) m ⟨fF 1,[],[],[],.val (.bool true),none⟩):=by
 have hi:=BA hS h (fun k hk=>hk)
 have hx:=KC hS h (fun k hk=>hk)
 have hc:=hS.aG
 rw[hb]at hc
 show Calls prog 30 #[(Sx.SV.dD (DE 1 2 3 4 5 cf)).den β,.agg (al cf s).toArray] W _
 rw[tp]
 exact(Qf cf _ s hi (hr.aG hc) hx hw hf).mono fun en w' ⟨he,hc⟩=>.inl ⟨fun p hp=>(by cases hp),β,Sx.du (v:=.bool true) rfl rfl he (fun q hq=>by cases hq) hc⟩
theorem Gv(w:World)(hlan:lD w)(cf:CF)(s:ey)(hr:dj w [] cf s)(hw:da cf)(hm:FF cf 1048576)(hl:KK cf≤1048576)(hf:fb cf)(hB:(eh cf).length≤140737488355328):Calls prog 6 #[.agg (al cf s).toArray] w (Rn w (.bool true)):=by
 have no9:∀k∈([]:List Nat),9≤k:=fun k hk=>by cases hk
 have hL:∀W,ai [] w W→lD W:=fun W hW=>hlan.aG hW no9
 obtain⟨R0,hR0⟩:∃R0:List Sx.Row,R0=[⟨46,.ak (al cf s)⟩]:=⟨_,rfl⟩
 have c9:=fun W β (hS:Sx.eF (SM w) β W (Sx.rowAt R0) [])=>(show Calls prog 27 (([.val (.agg (al cf s).toArray)]:List Sx.SV).map (Sx.SV.den β)).toArray W (Sx.aY (SM w) β W (Sx.rowAt R0) 1 (Tr [] 1 cf))from KE (m:=1) (see:=[]) hf W β hS (hr.aG hS.aG))
 obtain⟨R7,hR7⟩:∃R7:List Sx.Row,R7=R0++(ID cf++[⟨46,.dK ((DE 1 2 3 4 5 cf).map Sx.Atom.sv)⟩]):=⟨_,rfl⟩
 have ix:Lu R7 1 2 3 4 5 cf:=by rw[hR7,hR0];exact⟨rfl,rfl,rfl,rfl,rfl⟩
 have c12:=fun W β (hS:Sx.eF (SM w) β W (Sx.rowAt R7) (fF 1))=>Ah (m:=7) hlan.u5 no9 (i:=1) (cf:=cf) (mem:=R7) ix hw hf hB W β hS
 have c17:=fun W (hW:ai [] w W)=>IC cf s (hr.aG hW) hw hm hl
 have c31:=fun W β (hS:Sx.eF (SM w) β W (Sx.rowAt R7) (fF 1))=>GC (m:=7) (mem:=R7) ix hw hf rfl hr W β hS
 have c34:=fun W (hW:ai [] w W)=>Ot W (hL W hW)
 obtain⟨t,ht⟩:∃t,t=(dG cf).1:=⟨_,rfl⟩
 obtain⟨e,he⟩:∃e,e=(dG cf).2:=⟨_,rfl⟩
 rw[←ht,←he]at c12 c17
 have c22:=fun W=>bJ (.tmp 20) (.tmp 21) t t true (decide_eq_true rfl) W
 have c26:Value.bool (e==e)=.bool true:=by simp
 have z0:Value.bool true=.bool true:=rfl
 subst hR7 hR0
 refine Sx.aF (args:=[.agg (al cf s).toArray]) [(9,.aq (Tr [] 1 cf)),(12,.aq ⟨fF 1,[],[],[],.val (.tuple #[ab t,.int .i64 e]),none⟩),(17,.call (.tuple #[ab t,.int .i64 e])),(22,.bin (.bool true)),(26,.is (.bool true)),(31,.aq ⟨fF 1,[],[],[],.val (.bool true),none⟩),(34,.call (.bool true))] [] (by kernel_rfl) func6 rfl (cn rfl) ?_
 exact Eq.mp (by kernel_rfl) (Sx.t4 c9 c12 c17 c22 (Sx.t2 c26 c31 (And.intro c34 z0)))
theorem Gu(cf:CF)(s:ey){N:Nat}(w:World)(hlan:lD w)(hr:dj w [] cf s)(hw:da cf)(hM:FF cf N)(hN:KK cf≤N)(hb:N≤1048576):Calls prog 6 #[.agg (al cf s).toArray] w (Rn w (.bool true)):=
 Gv w hlan cf s hr hw ⟨fun x hx=>Nat.le_trans (hM.m x hx) hb,fun x hx=>Nat.le_trans (hM.i x hx) hb,fun x hx=>⟨Nat.le_trans (hM.r x hx).1 hb,Nat.le_trans (hM.r x hx).2.1 hb,Nat.le_trans (hM.r x hx).2.2 hb⟩⟩ (Nat.le_trans hN hb) (BG hw hM hN hb).1 (BG hw hM hN hb).2
open Go.RowKit Go.Lib Go.ChangeShapes Go.WideShapes Go.Deep
theorem Ez{α:Type}{f:α→List Value}{S:Nat}(hS:∀x,(f x).length=S):∀{L:List α} {i c:Nat} {x:α},L[i]?=some x→c < S→(L.flatMap f)[i*S+c]?=(f x)[c]?
 | [],i,c,x,h,_=>by simp at h
 |y::r,0,c,x,h,hc=>by
  have h:y=x:=by simpa using h
  subst h
  rw[List.flatMap_cons,List.getElem?_append_left (by rw[hS];omega)]
  simp
 |y::r,i+1,c,x,h,hc=>by
  have e:(i+1)*S+c - S=i*S+c:=by rw[Nat.add_mul]; omega
  rw[List.flatMap_cons,List.getElem?_append_right (by rw[hS,Nat.add_mul];omega),hS,e]
  exact Ez hS (by simpa using h) hc
theorem uu{α:Type}{f:α→List Value}{S:Nat}(hS:∀x,(f x).length=S):∀L:List α,(L.flatMap f).length=L.length*S
 | []=>by simp
 |y::r=>by rw[List.flatMap_cons,List.length_append,hS,uu hS r,List.length_cons,Nat.add_mul];omega
end Go.Proofs.YtnncigmpcdehnaaGreatDoor
