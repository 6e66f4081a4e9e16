import Derived.Test.YtnncigmpcdehnaaGreatDoorQd47
namespace Go.Proofs.YtnncigmpcdehnaaGreatDoor
set_option maxRecDepth 100000
open Go Go.RowKit Go.Lib Go.Sort
theorem ue(m:Mt)(hm:m.Wf)(w:World):Calls Tryz.prog 32 #[gY m] w fun e w'=>e=.returned (ab (yd m))∧ag [] w w':=by
 have c4:=fun W (_:ag [] w W)=>F5 m hm W
 unfold yd
 cases hc:ba m with
 |false=>
  rw[hc]at c4
  have z0:Value.string ⟨#[]⟩=ab []:=rfl
  refine Sx.aG (args:=[gY m]) [(4,.call (.bool false))] [] (by kernel_rfl) Tryz.func32 rfl (Nat.le_of_ble_eq_true rfl) ?_
  exact Eq.mp (by kernel_rfl) (And.intro c4 z0)
 |true=>
  rw[hc]at c4
  have c7:=fun W (_:ag [] w W)=>FP m hm W
  have z0:ab (dw m)=ab (dw m):=rfl
  refine Sx.aG (args:=[gY m]) [(4,.call (.bool true)),(7,.call (ab (dw m)))] [] (by kernel_rfl) Tryz.func32 rfl (Nat.le_of_ble_eq_true rfl) ?_
  exact Eq.mp (by kernel_rfl) (Sx.t2 c4 c7 z0)
theorem uO(m:Mt):∀i≤6,sK m i=[]→∀j < i,m.asks.testBit j=false
 | 0,_,_,j,hj=>by omega
 |i+1,hi,h,j,hj=>by
  have h:sK m i++ig m i=[]:=h
  rw[List.append_eq_nil_iff]at h
  by_cases hji:j=i
  ·subst hji
   cases hb:m.asks.testBit j with
   |false=>rfl
   |true=>
    have h2:=h.2
    unfold ig at h2
    rw[hb]at h2
    obtain⟨k,t,_,_,hf⟩:=tp m j (by omega)
    rw[hf]at h2
    cases h2
  ·exact uO m i (by omega) h.1 j (by omega)
theorem yv(m:Mt)(hc:ba m=true):dw m≠[]:=by
 by_cases ha:m.asks=0
 ·unfold dw;rw[if_pos ha];decide
 ·rw[qe m ha]
  intro h
  have hb:=uO m 6 (Nat.le_refl _) (vZ m 6 (Nat.le_refl _) h)
  have h64:m.asks < 64:=by
   unfold ba at hc
   simp only[Bool.and_eq_true,decide_eq_true_eq]at hc
   exact hc.1.1
  refine ha (Nat.eq_of_testBit_eq fun j=>?_)
  rw[Nat.zero_testBit]
  by_cases hj:j < 6
  ·exact hb j hj
  ·exact Nat.testBit_lt_two_pow (Nat.lt_of_lt_of_le h64 (by rw[show 64=2^6 from rfl];exact Nat.pow_le_pow_right (by omega) (by omega)))
theorem Gd(m:Mt)(w:World)(hlan:lu w)(hm:m.Wf):Calls Tryz.prog 7 #[gY m] w fun e w'=>e=.returned (.bool true)∧ag [] w w':=by
 have hl:∀W,ag [] w W→lu W:=fun W hW=>hlan.aF hW (fun k hk=>by cases hk)
 have c8:=fun W (hW:ag [] w W)=>oW m hm W (hl W hW).sW
 have c12:=fun W (_:ag [] w W)=>ue m hm W
 have c22:=fun W (hW:ag [] w W)=>K9 W (hl W hW)
 have c32:=c22
 have z0:Value.bool true=.bool true:=rfl
 cases hc:ba m with
 |false=>
  have e:yd m=[]:=by unfold yd;rw[hc]
  rw[hc,e]at c8
  rw[e]at c12
  have c14:=fun W=>bC (.tmp 13) (.const (ab [])) [] [] true rfl W
  have gB:=fun W=>bC (.tmp 15) (.const (ab [])) [] [] true rfl W
  refine Sx.aG (args:=[gY m]) [(8,.call (.tuple #[ab [],.int .i64 190])),(12,.call (ab [])),(14,.bin (.bool true)),(16,.bin (.bool true)),(22,.call (.bool true))] [] (by kernel_rfl) Tryz.func7 rfl (Nat.le_of_ble_eq_true rfl) ?_
  exact Eq.mp (by kernel_rfl) (Sx.t4 c8 c12 c14 gB (And.intro c22 z0))
 |true=>
  have e:yd m=dw m:=by unfold yd;rw[hc]
  have hne:=yv m hc
  rw[hc,e]at c8
  rw[e]at c12
  obtain⟨t,ht⟩:∃t,t=dw m:=⟨_,rfl⟩
  rw[←ht]at c8 c12 hne
  have c14:=fun W=>bC (.tmp 13) (.const (ab [])) t [] false (decide_eq_false hne) W
  have c26:=fun W=>bC (.tmp 24) (.tmp 25) t t true (decide_eq_true rfl) W
  refine Sx.aG (args:=[gY m]) [(8,.call (.tuple #[ab t,.int .i64 0])),(12,.call (ab t)),(14,.bin (.bool false)),(26,.bin (.bool true)),(32,.call (.bool true))] [] (by kernel_rfl) Tryz.func7 rfl (Nat.le_of_ble_eq_true rfl) ?_
  exact Eq.mp (by kernel_rfl) (Sx.t4 c8 c12 c14 c26 (And.intro c32 z0))
open Go.RowKit Go.Lib Go.Sort
def Ps{α:Type}(o:Out α):Prop:=∀c p,o=.no c p→0 < c
theorem Ps.ok{α:Type}{a:α}{i:Nat}:Ps (.ok a i):=fun _ _ h=>nomatch h
theorem Ps.no{α:Type}{c p:Nat}(h:0 < c):Ps (.no c p:Out α):=fun _ _ e=>by injection e with e _;omega
theorem Ps.bind{α β:Type}{r:Out α}{f:α→Nat→Out β}(h:Ps r)(hf:∀a i,Ps (f a i)):Ps (r.bind f):=by
 cases r with
 |ok a i=>exact hf a i
 |no c p=>exact fun c' p' e=>h c p rfl |> fun hc=>by cases e;exact hc
theorem Ps.next{ws:List Bs}{i:Nat}:Ps (aR ws i):=by unfold aR;split;exact .ok;exact .no (by decide)
theorem Ps.Ft{ws:List Bs}{i:Nat}{s:Bs}:Ps (dt ws i s):=by unfold dt;split<;>exact .ok
theorem Ps.want{α:Type}{b:Bool}{c:Nat}{a:α}{i:Nat}(h:0 < c):Ps (ax b c a i):=by cases b;exact .no h;exact .ok
theorem Ps.number{m:Nat}{ws:List Bs}{i:Nat}:Ps (bn m ws i):=.bind .next fun _ _=>.want (by decide)
theorem Ps.int{ws:List Bs}{i:Nat}:Ps (il ws i):=.number
theorem Ps.name{ws:List Bs}{i:Nat}:Ps (fG ws i):=.bind .next fun _ _=>.want (by decide)
theorem Ps.pre{ws:List Bs}{i:Nat}:Ps (dB ws i):=.bind .next fun _ _=>.want (by decide)
theorem Ps.span{ws:List Bs}{i:Nat}:Ps (iF ws i):=.bind .next fun _ _=>.want (by decide)
theorem Ps.aV{ws:List Bs}{i:Nat}:Ps (dR ws i):=.bind .Ft fun a j=>by
 cases a
 ·refine .bind .Ft fun b k=>?_
  cases b
  ·exact .number
  ·exact .ok
 ·exact .ok
theorem Ps.P3{k:Nat}{m:Mt}{ws:List Bs}{i:Nat}:Ps (bh k m ws i):=by
 unfold bh
 split<;>refine .bind ?_ fun _ _=>.ok
 ·exact .span
 ·exact .pre
 ·exact .pre
 ·exact .aV
 ·exact .span
 ·exact .span
theorem Ps.field{ws:List Bs}{i:Nat}{m:Mt}:Ps (a7 ws i m):=by
 unfold a7
 split
 ·exact .ok
 ·split
  ·exact .ok
  ·split
   ·exact .no (by decide)
   ·exact .bind .P3 fun _ _=>.ok
theorem Ps.ee(ws:List Bs):∀(f i:Nat) (m:Mt),Ps (ee ws f i m)
 | 0,i,m=>.ok
 |f+1,i,m=>.bind .field fun r j=>by
  cases r.1
  ·exact .ok
  ·exact Ps.ee ws f j r.2
theorem Ps.fu{ws:List Bs}{i:Nat}:Ps (fu ws i):=.bind .Ft fun a j=>by
 cases a
 ·refine .bind .field fun r k=>?_
  cases r.1
  ·exact .bind .next fun _ _=>.no (by decide)
  ·exact .ee _ _ _ _
 ·exact .ok
theorem Ps.act{out:Bool}{ws:List Bs}{i:Nat}:Ps (oE out ws i):=.bind .next fun x j=>by
 split
 ·exact .ok
 split
 ·exact .ok
 split
 ·exact .ok
 split
 ·exact .bind .int fun _ _=>.ok
 ·exact .no (by decide)
theorem Ps.opt{s:Bs}{ws:List Bs}{i:Nat}:Ps (n6 s ws i):=.bind .Ft fun b j=>by
 cases b
 ·exact .ok
 ·exact .name
theorem Ps.P5{m:Mt}{ws:List Bs}{i:Nat}:Ps (J8 m ws i):=.bind .next fun _ _=>.bind (.want (by decide)) fun _ _=>.want (by decide)
theorem Ps.Pb{ws:List Bs}{i:Nat}:Ps (nF ws i):=.bind .name fun _ _=>.bind .fu fun _ _=>.bind .P5 fun _ _=>.bind .act fun _ _=>.bind .opt fun _ _=>.bind .opt fun _ _=>.ok
theorem Ps.Qa{α:Type}{ws:List Bs}{a:α}{i:Nat}:Ps (qY ws a i):=by unfold qY;split;exact .no (by decide);exact .ok
theorem Ps.body{x:Bs}{ws:List Bs}{i:Nat}{cf:CF}{d:Nat}:Ps (fJ x ws i cf d):=by
 unfold fJ
 split
 ·exact .bind .int fun _ _=>.ok
 split
 ·exact .bind .pre fun _ _=>.bind .int fun _ _=>.ok
 split
 ·exact .bind .name fun _ _=>.bind .number fun _ _=>.bind .number fun _ _=>.bind .number fun _ _=>.ok
 split
 ·exact .bind .name fun _ _=>.bind .int fun _ _=>.bind .int fun _ _=>.ok
 split
 ·exact .bind .Pb fun _ _=>.ok
 split
 ·exact .bind (.want (by decide)) fun _ _=>.bind .act fun _ _=>.ok
 ·exact .no (by decide)
theorem Ps.line{ws:List Bs}{cf:CF}{d:Nat}:Ps (eL ws cf d):=by
 unfold eL
 split
 ·exact .ok
 ·exact .bind .next fun _ _=>.bind .body fun _ _=>.Qa
open Go.RowKit Go.Lib Go.Sort
theorem I5(v:Bool):wid v≤128:=by cases v<;>decide
structure Qe(cf:CF)(M:Nat):Prop where
 m:∀x∈cf.af,x.name.length≤M
 i:∀x∈cf.aa,x.name.length≤M
 r:∀x∈cf.rules,x.name.length≤M∧x.dm.length≤M∧x.cj.length≤M
theorem gM{s:Bs}(h:aE s=true):s.length≤16:=by
 unfold aE at h
 simp only[Bool.and_eq_true,decide_eq_true_eq]at h
 exact h.1.2
theorem o6{s:Bs}(h:ju s=true):s.length≤16:=by
 unfold ju at h
 rw[Bool.or_eq_true]at h
 rcases h with h|h
 ·rw[of_decide_eq_true h];decide
 ·exact gM h
theorem Cq{v:Bool}{n:Nat}{k:Int}(h:fA v n k=true):qT k:=by
 unfold fA at h
 simp only[Bool.and_eq_true,decide_eq_true_eq]at h
 have:=I5 v
 unfold qT;omega
theorem Ey{m:Mt}(h:BJ m)(hc:ba m=true):m.Wf:=by
 unfold ba at hc
 simp only[Bool.and_eq_true,Bool.or_eq_true,decide_eq_true_eq,Bool.not_eq_true']at hc
 have kx:∀{p:Px} {b:Bool},(b=true∨Ad p=true)→(b=false∨fA p.v p.n p.k=true) → -9223372036854775808≤p.k∧p.k≤9223372036854775807:=by
  intro p b h1 h2
  cases b with
  |true=>rcases h2 with h2|h2;exact absurd h2 (by decide);exact Cq h2
  |false=>
   rcases h1 with h1|h1
   ·exact absurd h1 (by decide)
   ·have:=(of_decide_eq_true h1).2.2
    omega
 exact⟨by omega,h.sn,kx hc.1.2.2.1 hc.2.2.1.1,h.dn,kx hc.1.2.2.2.1 hc.2.2.1.2.1,⟨h.i1,h.i2⟩,⟨h.s1,h.s2⟩,⟨h.d1,h.d2⟩,h.pr⟩
theorem pP.wf{cf:CF}(h:pP cf):fz cf∧Qe cf 16:=by
 have i:∀n:Int,0≤n→n≤9223372036854775807→qT n:=fun n h1 h2=>by unfold qT;omega
 refine⟨⟨fun n hn=>i n (h.ai n hn).1 (h.ai n hn).2,fun r hr=>?_,fun r hr=>?_,fun m hm=>?_,fun m hm=>?_,?_⟩,⟨fun m hm=>gM (h.af m hm).1,fun m hm=>gM (h.aa m hm).1,fun r hr=>?_⟩⟩
 ·obtain⟨a,b,c,d⟩:=h.ae r hr
  exact⟨a,Cq b,i _ c d⟩
 ·obtain⟨a,b,c,d,e,f⟩:=h.rules r hr
  have h1:=gM c;have h2:=o6 e;have h3:=o6 f
  have ha:=d
  unfold mD at ha
  simp only[Bool.and_eq_true,decide_eq_true_eq]at ha
  have:=a.out
  exact⟨by unfold maxLen;omega,Ey a.mt b,by unfold qT;omega,by unfold qT;omega,by unfold maxLen;omega,by unfold maxLen;omega⟩
 ·obtain⟨a,b,c,d⟩:=h.af m hm
  have h1:=gM a
  exact⟨by unfold maxLen;omega,b,c,d⟩
 ·obtain⟨a,b,c,d,e⟩:=h.aa m hm
  have h1:=gM a
  exact⟨by unfold maxLen;omega,i _ b c,i _ d e⟩
 ·rcases h.br with h|h|h<;>rw[h]<;>(unfold qT;omega)
 ·obtain⟨_,_,c,_,e,f⟩:=h.rules r hr
  exact⟨gM c,o6 e,o6 f⟩
end Go.Proofs.YtnncigmpcdehnaaGreatDoor
