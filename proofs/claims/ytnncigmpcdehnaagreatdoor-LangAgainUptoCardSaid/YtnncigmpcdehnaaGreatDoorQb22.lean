import Derived.Test.YtnncigmpcdehnaaGreatDoorQb21
namespace Go.Proofs.YtnncigmpcdehnaaGreatDoor
set_option maxRecDepth 100000
open Go.RowKit Go.Lib Go.Sort
def xH(r:Rl):Value:=.agg r.cells.toArray
def dc(r:Rl):Sx.Row:=⟨81,.ag r.cells⟩
abbrev RP{α:Type}(r:Out α)(n:Nat):Prop:=r.okB=true∧r.pos≤n
abbrev ku(f g:Nat)(A:Option Go.Addr)(n c i:Nat)(ws:List Bs){α:Type}(V:α→Value)(r:Out α):Prop:=∀W,dF W g A n c i ws→Calls Tryz.prog f (.pointer (some ⟨g,0,none⟩)::[]).toArray W (aY g A n c V r W)
abbrev fO{α β:Type}(r:Out α)(T:Out β):Prop:=∀code p,r=.no code p→T=.no code p
abbrev o4(ar:Bool)(r3:Out Bs):Out Unit:=ax ar 200 () r3.pos
abbrev o5(cb ar:Bool)(r3:Out Bs):Out Unit:=ax cb 190 () (o4 ar r3).pos
theorem E8{w:World}{g:Nat}{A:Option Go.Addr}{n c i:Nat}{ws:List Bs}(h:dF w g A n c i ws){T:Out Rl}{r1:Out Bs}{r2:Out Mt}{r3:Out Bs}{r6:Out (Int×Int)}(ar cb:Bool)(ck:Int)(har:decide (r3.val=oD)=ar)(hcb:Value.bool (ck==0)=.bool cb)(t7:cM ws r6.pos ak=(Out.ok false r6.pos))(t9:cM ws r6.pos ae=(Out.ok false r6.pos))
  (n4:ku 188 g A n c i ws af r1)
  (no4:fO r1 T)
  (n7:r1.okB=true→ku 93 g A n c (r1).pos ws kA r2)
  (no7:r1.okB=true→fO r2 T)
  (n11:r1.okB=true→r2.okB=true→ku 154 g A n c (r2).pos ws af r3)
  (no11:r1.okB=true→r2.okB=true→fO r3 T)
  (no13:r1.okB=true→r2.okB=true→r3.okB=true→fO (o4 ar r3) T)
  (n17:r1.okB=true→r2.okB=true→r3.okB=true→(o4 ar r3).okB=true→∀W,aw [g] w W→Calls Tryz.prog 83 #[kA r2.val] W fun e w'=>e=.returned (.int .i64 ck)∧aw [] W w')
  (no19:r1.okB=true→r2.okB=true→r3.okB=true→(o4 ar r3).okB=true→fO (o5 cb ar r3) T)
  (n22:r1.okB=true→r2.okB=true→r3.okB=true→(o4 ar r3).okB=true→(o5 cb ar r3).okB=true→∀W,dF W g A n c ((o5 cb ar r3)).pos ws→Calls Tryz.prog 192 (.pointer (some ⟨g,0,none⟩)::[.bool true]).toArray W (aY g A n c jA r6 W))
  (no22:r1.okB=true→r2.okB=true→r3.okB=true→(o4 ar r3).okB=true→(o5 cb ar r3).okB=true→fO r6 T)
  (fin:r1.okB=true→r2.okB=true→r3.okB=true→(o4 ar r3).okB=true→(o5 cb ar r3).okB=true→r6.okB=true→(Out.ok false r6.pos).okB=true→(Out.ok false r6.pos).okB=true→T=.ok ⟨r1.val,r2.val,r6.val.1,r6.val.2,[],[]⟩ (Out.ok false r6.pos).pos) :
  Calls Tryz.prog 190 (.pointer (some ⟨g,0,none⟩)::[]).toArray w (aY g A n c xH T w):=by
 have c4:=bu (T:=T) [dc MX] [] h h.le (no4 ) (n4 )
 have c7f:=fun(hp0:RP r1 n)=>bu (T:=T) [dc ⟨r1.val,kZ,0,0,[],[]⟩] [] h hp0.2 (no7 hp0.1) (n7 hp0.1)
 have c11f:=fun(hp0:RP r1 n) (hp1:RP r2 n)=>bu (T:=T) [dc ⟨r1.val,r2.val,0,0,[],[]⟩] [] h hp1.2 (no11 hp0.1 hp1.1) (n11 hp0.1 hp1.1)
 have c12f:=fun(_:RP r1 n) (_:RP r2 n) (_:RP r3 n)=>fun W=>aD (.tmp 11) (.const (af oD)) r3.val oD ar har W
 have c13f:=fun(hp0:RP r1 n) (hp1:RP r2 n) (hp2:RP r3 n)=>bu (T:=T) [dc ⟨r1.val,r2.val,0,0,[],[]⟩] [.bool ar,.int .i64 200] h hp2.2 (no13 hp0.1 hp1.1 hp2.1) (fun W hL=>ee ar 200 () hL)
 have c17f:=fun(hp0:RP r1 n) (hp1:RP r2 n) (hp2:RP r3 n) (hp3:RP (o4 ar r3) n)=>n17 hp0.1 hp1.1 hp2.1 hp3.1
 have c18f:=fun(_:RP r1 n) (_:RP r2 n) (_:RP r3 n) (_:RP (o4 ar r3) n)=>hcb
 have c19f:=fun(hp0:RP r1 n) (hp1:RP r2 n) (hp2:RP r3 n) (hp3:RP (o4 ar r3) n)=>bu (T:=T) [dc ⟨r1.val,r2.val,0,0,[],[]⟩] [.bool cb,.int .i64 190] h hp3.2 (no19 hp0.1 hp1.1 hp2.1 hp3.1) (fun W hL=>ee cb 190 () hL)
 have c22f:=fun(hp0:RP r1 n) (hp1:RP r2 n) (hp2:RP r3 n) (hp3:RP (o4 ar r3) n) (hp4:RP (o5 cb ar r3) n)=>bu (T:=T) [dc ⟨r1.val,r2.val,0,0,[],[]⟩] [.bool true] h hp4.2 (no22 hp0.1 hp1.1 hp2.1 hp3.1 hp4.1) (n22 hp0.1 hp1.1 hp2.1 hp3.1 hp4.1)
 have c28f:=fun(hp0:RP r1 n) (hp1:RP r2 n) (hp2:RP r3 n) (hp3:RP (o4 ar r3) n) (hp4:RP (o5 cb ar r3) n) (hp5:RP r6 n)=>bu (T:=T) [dc ⟨r1.val,r2.val,r6.val.1,r6.val.2,[],[]⟩] [af ak] h hp5.2 (fun code p hh=>by cases hh) (fun W hL=>t7 ▸ fE ak hL)
 have c33f:=fun(hp0:RP r1 n) (hp1:RP r2 n) (hp2:RP r3 n) (hp3:RP (o4 ar r3) n) (hp4:RP (o5 cb ar r3) n) (hp5:RP r6 n) (hp6:RP (Out.ok false r6.pos) n)=>bu (T:=T) [dc ⟨r1.val,r2.val,r6.val.1,r6.val.2,[],[]⟩] [af ae] h hp6.2 (fun code p hh=>by cases hh) (fun W hL=>t9 ▸ fE ae hL)
 have z8f:=fun(hp0:RP r1 n) (hp1:RP r2 n) (hp2:RP r3 n) (hp3:RP (o4 ar r3) n) (hp4:RP (o5 cb ar r3) n) (hp5:RP r6 n) (hp6:RP (Out.ok false r6.pos) n) (hp7:RP (Out.ok false r6.pos) n)=>(show uh g A n c xH T (.val (xH ⟨r1.val,r2.val,r6.val.1,r6.val.2,[],[]⟩)) [(g,154,df A n c (Out.ok false r6.pos).pos)]from⟨_,_,fin hp0.1 hp1.1 hp2.1 hp3.1 hp4.1 hp5.1 hp6.1 hp7.1,hp7.2,rfl,rfl⟩)
 refine cA [] h.bY [(4,.al (cE 0 g A n c r1 af)),(7,.al (cE 0 g A n c r2 kA)),(11,.al (cE 0 g A n c r3 af)),(12,.bin (.bool ar)),(13,.al (cE 0 g A n c (o4 ar r3) (fun _=>.tuple #[]))),(17,.call (.int .i64 ck)),(18,.is (.bool cb)),(19,.al (cE 0 g A n c (o5 cb ar r3) (fun _=>.tuple #[]))),(22,.al (cE 0 g A n c r6 jA)),(28,.al (cE 0 g A n c (Out.ok false r6.pos) (fun b=>.bool b))),(33,.al (cE 0 g A n c (Out.ok false r6.pos) (fun b=>.bool b)))] [] (by kernel_rfl) Tryz.func190 rfl (Nat.le_of_ble_eq_true rfl) ?_
 exact Eq.mp (by kernel_rfl) (And.intro c4 (fun(hx0:r1.okB=true∧r1.pos≤n)=>(And.intro (c7f hx0) (fun(hx1:r2.okB=true∧r2.pos≤n)=>(And.intro (c11f hx0 hx1) (fun(hx2:r3.okB=true∧r3.pos≤n)=>(Sx.t2 (c12f hx0 hx1 hx2) (c13f hx0 hx1 hx2) (fun(hx3:(o4 ar r3).okB=true∧(o4 ar r3).pos≤n)=>(Sx.t2 (c17f hx0 hx1 hx2 hx3) (c18f hx0 hx1 hx2 hx3) (And.intro (c19f hx0 hx1 hx2 hx3) (fun(hx4:(o5 cb ar r3).okB=true∧(o5 cb ar r3).pos≤n)=>(And.intro (c22f hx0 hx1 hx2 hx3 hx4) (fun(hx5:r6.okB=true∧r6.pos≤n)=>(And.intro (c28f hx0 hx1 hx2 hx3 hx4 hx5) (fun(hx6:(Out.ok false r6.pos).okB=true∧(Out.ok false r6.pos).pos≤n)=>(And.intro (c33f hx0 hx1 hx2 hx3 hx4 hx5 hx6) (fun(hx7:(Out.ok false r6.pos).okB=true∧(Out.ok false r6.pos).pos≤n)=>(z8f hx0 hx1 hx2 hx3 hx4 hx5 hx6 hx7))))))))))))))))))
theorem E0{w:World}{g:Nat}{A:Option Go.Addr}{n c i:Nat}{ws:List Bs}(h:dF w g A n c i ws){T:Out Rl}{r1:Out Bs}{r2:Out Mt}{r3:Out Bs}{r6:Out (Int×Int)}{r10:Out Bs}(ar cb:Bool)(ck:Int)(har:decide (r3.val=oD)=ar)(hcb:Value.bool (ck==0)=.bool cb)(t7:cM ws r6.pos ak=(Out.ok false r6.pos))(t9:cM ws r6.pos ae=(Out.ok true (r6.pos+1)))
  (n4:ku 188 g A n c i ws af r1)
  (no4:fO r1 T)
  (n7:r1.okB=true→ku 93 g A n c (r1).pos ws kA r2)
  (no7:r1.okB=true→fO r2 T)
  (n11:r1.okB=true→r2.okB=true→ku 154 g A n c (r2).pos ws af r3)
  (no11:r1.okB=true→r2.okB=true→fO r3 T)
  (no13:r1.okB=true→r2.okB=true→r3.okB=true→fO (o4 ar r3) T)
  (n17:r1.okB=true→r2.okB=true→r3.okB=true→(o4 ar r3).okB=true→∀W,aw [g] w W→Calls Tryz.prog 83 #[kA r2.val] W fun e w'=>e=.returned (.int .i64 ck)∧aw [] W w')
  (no19:r1.okB=true→r2.okB=true→r3.okB=true→(o4 ar r3).okB=true→fO (o5 cb ar r3) T)
  (n22:r1.okB=true→r2.okB=true→r3.okB=true→(o4 ar r3).okB=true→(o5 cb ar r3).okB=true→∀W,dF W g A n c ((o5 cb ar r3)).pos ws→Calls Tryz.prog 192 (.pointer (some ⟨g,0,none⟩)::[.bool true]).toArray W (aY g A n c jA r6 W))
  (no22:r1.okB=true→r2.okB=true→r3.okB=true→(o4 ar r3).okB=true→(o5 cb ar r3).okB=true→fO r6 T)
  (n35:r1.okB=true→r2.okB=true→r3.okB=true→(o4 ar r3).okB=true→(o5 cb ar r3).okB=true→r6.okB=true→(Out.ok false r6.pos).okB=true→(Out.ok true (r6.pos+1)).okB=true→∀W,dF W g A n c ((Out.ok true (r6.pos+1))).pos ws→Calls Tryz.prog 188 (.pointer (some ⟨g,0,none⟩)::[]).toArray W (aY g A n c af r10 W))
  (no35:r1.okB=true→r2.okB=true→r3.okB=true→(o4 ar r3).okB=true→(o5 cb ar r3).okB=true→r6.okB=true→(Out.ok false r6.pos).okB=true→(Out.ok true (r6.pos+1)).okB=true→fO r10 T)
  (fin:r1.okB=true→r2.okB=true→r3.okB=true→(o4 ar r3).okB=true→(o5 cb ar r3).okB=true→r6.okB=true→(Out.ok false r6.pos).okB=true→(Out.ok true (r6.pos+1)).okB=true→r10.okB=true→T=.ok ⟨r1.val,r2.val,r6.val.1,r6.val.2,[],r10.val⟩ r10.pos) :
  Calls Tryz.prog 190 (.pointer (some ⟨g,0,none⟩)::[]).toArray w (aY g A n c xH T w):=by
 have c4:=bu (T:=T) [dc MX] [] h h.le (no4 ) (n4 )
 have c7f:=fun(hp0:RP r1 n)=>bu (T:=T) [dc ⟨r1.val,kZ,0,0,[],[]⟩] [] h hp0.2 (no7 hp0.1) (n7 hp0.1)
 have c11f:=fun(hp0:RP r1 n) (hp1:RP r2 n)=>bu (T:=T) [dc ⟨r1.val,r2.val,0,0,[],[]⟩] [] h hp1.2 (no11 hp0.1 hp1.1) (n11 hp0.1 hp1.1)
 have c12f:=fun(_:RP r1 n) (_:RP r2 n) (_:RP r3 n)=>fun W=>aD (.tmp 11) (.const (af oD)) r3.val oD ar har W
 have c13f:=fun(hp0:RP r1 n) (hp1:RP r2 n) (hp2:RP r3 n)=>bu (T:=T) [dc ⟨r1.val,r2.val,0,0,[],[]⟩] [.bool ar,.int .i64 200] h hp2.2 (no13 hp0.1 hp1.1 hp2.1) (fun W hL=>ee ar 200 () hL)
 have c17f:=fun(hp0:RP r1 n) (hp1:RP r2 n) (hp2:RP r3 n) (hp3:RP (o4 ar r3) n)=>n17 hp0.1 hp1.1 hp2.1 hp3.1
 have c18f:=fun(_:RP r1 n) (_:RP r2 n) (_:RP r3 n) (_:RP (o4 ar r3) n)=>hcb
 have c19f:=fun(hp0:RP r1 n) (hp1:RP r2 n) (hp2:RP r3 n) (hp3:RP (o4 ar r3) n)=>bu (T:=T) [dc ⟨r1.val,r2.val,0,0,[],[]⟩] [.bool cb,.int .i64 190] h hp3.2 (no19 hp0.1 hp1.1 hp2.1 hp3.1) (fun W hL=>ee cb 190 () hL)
 have c22f:=fun(hp0:RP r1 n) (hp1:RP r2 n) (hp2:RP r3 n) (hp3:RP (o4 ar r3) n) (hp4:RP (o5 cb ar r3) n)=>bu (T:=T) [dc ⟨r1.val,r2.val,0,0,[],[]⟩] [.bool true] h hp4.2 (no22 hp0.1 hp1.1 hp2.1 hp3.1 hp4.1) (n22 hp0.1 hp1.1 hp2.1 hp3.1 hp4.1)
 have c28f:=fun(hp0:RP r1 n) (hp1:RP r2 n) (hp2:RP r3 n) (hp3:RP (o4 ar r3) n) (hp4:RP (o5 cb ar r3) n) (hp5:RP r6 n)=>bu (T:=T) [dc ⟨r1.val,r2.val,r6.val.1,r6.val.2,[],[]⟩] [af ak] h hp5.2 (fun code p hh=>by cases hh) (fun W hL=>t7 ▸ fE ak hL)
 have c33f:=fun(hp0:RP r1 n) (hp1:RP r2 n) (hp2:RP r3 n) (hp3:RP (o4 ar r3) n) (hp4:RP (o5 cb ar r3) n) (hp5:RP r6 n) (hp6:RP (Out.ok false r6.pos) n)=>bu (T:=T) [dc ⟨r1.val,r2.val,r6.val.1,r6.val.2,[],[]⟩] [af ae] h hp6.2 (fun code p hh=>by cases hh) (fun W hL=>t9 ▸ fE ae hL)
 have c35f:=fun(hp0:RP r1 n) (hp1:RP r2 n) (hp2:RP r3 n) (hp3:RP (o4 ar r3) n) (hp4:RP (o5 cb ar r3) n) (hp5:RP r6 n) (hp6:RP (Out.ok false r6.pos) n) (hp7:RP (Out.ok true (r6.pos+1)) n)=>bu (T:=T) [dc ⟨r1.val,r2.val,r6.val.1,r6.val.2,[],[]⟩] [] h hp7.2 (no35 hp0.1 hp1.1 hp2.1 hp3.1 hp4.1 hp5.1 hp6.1 hp7.1) (n35 hp0.1 hp1.1 hp2.1 hp3.1 hp4.1 hp5.1 hp6.1 hp7.1)
 have z9f:=fun(hp0:RP r1 n) (hp1:RP r2 n) (hp2:RP r3 n) (hp3:RP (o4 ar r3) n) (hp4:RP (o5 cb ar r3) n) (hp5:RP r6 n) (hp6:RP (Out.ok false r6.pos) n) (hp7:RP (Out.ok true (r6.pos+1)) n) (hp8:RP r10 n)=>(show uh g A n c xH T (.val (xH ⟨r1.val,r2.val,r6.val.1,r6.val.2,[],r10.val⟩)) [(g,154,df A n c r10.pos)]from⟨_,_,fin hp0.1 hp1.1 hp2.1 hp3.1 hp4.1 hp5.1 hp6.1 hp7.1 hp8.1,hp8.2,rfl,rfl⟩)
 refine cA [] h.bY [(4,.al (cE 0 g A n c r1 af)),(7,.al (cE 0 g A n c r2 kA)),(11,.al (cE 0 g A n c r3 af)),(12,.bin (.bool ar)),(13,.al (cE 0 g A n c (o4 ar r3) (fun _=>.tuple #[]))),(17,.call (.int .i64 ck)),(18,.is (.bool cb)),(19,.al (cE 0 g A n c (o5 cb ar r3) (fun _=>.tuple #[]))),(22,.al (cE 0 g A n c r6 jA)),(28,.al (cE 0 g A n c (Out.ok false r6.pos) (fun b=>.bool b))),(33,.al (cE 0 g A n c (Out.ok true (r6.pos+1)) (fun b=>.bool b))),(35,.al (cE 0 g A n c r10 af))] [] (by kernel_rfl) Tryz.func190 rfl (Nat.le_of_ble_eq_true rfl) ?_
 exact Eq.mp (by kernel_rfl) (And.intro c4 (fun(hx0:r1.okB=true∧r1.pos≤n)=>(And.intro (c7f hx0) (fun(hx1:r2.okB=true∧r2.pos≤n)=>(And.intro (c11f hx0 hx1) (fun(hx2:r3.okB=true∧r3.pos≤n)=>(Sx.t2 (c12f hx0 hx1 hx2) (c13f hx0 hx1 hx2) (fun(hx3:(o4 ar r3).okB=true∧(o4 ar r3).pos≤n)=>(Sx.t2 (c17f hx0 hx1 hx2 hx3) (c18f hx0 hx1 hx2 hx3) (And.intro (c19f hx0 hx1 hx2 hx3) (fun(hx4:(o5 cb ar r3).okB=true∧(o5 cb ar r3).pos≤n)=>(And.intro (c22f hx0 hx1 hx2 hx3 hx4) (fun(hx5:r6.okB=true∧r6.pos≤n)=>(And.intro (c28f hx0 hx1 hx2 hx3 hx4 hx5) (fun(hx6:(Out.ok false r6.pos).okB=true∧(Out.ok false r6.pos).pos≤n)=>(And.intro (c33f hx0 hx1 hx2 hx3 hx4 hx5 hx6) (fun(hx7:(Out.ok true (r6.pos+1)).okB=true∧(Out.ok true (r6.pos+1)).pos≤n)=>(And.intro (c35f hx0 hx1 hx2 hx3 hx4 hx5 hx6 hx7) (fun(hx8:r10.okB=true∧r10.pos≤n)=>(z9f hx0 hx1 hx2 hx3 hx4 hx5 hx6 hx7 hx8))))))))))))))))))))
theorem EZ{w:World}{g:Nat}{A:Option Go.Addr}{n c i:Nat}{ws:List Bs}(h:dF w g A n c i ws){T:Out Rl}{r1:Out Bs}{r2:Out Mt}{r3:Out Bs}{r6:Out (Int×Int)}{r8:Out Bs}(ar cb:Bool)(ck:Int)(har:decide (r3.val=oD)=ar)(hcb:Value.bool (ck==0)=.bool cb)(t7:cM ws r6.pos ak=(Out.ok true (r6.pos+1)))(t9:cM ws r8.pos ae=(Out.ok false r8.pos))
  (n4:ku 188 g A n c i ws af r1)
  (no4:fO r1 T)
  (n7:r1.okB=true→ku 93 g A n c (r1).pos ws kA r2)
  (no7:r1.okB=true→fO r2 T)
  (n11:r1.okB=true→r2.okB=true→ku 154 g A n c (r2).pos ws af r3)
  (no11:r1.okB=true→r2.okB=true→fO r3 T)
  (no13:r1.okB=true→r2.okB=true→r3.okB=true→fO (o4 ar r3) T)
  (n17:r1.okB=true→r2.okB=true→r3.okB=true→(o4 ar r3).okB=true→∀W,aw [g] w W→Calls Tryz.prog 83 #[kA r2.val] W fun e w'=>e=.returned (.int .i64 ck)∧aw [] W w')
  (no19:r1.okB=true→r2.okB=true→r3.okB=true→(o4 ar r3).okB=true→fO (o5 cb ar r3) T)
  (n22:r1.okB=true→r2.okB=true→r3.okB=true→(o4 ar r3).okB=true→(o5 cb ar r3).okB=true→∀W,dF W g A n c ((o5 cb ar r3)).pos ws→Calls Tryz.prog 192 (.pointer (some ⟨g,0,none⟩)::[.bool true]).toArray W (aY g A n c jA r6 W))
  (no22:r1.okB=true→r2.okB=true→r3.okB=true→(o4 ar r3).okB=true→(o5 cb ar r3).okB=true→fO r6 T)
  (n30:r1.okB=true→r2.okB=true→r3.okB=true→(o4 ar r3).okB=true→(o5 cb ar r3).okB=true→r6.okB=true→(Out.ok true (r6.pos+1)).okB=true→∀W,dF W g A n c ((Out.ok true (r6.pos+1))).pos ws→Calls Tryz.prog 188 (.pointer (some ⟨g,0,none⟩)::[]).toArray W (aY g A n c af r8 W))
  (no30:r1.okB=true→r2.okB=true→r3.okB=true→(o4 ar r3).okB=true→(o5 cb ar r3).okB=true→r6.okB=true→(Out.ok true (r6.pos+1)).okB=true→fO r8 T)
  (fin:r1.okB=true→r2.okB=true→r3.okB=true→(o4 ar r3).okB=true→(o5 cb ar r3).okB=true→r6.okB=true→(Out.ok true (r6.pos+1)).okB=true→r8.okB=true→(Out.ok false r8.pos).okB=true→T=.ok ⟨r1.val,r2.val,r6.val.1,r6.val.2,r8.val,[]⟩ (Out.ok false r8.pos).pos) :
  Calls Tryz.prog 190 (.pointer (some ⟨g,0,none⟩)::[]).toArray w (aY g A n c xH T w):=by
 have c4:=bu (T:=T) [dc MX] [] h h.le (no4 ) (n4 )
 have c7f:=fun(hp0:RP r1 n)=>bu (T:=T) [dc ⟨r1.val,kZ,0,0,[],[]⟩] [] h hp0.2 (no7 hp0.1) (n7 hp0.1)
 have c11f:=fun(hp0:RP r1 n) (hp1:RP r2 n)=>bu (T:=T) [dc ⟨r1.val,r2.val,0,0,[],[]⟩] [] h hp1.2 (no11 hp0.1 hp1.1) (n11 hp0.1 hp1.1)
 have c12f:=fun(_:RP r1 n) (_:RP r2 n) (_:RP r3 n)=>fun W=>aD (.tmp 11) (.const (af oD)) r3.val oD ar har W
 have c13f:=fun(hp0:RP r1 n) (hp1:RP r2 n) (hp2:RP r3 n)=>bu (T:=T) [dc ⟨r1.val,r2.val,0,0,[],[]⟩] [.bool ar,.int .i64 200] h hp2.2 (no13 hp0.1 hp1.1 hp2.1) (fun W hL=>ee ar 200 () hL)
 have c17f:=fun(hp0:RP r1 n) (hp1:RP r2 n) (hp2:RP r3 n) (hp3:RP (o4 ar r3) n)=>n17 hp0.1 hp1.1 hp2.1 hp3.1
 have c18f:=fun(_:RP r1 n) (_:RP r2 n) (_:RP r3 n) (_:RP (o4 ar r3) n)=>hcb
 have c19f:=fun(hp0:RP r1 n) (hp1:RP r2 n) (hp2:RP r3 n) (hp3:RP (o4 ar r3) n)=>bu (T:=T) [dc ⟨r1.val,r2.val,0,0,[],[]⟩] [.bool cb,.int .i64 190] h hp3.2 (no19 hp0.1 hp1.1 hp2.1 hp3.1) (fun W hL=>ee cb 190 () hL)
 have c22f:=fun(hp0:RP r1 n) (hp1:RP r2 n) (hp2:RP r3 n) (hp3:RP (o4 ar r3) n) (hp4:RP (o5 cb ar r3) n)=>bu (T:=T) [dc ⟨r1.val,r2.val,0,0,[],[]⟩] [.bool true] h hp4.2 (no22 hp0.1 hp1.1 hp2.1 hp3.1 hp4.1) (n22 hp0.1 hp1.1 hp2.1 hp3.1 hp4.1)
 have c28f:=fun(hp0:RP r1 n) (hp1:RP r2 n) (hp2:RP r3 n) (hp3:RP (o4 ar r3) n) (hp4:RP (o5 cb ar r3) n) (hp5:RP r6 n)=>bu (T:=T) [dc ⟨r1.val,r2.val,r6.val.1,r6.val.2,[],[]⟩] [af ak] h hp5.2 (fun code p hh=>by cases hh) (fun W hL=>t7 ▸ fE ak hL)
 have c30f:=fun(hp0:RP r1 n) (hp1:RP r2 n) (hp2:RP r3 n) (hp3:RP (o4 ar r3) n) (hp4:RP (o5 cb ar r3) n) (hp5:RP r6 n) (hp6:RP (Out.ok true (r6.pos+1)) n)=>bu (T:=T) [dc ⟨r1.val,r2.val,r6.val.1,r6.val.2,[],[]⟩] [] h hp6.2 (no30 hp0.1 hp1.1 hp2.1 hp3.1 hp4.1 hp5.1 hp6.1) (n30 hp0.1 hp1.1 hp2.1 hp3.1 hp4.1 hp5.1 hp6.1)
 have c33f:=fun(hp0:RP r1 n) (hp1:RP r2 n) (hp2:RP r3 n) (hp3:RP (o4 ar r3) n) (hp4:RP (o5 cb ar r3) n) (hp5:RP r6 n) (hp6:RP (Out.ok true (r6.pos+1)) n) (hp7:RP r8 n)=>bu (T:=T) [dc ⟨r1.val,r2.val,r6.val.1,r6.val.2,r8.val,[]⟩] [af ae] h hp7.2 (fun code p hh=>by cases hh) (fun W hL=>t9 ▸ fE ae hL)
 have z9f:=fun(hp0:RP r1 n) (hp1:RP r2 n) (hp2:RP r3 n) (hp3:RP (o4 ar r3) n) (hp4:RP (o5 cb ar r3) n) (hp5:RP r6 n) (hp6:RP (Out.ok true (r6.pos+1)) n) (hp7:RP r8 n) (hp8:RP (Out.ok false r8.pos) n)=>(show uh g A n c xH T (.val (xH ⟨r1.val,r2.val,r6.val.1,r6.val.2,r8.val,[]⟩)) [(g,154,df A n c (Out.ok false r8.pos).pos)]from⟨_,_,fin hp0.1 hp1.1 hp2.1 hp3.1 hp4.1 hp5.1 hp6.1 hp7.1 hp8.1,hp8.2,rfl,rfl⟩)
 refine cA [] h.bY [(4,.al (cE 0 g A n c r1 af)),(7,.al (cE 0 g A n c r2 kA)),(11,.al (cE 0 g A n c r3 af)),(12,.bin (.bool ar)),(13,.al (cE 0 g A n c (o4 ar r3) (fun _=>.tuple #[]))),(17,.call (.int .i64 ck)),(18,.is (.bool cb)),(19,.al (cE 0 g A n c (o5 cb ar r3) (fun _=>.tuple #[]))),(22,.al (cE 0 g A n c r6 jA)),(28,.al (cE 0 g A n c (Out.ok true (r6.pos+1)) (fun b=>.bool b))),(30,.al (cE 0 g A n c r8 af)),(33,.al (cE 0 g A n c (Out.ok false r8.pos) (fun b=>.bool b)))] [] (by kernel_rfl) Tryz.func190 rfl (Nat.le_of_ble_eq_true rfl) ?_
 exact Eq.mp (by kernel_rfl) (And.intro c4 (fun(hx0:r1.okB=true∧r1.pos≤n)=>(And.intro (c7f hx0) (fun(hx1:r2.okB=true∧r2.pos≤n)=>(And.intro (c11f hx0 hx1) (fun(hx2:r3.okB=true∧r3.pos≤n)=>(Sx.t2 (c12f hx0 hx1 hx2) (c13f hx0 hx1 hx2) (fun(hx3:(o4 ar r3).okB=true∧(o4 ar r3).pos≤n)=>(Sx.t2 (c17f hx0 hx1 hx2 hx3) (c18f hx0 hx1 hx2 hx3) (And.intro (c19f hx0 hx1 hx2 hx3) (fun(hx4:(o5 cb ar r3).okB=true∧(o5 cb ar r3).pos≤n)=>(And.intro (c22f hx0 hx1 hx2 hx3 hx4) (fun(hx5:r6.okB=true∧r6.pos≤n)=>(And.intro (c28f hx0 hx1 hx2 hx3 hx4 hx5) (fun(hx6:(Out.ok true (r6.pos+1)).okB=true∧(Out.ok true (r6.pos+1)).pos≤n)=>(And.intro (c30f hx0 hx1 hx2 hx3 hx4 hx5 hx6) (fun(hx7:r8.okB=true∧r8.pos≤n)=>(And.intro (c33f hx0 hx1 hx2 hx3 hx4 hx5 hx6 hx7) (fun(hx8:(Out.ok false r8.pos).okB=true∧(Out.ok false r8.pos).pos≤n)=>(z9f hx0 hx1 hx2 hx3 hx4 hx5 hx6 hx7 hx8))))))))))))))))))))
theorem EY{w:World}{g:Nat}{A:Option Go.Addr}{n c i:Nat}{ws:List Bs}(h:dF w g A n c i ws){T:Out Rl}{r1:Out Bs}{r2:Out Mt}{r3:Out Bs}{r6:Out (Int×Int)}{r8:Out Bs}{r10:Out Bs}(ar cb:Bool)(ck:Int)(har:decide (r3.val=oD)=ar)(hcb:Value.bool (ck==0)=.bool cb)(t7:cM ws r6.pos ak=(Out.ok true (r6.pos+1)))(t9:cM ws r8.pos ae=(Out.ok true (r8.pos+1)))
  (n4:ku 188 g A n c i ws af r1)
  (no4:fO r1 T)
  (n7:r1.okB=true→ku 93 g A n c (r1).pos ws kA r2)
  (no7:r1.okB=true→fO r2 T)
  (n11:r1.okB=true→r2.okB=true→ku 154 g A n c (r2).pos ws af r3)
  (no11:r1.okB=true→r2.okB=true→fO r3 T)
  (no13:r1.okB=true→r2.okB=true→r3.okB=true→fO (o4 ar r3) T)
  (n17:r1.okB=true→r2.okB=true→r3.okB=true→(o4 ar r3).okB=true→∀W,aw [g] w W→Calls Tryz.prog 83 #[kA r2.val] W fun e w'=>e=.returned (.int .i64 ck)∧aw [] W w')
  (no19:r1.okB=true→r2.okB=true→r3.okB=true→(o4 ar r3).okB=true→fO (o5 cb ar r3) T)
  (n22:r1.okB=true→r2.okB=true→r3.okB=true→(o4 ar r3).okB=true→(o5 cb ar r3).okB=true→∀W,dF W g A n c ((o5 cb ar r3)).pos ws→Calls Tryz.prog 192 (.pointer (some ⟨g,0,none⟩)::[.bool true]).toArray W (aY g A n c jA r6 W))
  (no22:r1.okB=true→r2.okB=true→r3.okB=true→(o4 ar r3).okB=true→(o5 cb ar r3).okB=true→fO r6 T)
  (n30:r1.okB=true→r2.okB=true→r3.okB=true→(o4 ar r3).okB=true→(o5 cb ar r3).okB=true→r6.okB=true→(Out.ok true (r6.pos+1)).okB=true→∀W,dF W g A n c ((Out.ok true (r6.pos+1))).pos ws→Calls Tryz.prog 188 (.pointer (some ⟨g,0,none⟩)::[]).toArray W (aY g A n c af r8 W))
  (no30:r1.okB=true→r2.okB=true→r3.okB=true→(o4 ar r3).okB=true→(o5 cb ar r3).okB=true→r6.okB=true→(Out.ok true (r6.pos+1)).okB=true→fO r8 T)
  (n35:r1.okB=true→r2.okB=true→r3.okB=true→(o4 ar r3).okB=true→(o5 cb ar r3).okB=true→r6.okB=true→(Out.ok true (r6.pos+1)).okB=true→r8.okB=true→(Out.ok true (r8.pos+1)).okB=true→∀W,dF W g A n c ((Out.ok true (r8.pos+1))).pos ws→Calls Tryz.prog 188 (.pointer (some ⟨g,0,none⟩)::[]).toArray W (aY g A n c af r10 W))
  (no35:r1.okB=true→r2.okB=true→r3.okB=true→(o4 ar r3).okB=true→(o5 cb ar r3).okB=true→r6.okB=true→(Out.ok true (r6.pos+1)).okB=true→r8.okB=true→(Out.ok true (r8.pos+1)).okB=true→fO r10 T)
  (fin:r1.okB=true→r2.okB=true→r3.okB=true→(o4 ar r3).okB=true→(o5 cb ar r3).okB=true→r6.okB=true→(Out.ok true (r6.pos+1)).okB=true→r8.okB=true→(Out.ok true (r8.pos+1)).okB=true→r10.okB=true→T=.ok ⟨r1.val,r2.val,r6.val.1,r6.val.2,r8.val,r10.val⟩ r10.pos) :
  Calls Tryz.prog 190 (.pointer (some ⟨g,0,none⟩)::[]).toArray w (aY g A n c xH T w):=by
 have c4:=bu (T:=T) [dc MX] [] h h.le (no4 ) (n4 )
 have c7f:=fun(hp0:RP r1 n)=>bu (T:=T) [dc ⟨r1.val,kZ,0,0,[],[]⟩] [] h hp0.2 (no7 hp0.1) (n7 hp0.1)
 have c11f:=fun(hp0:RP r1 n) (hp1:RP r2 n)=>bu (T:=T) [dc ⟨r1.val,r2.val,0,0,[],[]⟩] [] h hp1.2 (no11 hp0.1 hp1.1) (n11 hp0.1 hp1.1)
 have c12f:=fun(_:RP r1 n) (_:RP r2 n) (_:RP r3 n)=>fun W=>aD (.tmp 11) (.const (af oD)) r3.val oD ar har W
 have c13f:=fun(hp0:RP r1 n) (hp1:RP r2 n) (hp2:RP r3 n)=>bu (T:=T) [dc ⟨r1.val,r2.val,0,0,[],[]⟩] [.bool ar,.int .i64 200] h hp2.2 (no13 hp0.1 hp1.1 hp2.1) (fun W hL=>ee ar 200 () hL)
 have c17f:=fun(hp0:RP r1 n) (hp1:RP r2 n) (hp2:RP r3 n) (hp3:RP (o4 ar r3) n)=>n17 hp0.1 hp1.1 hp2.1 hp3.1
 have c18f:=fun(_:RP r1 n) (_:RP r2 n) (_:RP r3 n) (_:RP (o4 ar r3) n)=>hcb
 have c19f:=fun(hp0:RP r1 n) (hp1:RP r2 n) (hp2:RP r3 n) (hp3:RP (o4 ar r3) n)=>bu (T:=T) [dc ⟨r1.val,r2.val,0,0,[],[]⟩] [.bool cb,.int .i64 190] h hp3.2 (no19 hp0.1 hp1.1 hp2.1 hp3.1) (fun W hL=>ee cb 190 () hL)
 have c22f:=fun(hp0:RP r1 n) (hp1:RP r2 n) (hp2:RP r3 n) (hp3:RP (o4 ar r3) n) (hp4:RP (o5 cb ar r3) n)=>bu (T:=T) [dc ⟨r1.val,r2.val,0,0,[],[]⟩] [.bool true] h hp4.2 (no22 hp0.1 hp1.1 hp2.1 hp3.1 hp4.1) (n22 hp0.1 hp1.1 hp2.1 hp3.1 hp4.1)
 have c28f:=fun(hp0:RP r1 n) (hp1:RP r2 n) (hp2:RP r3 n) (hp3:RP (o4 ar r3) n) (hp4:RP (o5 cb ar r3) n) (hp5:RP r6 n)=>bu (T:=T) [dc ⟨r1.val,r2.val,r6.val.1,r6.val.2,[],[]⟩] [af ak] h hp5.2 (fun code p hh=>by cases hh) (fun W hL=>t7 ▸ fE ak hL)
 have c30f:=fun(hp0:RP r1 n) (hp1:RP r2 n) (hp2:RP r3 n) (hp3:RP (o4 ar r3) n) (hp4:RP (o5 cb ar r3) n) (hp5:RP r6 n) (hp6:RP (Out.ok true (r6.pos+1)) n)=>bu (T:=T) [dc ⟨r1.val,r2.val,r6.val.1,r6.val.2,[],[]⟩] [] h hp6.2 (no30 hp0.1 hp1.1 hp2.1 hp3.1 hp4.1 hp5.1 hp6.1) (n30 hp0.1 hp1.1 hp2.1 hp3.1 hp4.1 hp5.1 hp6.1)
 have c33f:=fun(hp0:RP r1 n) (hp1:RP r2 n) (hp2:RP r3 n) (hp3:RP (o4 ar r3) n) (hp4:RP (o5 cb ar r3) n) (hp5:RP r6 n) (hp6:RP (Out.ok true (r6.pos+1)) n) (hp7:RP r8 n)=>bu (T:=T) [dc ⟨r1.val,r2.val,r6.val.1,r6.val.2,r8.val,[]⟩] [af ae] h hp7.2 (fun code p hh=>by cases hh) (fun W hL=>t9 ▸ fE ae hL)
 have c35f:=fun(hp0:RP r1 n) (hp1:RP r2 n) (hp2:RP r3 n) (hp3:RP (o4 ar r3) n) (hp4:RP (o5 cb ar r3) n) (hp5:RP r6 n) (hp6:RP (Out.ok true (r6.pos+1)) n) (hp7:RP r8 n) (hp8:RP (Out.ok true (r8.pos+1)) n)=>bu (T:=T) [dc ⟨r1.val,r2.val,r6.val.1,r6.val.2,r8.val,[]⟩] [] h hp8.2 (no35 hp0.1 hp1.1 hp2.1 hp3.1 hp4.1 hp5.1 hp6.1 hp7.1 hp8.1) (n35 hp0.1 hp1.1 hp2.1 hp3.1 hp4.1 hp5.1 hp6.1 hp7.1 hp8.1)
 have z10f:=fun(hp0:RP r1 n) (hp1:RP r2 n) (hp2:RP r3 n) (hp3:RP (o4 ar r3) n) (hp4:RP (o5 cb ar r3) n) (hp5:RP r6 n) (hp6:RP (Out.ok true (r6.pos+1)) n) (hp7:RP r8 n) (hp8:RP (Out.ok true (r8.pos+1)) n) (hp9:RP r10 n)=>(show uh g A n c xH T (.val (xH ⟨r1.val,r2.val,r6.val.1,r6.val.2,r8.val,r10.val⟩)) [(g,154,df A n c r10.pos)]from⟨_,_,fin hp0.1 hp1.1 hp2.1 hp3.1 hp4.1 hp5.1 hp6.1 hp7.1 hp8.1 hp9.1,hp9.2,rfl,rfl⟩)
 refine cA [] h.bY [(4,.al (cE 0 g A n c r1 af)),(7,.al (cE 0 g A n c r2 kA)),(11,.al (cE 0 g A n c r3 af)),(12,.bin (.bool ar)),(13,.al (cE 0 g A n c (o4 ar r3) (fun _=>.tuple #[]))),(17,.call (.int .i64 ck)),(18,.is (.bool cb)),(19,.al (cE 0 g A n c (o5 cb ar r3) (fun _=>.tuple #[]))),(22,.al (cE 0 g A n c r6 jA)),(28,.al (cE 0 g A n c (Out.ok true (r6.pos+1)) (fun b=>.bool b))),(30,.al (cE 0 g A n c r8 af)),(33,.al (cE 0 g A n c (Out.ok true (r8.pos+1)) (fun b=>.bool b))),(35,.al (cE 0 g A n c r10 af))] [] (by kernel_rfl) Tryz.func190 rfl (Nat.le_of_ble_eq_true rfl) ?_
 exact Eq.mp (by kernel_rfl) (And.intro c4 (fun(hx0:r1.okB=true∧r1.pos≤n)=>(And.intro (c7f hx0) (fun(hx1:r2.okB=true∧r2.pos≤n)=>(And.intro (c11f hx0 hx1) (fun(hx2:r3.okB=true∧r3.pos≤n)=>(Sx.t2 (c12f hx0 hx1 hx2) (c13f hx0 hx1 hx2) (fun(hx3:(o4 ar r3).okB=true∧(o4 ar r3).pos≤n)=>(Sx.t2 (c17f hx0 hx1 hx2 hx3) (c18f hx0 hx1 hx2 hx3) (And.intro (c19f hx0 hx1 hx2 hx3) (fun(hx4:(o5 cb ar r3).okB=true∧(o5 cb ar r3).pos≤n)=>(And.intro (c22f hx0 hx1 hx2 hx3 hx4) (fun(hx5:r6.okB=true∧r6.pos≤n)=>(And.intro (c28f hx0 hx1 hx2 hx3 hx4 hx5) (fun(hx6:(Out.ok true (r6.pos+1)).okB=true∧(Out.ok true (r6.pos+1)).pos≤n)=>(And.intro (c30f hx0 hx1 hx2 hx3 hx4 hx5 hx6) (fun(hx7:r8.okB=true∧r8.pos≤n)=>(And.intro (c33f hx0 hx1 hx2 hx3 hx4 hx5 hx6 hx7) (fun(hx8:(Out.ok true (r8.pos+1)).okB=true∧(Out.ok true (r8.pos+1)).pos≤n)=>(And.intro (c35f hx0 hx1 hx2 hx3 hx4 hx5 hx6 hx7 hx8) (fun(hx9:r10.okB=true∧r10.pos≤n)=>(z10f hx0 hx1 hx2 hx3 hx4 hx5 hx6 hx7 hx8 hx9))))))))))))))))))))))
theorem Out.bind_assoc{α β γ:Type}(r:Out α)(g:α→Nat→Out β)(f:β→Nat→Out γ):(r.bind g).bind f=r.bind fun a i=>(g a i).bind f:=by cases r<;>rfl
theorem cB{α β:Type}{T:Out β}(r:Out α){f:α→Nat→Out β}(h:T=r.bind f):T=r.bind f:=h
theorem Lw(s:Bs):((pI s).getD oB).n < 2^128 ∧ -9223372036854775808≤((pI s).getD oB).k∧((pI s).getD oB).k≤9223372036854775807:=by
 cases h:pI s with
 |none=>exact⟨by decide,by decide,by decide⟩
 |some p=>
  obtain⟨h1,h2,_⟩:=lQ h
  unfold gg at h2
  rw[Bool.and_eq_true,Bool.and_eq_true,decide_eq_true_iff,decide_eq_true_iff]at h2
  have:=nJ p.v
  exact⟨h1,by show _≤p.k;omega,by show p.k≤_;omega⟩
theorem Out.aO{α β:Type}{r:Out α}{f:α→Nat→Out β}{b:β}{j:Nat}(h:r.bind f=.ok b j):∃a i,r=.ok a i∧f a i=.ok b j:=by
 cases r with
 |ok a i=>exact⟨a,i,rfl,h⟩
 |no c p=>cases h
theorem lB{α:Type}{b:Bool}{code:Nat}{a a':α}{i j:Nat}(h:ax b code a i=.ok a' j):b=true∧a'=a:=by
 cases b with
 |true=>injection h with h _;exact⟨rfl,h.symm⟩
 |false=>cases h
theorem vE{ws:List Bs}{i j:Nat}{s:Nat×Nat}(h:iH ws i=.ok s j):s.1≤65535∧s.2≤65535:=by
 obtain⟨x,k,_,hx⟩:=Out.aO h
 obtain⟨hb,rfl⟩:=lB hx
 rw[Bool.and_eq_true]at hb
 exact⟨su hb.1,su hb.2⟩
theorem mL{ws:List Bs}{i j:Nat}{p:Px}(h:dA ws i=.ok p j):p.n < 2^128 ∧ -9223372036854775808≤p.k∧p.k≤9223372036854775807:=by
 obtain⟨x,k,_,hx⟩:=Out.aO h
 obtain⟨_,rfl⟩:=lB hx
 exact Lw x
theorem FB{ws:List Bs}{i j v:Nat}(h:eg ws i=.ok v j):v≤255:=by
 unfold eg at h
 obtain⟨b,k,_,h⟩:=Out.aO h
 cases b with
 |true=>injection h with h _;omega
 |false=>
  obtain⟨b,k,_,h⟩:=Out.aO h
  cases b with
  |true=>injection h with h _;omega
  |false=>exact nT h
def Mt.Good(m:Mt):Prop:=m.Wf∧m.asks < 64
theorem sC:kZ.Good:=⟨⟨by decide,by decide,by decide,by decide,by decide,by decide,by decide,by decide,by decide⟩,by decide⟩
theorem zU{k:Nat}{m m':Mt}{ws:List Bs}{i j:Nat}(h:bA k m ws i=.ok m' j)(hm:m.Good):m'.Good:=by
 obtain⟨hw,ha⟩:=hm
 rcases k with _|_|_|_|_|k
 ·obtain⟨s,l,hs,h⟩:=Out.aO h
  injection h with h _
  subst h
  exact⟨{ hw with gf:=vE hs },ha⟩
 ·obtain⟨s,l,hs,h⟩:=Out.aO h
  injection h with h _
  subst h
  exact⟨{ hw with sn:=(mL hs).1,sk:=(mL hs).2 },ha⟩
 ·obtain⟨s,l,hs,h⟩:=Out.aO h
  injection h with h _
  subst h
  exact⟨{ hw with dn:=(mL hs).1,dk:=(mL hs).2 },ha⟩
 ·obtain⟨s,l,hs,h⟩:=Out.aO h
  injection h with h _
  subst h
  exact⟨{ hw with pr:=FB hs },ha⟩
 ·obtain⟨s,l,hs,h⟩:=Out.aO h
  injection h with h _
  subst h
  exact⟨{ hw with sp:=vE hs },ha⟩
 ·obtain⟨s,l,hs,h⟩:=Out.aO h
  injection h with h _
  subst h
  exact⟨{ hw with dp:=vE hs },ha⟩
theorem tf{ws:List Bs}{i:Nat}{m m':Mt}{b:Bool}{j:Nat}(h:bB ws i m=.ok (b,m') j)(hm:m.Good):m'.Good:=by
 unfold bB at h
 split at h
 ·injection h with h _;injection h with _ h;rw[←h];exact hm
 ·split at h
  ·injection h with h _;injection h with _ h;rw[←h];exact hm
  ·rename_i k hk
   split at h
   ·cases h
   ·obtain⟨a,l,hr,h⟩:=Out.aO h
    injection h with h _
    injection h with _ h
    subst h
    have h64:=BL ⟨m.asks,hm.2⟩ ⟨k,GJ hk⟩
    exact zU hr ⟨{ hm.1 with asks:=by show m.asks|||2^k < 256;exact Nat.lt_trans h64 (by decide) },h64⟩
theorem qy{ws:List Bs}:∀{f i:Nat} {m m':Mt} {j:Nat},ey ws f i m=.ok m' j→m.Good→m'.Good
 | 0,_,_,_,_,h,hm=>by injection h with h _;rw[←h];exact hm
 |f+1,_,_,_,_,h,hm=>by
  obtain⟨⟨b,a⟩,l,hr,h⟩:=Out.aO h
  have hg:=tf hr hm
  cases b with
  |true=>exact qy h hg
  |false=>injection h with h _;rw[←h];exact hm
theorem sD{ws:List Bs}{i:Nat}{m:Mt}{j:Nat}(h:fF ws i=.ok m j):m.Good:=by
 obtain⟨b,l,_,h⟩:=Out.aO h
 cases b with
 |true=>injection h with h _;rw[←h];exact sC
 |false=>
  obtain⟨⟨b,a⟩,l,hr,h⟩:=Out.aO h
  have hg:=tf hr sC
  cases b with
  |true=>exact qy h hg
  |false=>
   obtain⟨_,_,_,h⟩:=Out.aO h
   cases h
theorem Jm{w:World}{g:Nat}{A:Option Go.Addr}{n c i:Nat}{ws:List Bs}(h:dF w g A n c i ws):Calls Tryz.prog 190 #[.pointer (some ⟨g,0,none⟩)] w (aY g A n c xH (lM ws i) w):=by
 have E1:=cB (T:=lM ws i) (eh ws i) rfl
 have n4:=fun W (hL:dF W g A n c i ws)=>mP hL
 generalize hr1:eh ws i=r1 at E1 n4
 have E2:=fun(h1:r1.okB=true)=>cB (fF ws r1.pos) (bH E1 h1)
 have n7:=fun(_:r1.okB=true) W (hL:dF W g A n c r1.pos ws)=>Ga hL
 have hg:(fF ws r1.pos).okB=true→(fF ws r1.pos).val.Good:=fun hh=>sD (Out.BP hh)
 generalize hr2:fF ws r1.pos=r2 at E2 n7 hg
 have E3:=fun(h1:r1.okB=true) (h2:r2.okB=true)=>cB (bj ws r2.pos) ((bH (E2 h1) h2).trans (Out.bind_assoc (bj ws r2.pos) _ _))
 have n11:=fun(_:r1.okB=true) (_:r2.okB=true) W (hL:dF W g A n c r2.pos ws)=>lX hL
 generalize hr3:bj ws r2.pos=r3 at E3 n11
 have n17:=fun(_:r1.okB=true) (h2:r2.okB=true) (_:r3.okB=true) (_:(ax (decide (r3.val=oD)) 200 () r3.pos).okB=true) W (_:aw [g] w W)=>oV r2.val (hg h2).1 W
 have hck:Value.bool ((if bL r2.val=true then(0:Int)else 190)==0)=.bool (bL r2.val):=by cases bL r2.val<;>rfl
 generalize har:decide (r3.val=oD)=ar at E3 n17
 have E4:=fun(h1:r1.okB=true) (h2:r2.okB=true) (h3:r3.okB=true)=>cB (o4 ar r3) ((bH (E3 h1 h2) h3).trans (by rw[har];exact Out.bind_assoc (o4 ar r3) _ _))
 have E5:=fun(h1:r1.okB=true) (h2:r2.okB=true) (h3:r3.okB=true) (h4:(o4 ar r3).okB=true)=>cB (ax (bL r2.val) 190 () (o4 ar r3).pos) (bH (E4 h1 h2 h3) h4)
 generalize (if bL r2.val=true then(0:Int)else 190)=ck at n17 hck
 generalize hcb:bL r2.val=cb at hck E5
 have E6:=fun(h1:r1.okB=true) (h2:r2.okB=true) (h3:r3.okB=true) (h4:(o4 ar r3).okB=true) (h5:(o5 cb ar r3).okB=true)=>cB (np true ws (o5 cb ar r3).pos) (bH (E5 h1 h2 h3 h4) h5)
 have n22:=fun(_:r1.okB=true) (_:r2.okB=true) (_:r3.okB=true) (_:(o4 ar r3).okB=true) (_:(o5 cb ar r3).okB=true) W (hL:dF W g A n c (o5 cb ar r3).pos ws)=>uV true hL
 generalize np true ws (o5 cb ar r3).pos=r6 at E6 n22
 have E7:=fun h1 h2 h3 h4 h5 (h6:r6.okB=true)=>cB (jh ak ws r6.pos) (bH (E6 h1 h2 h3 h4 h5) h6)
 rcases fe (ws:=ws) (i:=r6.pos) (s:=ak)with⟨t7,_⟩ | t7
 ·have o7:jh ak ws r6.pos=eh ws (r6.pos+1):=by unfold jh;rw[t7];rfl
  rw[o7]at E7
  have n30:=fun W (hL:dF W g A n c (r6.pos+1) ws)=>mP hL
  generalize eh ws (r6.pos+1)=r8 at E7 n30
  have E9:=fun h1 h2 h3 h4 h5 h6 (h8:r8.okB=true)=>cB (jh ae ws r8.pos) (bH (E7 h1 h2 h3 h4 h5 h6) h8)
  rcases fe (ws:=ws) (i:=r8.pos) (s:=ae)with⟨t9,_⟩ | t9
  ·have o9:jh ae ws r8.pos=eh ws (r8.pos+1):=by unfold jh;rw[t9];rfl
   rw[o9]at E9
   have n35:=fun W (hL:dF W g A n c (r8.pos+1) ws)=>mP hL
   generalize eh ws (r8.pos+1)=r10 at E9 n35
   exact EY h ar cb ck har hck t7 t9 n4 (aX E1) n7 (fun h1=>aX (E2 h1)) n11 (fun h1 h2=>aX (E3 h1 h2)) (fun h1 h2 h3=>aX (E4 h1 h2 h3)) n17 (fun h1 h2 h3 h4=>aX (E5 h1 h2 h3 h4)) n22 (fun h1 h2 h3 h4 h5=>aX (E6 h1 h2 h3 h4 h5)) (fun _ _ _ _ _ _ _=>n30) (fun h1 h2 h3 h4 h5 h6 _=>aX (E7 h1 h2 h3 h4 h5 h6)) (fun _ _ _ _ _ _ _ _ _=>n35) (fun h1 h2 h3 h4 h5 h6 _ h8 _=>aX (E9 h1 h2 h3 h4 h5 h6 h8)) (fun h1 h2 h3 h4 h5 h6 _ h8 _ h10=>bH (E9 h1 h2 h3 h4 h5 h6 h8) h10)
  ·have o9:jh ae ws r8.pos=.ok [] r8.pos:=by unfold jh;rw[t9];rfl
   rw[o9]at E9
   exact EZ h ar cb ck har hck t7 t9 n4 (aX E1) n7 (fun h1=>aX (E2 h1)) n11 (fun h1 h2=>aX (E3 h1 h2)) (fun h1 h2 h3=>aX (E4 h1 h2 h3)) n17 (fun h1 h2 h3 h4=>aX (E5 h1 h2 h3 h4)) n22 (fun h1 h2 h3 h4 h5=>aX (E6 h1 h2 h3 h4 h5)) (fun _ _ _ _ _ _ _=>n30) (fun h1 h2 h3 h4 h5 h6 _=>aX (E7 h1 h2 h3 h4 h5 h6)) (fun h1 h2 h3 h4 h5 h6 _ h8 _=>E9 h1 h2 h3 h4 h5 h6 h8)
 ·have o7:jh ak ws r6.pos=.ok [] r6.pos:=by unfold jh;rw[t7];rfl
  rw[o7]at E7
  have E9:=fun h1 h2 h3 h4 h5 h6=>cB (jh ae ws r6.pos) (E7 h1 h2 h3 h4 h5 h6)
  rcases fe (ws:=ws) (i:=r6.pos) (s:=ae)with⟨t9,_⟩ | t9
  ·have o9:jh ae ws r6.pos=eh ws (r6.pos+1):=by unfold jh;rw[t9];rfl
   rw[o9]at E9
   have n35:=fun W (hL:dF W g A n c (r6.pos+1) ws)=>mP hL
   generalize eh ws (r6.pos+1)=r10 at E9 n35
   exact E0 h ar cb ck har hck t7 t9 n4 (aX E1) n7 (fun h1=>aX (E2 h1)) n11 (fun h1 h2=>aX (E3 h1 h2)) (fun h1 h2 h3=>aX (E4 h1 h2 h3)) n17 (fun h1 h2 h3 h4=>aX (E5 h1 h2 h3 h4)) n22 (fun h1 h2 h3 h4 h5=>aX (E6 h1 h2 h3 h4 h5)) (fun _ _ _ _ _ _ _ _=>n35) (fun h1 h2 h3 h4 h5 h6 _ _=>aX (E9 h1 h2 h3 h4 h5 h6)) (fun h1 h2 h3 h4 h5 h6 _ _ h10=>bH (E9 h1 h2 h3 h4 h5 h6) h10)
  ·have o9:jh ae ws r6.pos=.ok [] r6.pos:=by unfold jh;rw[t9];rfl
   rw[o9]at E9
   exact E8 h ar cb ck har hck t7 t9 n4 (aX E1) n7 (fun h1=>aX (E2 h1)) n11 (fun h1 h2=>aX (E3 h1 h2)) (fun h1 h2 h3=>aX (E4 h1 h2 h3)) n17 (fun h1 h2 h3 h4=>aX (E5 h1 h2 h3 h4)) n22 (fun h1 h2 h3 h4 h5=>aX (E6 h1 h2 h3 h4 h5)) (fun h1 h2 h3 h4 h5 h6 _ _=>E9 h1 h2 h3 h4 h5 h6)
end Go.Proofs.YtnncigmpcdehnaaGreatDoor
