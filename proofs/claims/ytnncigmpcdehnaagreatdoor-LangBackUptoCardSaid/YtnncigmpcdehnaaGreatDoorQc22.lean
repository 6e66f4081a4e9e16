import Derived.Test.YtnncigmpcdehnaaGreatDoorQc21
namespace Go.Proofs.YtnncigmpcdehnaaGreatDoor
set_option maxRecDepth 100000
open Go.RowKit Go.Lib Go.Sort
def xD(r:Rl):Value:=.agg r.cells.toArray
def cU(r:Rl):Sx.Row:=⟨81,.aj r.cells⟩
abbrev RP{α:Type}(r:Out α)(n:Nat):Prop:=r.okB=true∧r.pos≤n
abbrev kq(f g:Nat)(A:Option Go.Addr)(n c i:Nat)(ws:List Bs){α:Type}(V:α→Value)(r:Out α):Prop:=∀W,dw W g A n c i ws→Calls Tryz.prog f (.pointer (some ⟨g,0,none⟩)::[]).toArray W (aO g A n c V r W)
abbrev fE{α β:Type}(r:Out α)(T:Out β):Prop:=∀code p,r=.no code p→T=.no code p
abbrev o4(ar:Bool)(r3:Out Bs):Out Unit:=ak ar 200 () r3.pos
abbrev o5(cb ar:Bool)(r3:Out Bs):Out Unit:=ak cb 190 () (o4 ar r3).pos
theorem Fz{w:World}{g:Nat}{A:Option Go.Addr}{n c i:Nat}{ws:List Bs}(h:dw w g A n c i ws){T:Out Rl}{r1:Out Bs}{r2:Out Mt}{r3:Out Bs}{r6:Out (Int×Int)}(ar cb:Bool)(ck:Int)(har:decide (r3.val=nU)=ar)(hcb:Value.bool (ck==0)=.bool cb)(t7:cH ws r6.pos aH=(Out.ok false r6.pos))(t9:cH ws r6.pos ax=(Out.ok false r6.pos))
  (n4:kq 188 g A n c i ws ab r1)
  (no4:fE r1 T)
  (n7:r1.okB=true→kq 93 g A n c (r1).pos ws gv r2)
  (no7:r1.okB=true→fE r2 T)
  (n11:r1.okB=true→r2.okB=true→kq 154 g A n c (r2).pos ws ab r3)
  (no11:r1.okB=true→r2.okB=true→fE r3 T)
  (no13:r1.okB=true→r2.okB=true→r3.okB=true→fE (o4 ar r3) T)
  (n17:r1.okB=true→r2.okB=true→r3.okB=true→(o4 ar r3).okB=true→∀W,ah [g] w W→Calls Tryz.prog 83 #[gv r2.val] W fun e w'=>e=.returned (.int .i64 ck)∧ah [] W w')
  (no19:r1.okB=true→r2.okB=true→r3.okB=true→(o4 ar r3).okB=true→fE (o5 cb ar r3) T)
  (n22:r1.okB=true→r2.okB=true→r3.okB=true→(o4 ar r3).okB=true→(o5 cb ar r3).okB=true→∀W,dw W g A n c ((o5 cb ar r3)).pos ws→Calls Tryz.prog 192 (.pointer (some ⟨g,0,none⟩)::[.bool true]).toArray W (aO g A n c ju r6 W))
  (no22:r1.okB=true→r2.okB=true→r3.okB=true→(o4 ar r3).okB=true→(o5 cb ar r3).okB=true→fE r6 T)
  (fin:r1.okB=true→r2.okB=true→r3.okB=true→(o4 ar r3).okB=true→(o5 cb ar r3).okB=true→r6.okB=true→(Out.ok false r6.pos).okB=true→(Out.ok false r6.pos).okB=true→T=.ok ⟨r1.val,r2.val,r6.val.1,r6.val.2,[],[]⟩ (Out.ok false r6.pos).pos) :
  Calls Tryz.prog 190 (.pointer (some ⟨g,0,none⟩)::[]).toArray w (aO g A n c xD T w):=by
 have c4:=bh (T:=T) [cU NY] [] h h.le (no4 ) (n4 )
 have c7f:=fun(hp0:RP r1 n)=>bh (T:=T) [cU ⟨r1.val,fL,0,0,[],[]⟩] [] h hp0.2 (no7 hp0.1) (n7 hp0.1)
 have c11f:=fun(hp0:RP r1 n) (hp1:RP r2 n)=>bh (T:=T) [cU ⟨r1.val,r2.val,0,0,[],[]⟩] [] h hp1.2 (no11 hp0.1 hp1.1) (n11 hp0.1 hp1.1)
 have c12f:=fun(_:RP r1 n) (_:RP r2 n) (_:RP r3 n)=>fun W=>av (.tmp 11) (.const (ab nU)) r3.val nU ar har W
 have c13f:=fun(hp0:RP r1 n) (hp1:RP r2 n) (hp2:RP r3 n)=>bh (T:=T) [cU ⟨r1.val,r2.val,0,0,[],[]⟩] [.bool ar,.int .i64 200] h hp2.2 (no13 hp0.1 hp1.1 hp2.1) (fun W hL=>dV ar 200 () hL)
 have c17f:=fun(hp0:RP r1 n) (hp1:RP r2 n) (hp2:RP r3 n) (hp3:RP (o4 ar r3) n)=>n17 hp0.1 hp1.1 hp2.1 hp3.1
 have c18f:=fun(_:RP r1 n) (_:RP r2 n) (_:RP r3 n) (_:RP (o4 ar r3) n)=>hcb
 have c19f:=fun(hp0:RP r1 n) (hp1:RP r2 n) (hp2:RP r3 n) (hp3:RP (o4 ar r3) n)=>bh (T:=T) [cU ⟨r1.val,r2.val,0,0,[],[]⟩] [.bool cb,.int .i64 190] h hp3.2 (no19 hp0.1 hp1.1 hp2.1 hp3.1) (fun W hL=>dV cb 190 () hL)
 have c22f:=fun(hp0:RP r1 n) (hp1:RP r2 n) (hp2:RP r3 n) (hp3:RP (o4 ar r3) n) (hp4:RP (o5 cb ar r3) n)=>bh (T:=T) [cU ⟨r1.val,r2.val,0,0,[],[]⟩] [.bool true] h hp4.2 (no22 hp0.1 hp1.1 hp2.1 hp3.1 hp4.1) (n22 hp0.1 hp1.1 hp2.1 hp3.1 hp4.1)
 have c28f:=fun(hp0:RP r1 n) (hp1:RP r2 n) (hp2:RP r3 n) (hp3:RP (o4 ar r3) n) (hp4:RP (o5 cb ar r3) n) (hp5:RP r6 n)=>bh (T:=T) [cU ⟨r1.val,r2.val,r6.val.1,r6.val.2,[],[]⟩] [ab aH] h hp5.2 (fun code p hh=>by cases hh) (fun W hL=>t7 ▸ fw aH hL)
 have c33f:=fun(hp0:RP r1 n) (hp1:RP r2 n) (hp2:RP r3 n) (hp3:RP (o4 ar r3) n) (hp4:RP (o5 cb ar r3) n) (hp5:RP r6 n) (hp6:RP (Out.ok false r6.pos) n)=>bh (T:=T) [cU ⟨r1.val,r2.val,r6.val.1,r6.val.2,[],[]⟩] [ab ax] h hp6.2 (fun code p hh=>by cases hh) (fun W hL=>t9 ▸ fw ax hL)
 have z8f:=fun(hp0:RP r1 n) (hp1:RP r2 n) (hp2:RP r3 n) (hp3:RP (o4 ar r3) n) (hp4:RP (o5 cb ar r3) n) (hp5:RP r6 n) (hp6:RP (Out.ok false r6.pos) n) (hp7:RP (Out.ok false r6.pos) n)=>(show ud g A n c xD T (.val (xD ⟨r1.val,r2.val,r6.val.1,r6.val.2,[],[]⟩)) [(g,154,cW A n c (Out.ok false r6.pos).pos)]from⟨_,_,fin hp0.1 hp1.1 hp2.1 hp3.1 hp4.1 hp5.1 hp6.1 hp7.1,hp7.2,rfl,rfl⟩)
 refine cw [] h.bM [(4,.ai (cB 0 g A n c r1 ab)),(7,.ai (cB 0 g A n c r2 gv)),(11,.ai (cB 0 g A n c r3 ab)),(12,.bin (.bool ar)),(13,.ai (cB 0 g A n c (o4 ar r3) (fun _=>.tuple #[]))),(17,.call (.int .i64 ck)),(18,.is (.bool cb)),(19,.ai (cB 0 g A n c (o5 cb ar r3) (fun _=>.tuple #[]))),(22,.ai (cB 0 g A n c r6 ju)),(28,.ai (cB 0 g A n c (Out.ok false r6.pos) (fun b=>.bool b))),(33,.ai (cB 0 g A n c (Out.ok false r6.pos) (fun b=>.bool b)))] [] (by kernel_rfl) Tryz.func190 rfl (Nat.le_of_ble_eq_true rfl) ?_
 exact Eq.mp (by kernel_rfl) (And.intro c4 (fun(hx0:r1.okB=true∧r1.pos≤n)=>(And.intro (c7f hx0) (fun(hx1:r2.okB=true∧r2.pos≤n)=>(And.intro (c11f hx0 hx1) (fun(hx2:r3.okB=true∧r3.pos≤n)=>(Sx.t2 (c12f hx0 hx1 hx2) (c13f hx0 hx1 hx2) (fun(hx3:(o4 ar r3).okB=true∧(o4 ar r3).pos≤n)=>(Sx.t2 (c17f hx0 hx1 hx2 hx3) (c18f hx0 hx1 hx2 hx3) (And.intro (c19f hx0 hx1 hx2 hx3) (fun(hx4:(o5 cb ar r3).okB=true∧(o5 cb ar r3).pos≤n)=>(And.intro (c22f hx0 hx1 hx2 hx3 hx4) (fun(hx5:r6.okB=true∧r6.pos≤n)=>(And.intro (c28f hx0 hx1 hx2 hx3 hx4 hx5) (fun(hx6:(Out.ok false r6.pos).okB=true∧(Out.ok false r6.pos).pos≤n)=>(And.intro (c33f hx0 hx1 hx2 hx3 hx4 hx5 hx6) (fun(hx7:(Out.ok false r6.pos).okB=true∧(Out.ok false r6.pos).pos≤n)=>(z8f hx0 hx1 hx2 hx3 hx4 hx5 hx6 hx7))))))))))))))))))
theorem Fy{w:World}{g:Nat}{A:Option Go.Addr}{n c i:Nat}{ws:List Bs}(h:dw w g A n c i ws){T:Out Rl}{r1:Out Bs}{r2:Out Mt}{r3:Out Bs}{r6:Out (Int×Int)}{r10:Out Bs}(ar cb:Bool)(ck:Int)(har:decide (r3.val=nU)=ar)(hcb:Value.bool (ck==0)=.bool cb)(t7:cH ws r6.pos aH=(Out.ok false r6.pos))(t9:cH ws r6.pos ax=(Out.ok true (r6.pos+1)))
  (n4:kq 188 g A n c i ws ab r1)
  (no4:fE r1 T)
  (n7:r1.okB=true→kq 93 g A n c (r1).pos ws gv r2)
  (no7:r1.okB=true→fE r2 T)
  (n11:r1.okB=true→r2.okB=true→kq 154 g A n c (r2).pos ws ab r3)
  (no11:r1.okB=true→r2.okB=true→fE r3 T)
  (no13:r1.okB=true→r2.okB=true→r3.okB=true→fE (o4 ar r3) T)
  (n17:r1.okB=true→r2.okB=true→r3.okB=true→(o4 ar r3).okB=true→∀W,ah [g] w W→Calls Tryz.prog 83 #[gv r2.val] W fun e w'=>e=.returned (.int .i64 ck)∧ah [] W w')
  (no19:r1.okB=true→r2.okB=true→r3.okB=true→(o4 ar r3).okB=true→fE (o5 cb ar r3) T)
  (n22:r1.okB=true→r2.okB=true→r3.okB=true→(o4 ar r3).okB=true→(o5 cb ar r3).okB=true→∀W,dw W g A n c ((o5 cb ar r3)).pos ws→Calls Tryz.prog 192 (.pointer (some ⟨g,0,none⟩)::[.bool true]).toArray W (aO g A n c ju r6 W))
  (no22:r1.okB=true→r2.okB=true→r3.okB=true→(o4 ar r3).okB=true→(o5 cb ar r3).okB=true→fE r6 T)
  (n35:r1.okB=true→r2.okB=true→r3.okB=true→(o4 ar r3).okB=true→(o5 cb ar r3).okB=true→r6.okB=true→(Out.ok false r6.pos).okB=true→(Out.ok true (r6.pos+1)).okB=true→∀W,dw W g A n c ((Out.ok true (r6.pos+1))).pos ws→Calls Tryz.prog 188 (.pointer (some ⟨g,0,none⟩)::[]).toArray W (aO g A n c ab r10 W))
  (no35:r1.okB=true→r2.okB=true→r3.okB=true→(o4 ar r3).okB=true→(o5 cb ar r3).okB=true→r6.okB=true→(Out.ok false r6.pos).okB=true→(Out.ok true (r6.pos+1)).okB=true→fE r10 T)
  (fin:r1.okB=true→r2.okB=true→r3.okB=true→(o4 ar r3).okB=true→(o5 cb ar r3).okB=true→r6.okB=true→(Out.ok false r6.pos).okB=true→(Out.ok true (r6.pos+1)).okB=true→r10.okB=true→T=.ok ⟨r1.val,r2.val,r6.val.1,r6.val.2,[],r10.val⟩ r10.pos) :
  Calls Tryz.prog 190 (.pointer (some ⟨g,0,none⟩)::[]).toArray w (aO g A n c xD T w):=by
 have c4:=bh (T:=T) [cU NY] [] h h.le (no4 ) (n4 )
 have c7f:=fun(hp0:RP r1 n)=>bh (T:=T) [cU ⟨r1.val,fL,0,0,[],[]⟩] [] h hp0.2 (no7 hp0.1) (n7 hp0.1)
 have c11f:=fun(hp0:RP r1 n) (hp1:RP r2 n)=>bh (T:=T) [cU ⟨r1.val,r2.val,0,0,[],[]⟩] [] h hp1.2 (no11 hp0.1 hp1.1) (n11 hp0.1 hp1.1)
 have c12f:=fun(_:RP r1 n) (_:RP r2 n) (_:RP r3 n)=>fun W=>av (.tmp 11) (.const (ab nU)) r3.val nU ar har W
 have c13f:=fun(hp0:RP r1 n) (hp1:RP r2 n) (hp2:RP r3 n)=>bh (T:=T) [cU ⟨r1.val,r2.val,0,0,[],[]⟩] [.bool ar,.int .i64 200] h hp2.2 (no13 hp0.1 hp1.1 hp2.1) (fun W hL=>dV ar 200 () hL)
 have c17f:=fun(hp0:RP r1 n) (hp1:RP r2 n) (hp2:RP r3 n) (hp3:RP (o4 ar r3) n)=>n17 hp0.1 hp1.1 hp2.1 hp3.1
 have c18f:=fun(_:RP r1 n) (_:RP r2 n) (_:RP r3 n) (_:RP (o4 ar r3) n)=>hcb
 have c19f:=fun(hp0:RP r1 n) (hp1:RP r2 n) (hp2:RP r3 n) (hp3:RP (o4 ar r3) n)=>bh (T:=T) [cU ⟨r1.val,r2.val,0,0,[],[]⟩] [.bool cb,.int .i64 190] h hp3.2 (no19 hp0.1 hp1.1 hp2.1 hp3.1) (fun W hL=>dV cb 190 () hL)
 have c22f:=fun(hp0:RP r1 n) (hp1:RP r2 n) (hp2:RP r3 n) (hp3:RP (o4 ar r3) n) (hp4:RP (o5 cb ar r3) n)=>bh (T:=T) [cU ⟨r1.val,r2.val,0,0,[],[]⟩] [.bool true] h hp4.2 (no22 hp0.1 hp1.1 hp2.1 hp3.1 hp4.1) (n22 hp0.1 hp1.1 hp2.1 hp3.1 hp4.1)
 have c28f:=fun(hp0:RP r1 n) (hp1:RP r2 n) (hp2:RP r3 n) (hp3:RP (o4 ar r3) n) (hp4:RP (o5 cb ar r3) n) (hp5:RP r6 n)=>bh (T:=T) [cU ⟨r1.val,r2.val,r6.val.1,r6.val.2,[],[]⟩] [ab aH] h hp5.2 (fun code p hh=>by cases hh) (fun W hL=>t7 ▸ fw aH hL)
 have c33f:=fun(hp0:RP r1 n) (hp1:RP r2 n) (hp2:RP r3 n) (hp3:RP (o4 ar r3) n) (hp4:RP (o5 cb ar r3) n) (hp5:RP r6 n) (hp6:RP (Out.ok false r6.pos) n)=>bh (T:=T) [cU ⟨r1.val,r2.val,r6.val.1,r6.val.2,[],[]⟩] [ab ax] h hp6.2 (fun code p hh=>by cases hh) (fun W hL=>t9 ▸ fw ax hL)
 have c35f:=fun(hp0:RP r1 n) (hp1:RP r2 n) (hp2:RP r3 n) (hp3:RP (o4 ar r3) n) (hp4:RP (o5 cb ar r3) n) (hp5:RP r6 n) (hp6:RP (Out.ok false r6.pos) n) (hp7:RP (Out.ok true (r6.pos+1)) n)=>bh (T:=T) [cU ⟨r1.val,r2.val,r6.val.1,r6.val.2,[],[]⟩] [] h hp7.2 (no35 hp0.1 hp1.1 hp2.1 hp3.1 hp4.1 hp5.1 hp6.1 hp7.1) (n35 hp0.1 hp1.1 hp2.1 hp3.1 hp4.1 hp5.1 hp6.1 hp7.1)
 have z9f:=fun(hp0:RP r1 n) (hp1:RP r2 n) (hp2:RP r3 n) (hp3:RP (o4 ar r3) n) (hp4:RP (o5 cb ar r3) n) (hp5:RP r6 n) (hp6:RP (Out.ok false r6.pos) n) (hp7:RP (Out.ok true (r6.pos+1)) n) (hp8:RP r10 n)=>(show ud g A n c xD T (.val (xD ⟨r1.val,r2.val,r6.val.1,r6.val.2,[],r10.val⟩)) [(g,154,cW A n c r10.pos)]from⟨_,_,fin hp0.1 hp1.1 hp2.1 hp3.1 hp4.1 hp5.1 hp6.1 hp7.1 hp8.1,hp8.2,rfl,rfl⟩)
 refine cw [] h.bM [(4,.ai (cB 0 g A n c r1 ab)),(7,.ai (cB 0 g A n c r2 gv)),(11,.ai (cB 0 g A n c r3 ab)),(12,.bin (.bool ar)),(13,.ai (cB 0 g A n c (o4 ar r3) (fun _=>.tuple #[]))),(17,.call (.int .i64 ck)),(18,.is (.bool cb)),(19,.ai (cB 0 g A n c (o5 cb ar r3) (fun _=>.tuple #[]))),(22,.ai (cB 0 g A n c r6 ju)),(28,.ai (cB 0 g A n c (Out.ok false r6.pos) (fun b=>.bool b))),(33,.ai (cB 0 g A n c (Out.ok true (r6.pos+1)) (fun b=>.bool b))),(35,.ai (cB 0 g A n c r10 ab))] [] (by kernel_rfl) Tryz.func190 rfl (Nat.le_of_ble_eq_true rfl) ?_
 exact Eq.mp (by kernel_rfl) (And.intro c4 (fun(hx0:r1.okB=true∧r1.pos≤n)=>(And.intro (c7f hx0) (fun(hx1:r2.okB=true∧r2.pos≤n)=>(And.intro (c11f hx0 hx1) (fun(hx2:r3.okB=true∧r3.pos≤n)=>(Sx.t2 (c12f hx0 hx1 hx2) (c13f hx0 hx1 hx2) (fun(hx3:(o4 ar r3).okB=true∧(o4 ar r3).pos≤n)=>(Sx.t2 (c17f hx0 hx1 hx2 hx3) (c18f hx0 hx1 hx2 hx3) (And.intro (c19f hx0 hx1 hx2 hx3) (fun(hx4:(o5 cb ar r3).okB=true∧(o5 cb ar r3).pos≤n)=>(And.intro (c22f hx0 hx1 hx2 hx3 hx4) (fun(hx5:r6.okB=true∧r6.pos≤n)=>(And.intro (c28f hx0 hx1 hx2 hx3 hx4 hx5) (fun(hx6:(Out.ok false r6.pos).okB=true∧(Out.ok false r6.pos).pos≤n)=>(And.intro (c33f hx0 hx1 hx2 hx3 hx4 hx5 hx6) (fun(hx7:(Out.ok true (r6.pos+1)).okB=true∧(Out.ok true (r6.pos+1)).pos≤n)=>(And.intro (c35f hx0 hx1 hx2 hx3 hx4 hx5 hx6 hx7) (fun(hx8:r10.okB=true∧r10.pos≤n)=>(z9f hx0 hx1 hx2 hx3 hx4 hx5 hx6 hx7 hx8))))))))))))))))))))
theorem Fx{w:World}{g:Nat}{A:Option Go.Addr}{n c i:Nat}{ws:List Bs}(h:dw w g A n c i ws){T:Out Rl}{r1:Out Bs}{r2:Out Mt}{r3:Out Bs}{r6:Out (Int×Int)}{r8:Out Bs}(ar cb:Bool)(ck:Int)(har:decide (r3.val=nU)=ar)(hcb:Value.bool (ck==0)=.bool cb)(t7:cH ws r6.pos aH=(Out.ok true (r6.pos+1)))(t9:cH ws r8.pos ax=(Out.ok false r8.pos))
  (n4:kq 188 g A n c i ws ab r1)
  (no4:fE r1 T)
  (n7:r1.okB=true→kq 93 g A n c (r1).pos ws gv r2)
  (no7:r1.okB=true→fE r2 T)
  (n11:r1.okB=true→r2.okB=true→kq 154 g A n c (r2).pos ws ab r3)
  (no11:r1.okB=true→r2.okB=true→fE r3 T)
  (no13:r1.okB=true→r2.okB=true→r3.okB=true→fE (o4 ar r3) T)
  (n17:r1.okB=true→r2.okB=true→r3.okB=true→(o4 ar r3).okB=true→∀W,ah [g] w W→Calls Tryz.prog 83 #[gv r2.val] W fun e w'=>e=.returned (.int .i64 ck)∧ah [] W w')
  (no19:r1.okB=true→r2.okB=true→r3.okB=true→(o4 ar r3).okB=true→fE (o5 cb ar r3) T)
  (n22:r1.okB=true→r2.okB=true→r3.okB=true→(o4 ar r3).okB=true→(o5 cb ar r3).okB=true→∀W,dw W g A n c ((o5 cb ar r3)).pos ws→Calls Tryz.prog 192 (.pointer (some ⟨g,0,none⟩)::[.bool true]).toArray W (aO g A n c ju r6 W))
  (no22:r1.okB=true→r2.okB=true→r3.okB=true→(o4 ar r3).okB=true→(o5 cb ar r3).okB=true→fE r6 T)
  (n30:r1.okB=true→r2.okB=true→r3.okB=true→(o4 ar r3).okB=true→(o5 cb ar r3).okB=true→r6.okB=true→(Out.ok true (r6.pos+1)).okB=true→∀W,dw W g A n c ((Out.ok true (r6.pos+1))).pos ws→Calls Tryz.prog 188 (.pointer (some ⟨g,0,none⟩)::[]).toArray W (aO g A n c ab r8 W))
  (no30:r1.okB=true→r2.okB=true→r3.okB=true→(o4 ar r3).okB=true→(o5 cb ar r3).okB=true→r6.okB=true→(Out.ok true (r6.pos+1)).okB=true→fE r8 T)
  (fin:r1.okB=true→r2.okB=true→r3.okB=true→(o4 ar r3).okB=true→(o5 cb ar r3).okB=true→r6.okB=true→(Out.ok true (r6.pos+1)).okB=true→r8.okB=true→(Out.ok false r8.pos).okB=true→T=.ok ⟨r1.val,r2.val,r6.val.1,r6.val.2,r8.val,[]⟩ (Out.ok false r8.pos).pos) :
  Calls Tryz.prog 190 (.pointer (some ⟨g,0,none⟩)::[]).toArray w (aO g A n c xD T w):=by
 have c4:=bh (T:=T) [cU NY] [] h h.le (no4 ) (n4 )
 have c7f:=fun(hp0:RP r1 n)=>bh (T:=T) [cU ⟨r1.val,fL,0,0,[],[]⟩] [] h hp0.2 (no7 hp0.1) (n7 hp0.1)
 have c11f:=fun(hp0:RP r1 n) (hp1:RP r2 n)=>bh (T:=T) [cU ⟨r1.val,r2.val,0,0,[],[]⟩] [] h hp1.2 (no11 hp0.1 hp1.1) (n11 hp0.1 hp1.1)
 have c12f:=fun(_:RP r1 n) (_:RP r2 n) (_:RP r3 n)=>fun W=>av (.tmp 11) (.const (ab nU)) r3.val nU ar har W
 have c13f:=fun(hp0:RP r1 n) (hp1:RP r2 n) (hp2:RP r3 n)=>bh (T:=T) [cU ⟨r1.val,r2.val,0,0,[],[]⟩] [.bool ar,.int .i64 200] h hp2.2 (no13 hp0.1 hp1.1 hp2.1) (fun W hL=>dV ar 200 () hL)
 have c17f:=fun(hp0:RP r1 n) (hp1:RP r2 n) (hp2:RP r3 n) (hp3:RP (o4 ar r3) n)=>n17 hp0.1 hp1.1 hp2.1 hp3.1
 have c18f:=fun(_:RP r1 n) (_:RP r2 n) (_:RP r3 n) (_:RP (o4 ar r3) n)=>hcb
 have c19f:=fun(hp0:RP r1 n) (hp1:RP r2 n) (hp2:RP r3 n) (hp3:RP (o4 ar r3) n)=>bh (T:=T) [cU ⟨r1.val,r2.val,0,0,[],[]⟩] [.bool cb,.int .i64 190] h hp3.2 (no19 hp0.1 hp1.1 hp2.1 hp3.1) (fun W hL=>dV cb 190 () hL)
 have c22f:=fun(hp0:RP r1 n) (hp1:RP r2 n) (hp2:RP r3 n) (hp3:RP (o4 ar r3) n) (hp4:RP (o5 cb ar r3) n)=>bh (T:=T) [cU ⟨r1.val,r2.val,0,0,[],[]⟩] [.bool true] h hp4.2 (no22 hp0.1 hp1.1 hp2.1 hp3.1 hp4.1) (n22 hp0.1 hp1.1 hp2.1 hp3.1 hp4.1)
 have c28f:=fun(hp0:RP r1 n) (hp1:RP r2 n) (hp2:RP r3 n) (hp3:RP (o4 ar r3) n) (hp4:RP (o5 cb ar r3) n) (hp5:RP r6 n)=>bh (T:=T) [cU ⟨r1.val,r2.val,r6.val.1,r6.val.2,[],[]⟩] [ab aH] h hp5.2 (fun code p hh=>by cases hh) (fun W hL=>t7 ▸ fw aH hL)
 have c30f:=fun(hp0:RP r1 n) (hp1:RP r2 n) (hp2:RP r3 n) (hp3:RP (o4 ar r3) n) (hp4:RP (o5 cb ar r3) n) (hp5:RP r6 n) (hp6:RP (Out.ok true (r6.pos+1)) n)=>bh (T:=T) [cU ⟨r1.val,r2.val,r6.val.1,r6.val.2,[],[]⟩] [] h hp6.2 (no30 hp0.1 hp1.1 hp2.1 hp3.1 hp4.1 hp5.1 hp6.1) (n30 hp0.1 hp1.1 hp2.1 hp3.1 hp4.1 hp5.1 hp6.1)
 have c33f:=fun(hp0:RP r1 n) (hp1:RP r2 n) (hp2:RP r3 n) (hp3:RP (o4 ar r3) n) (hp4:RP (o5 cb ar r3) n) (hp5:RP r6 n) (hp6:RP (Out.ok true (r6.pos+1)) n) (hp7:RP r8 n)=>bh (T:=T) [cU ⟨r1.val,r2.val,r6.val.1,r6.val.2,r8.val,[]⟩] [ab ax] h hp7.2 (fun code p hh=>by cases hh) (fun W hL=>t9 ▸ fw ax hL)
 have z9f:=fun(hp0:RP r1 n) (hp1:RP r2 n) (hp2:RP r3 n) (hp3:RP (o4 ar r3) n) (hp4:RP (o5 cb ar r3) n) (hp5:RP r6 n) (hp6:RP (Out.ok true (r6.pos+1)) n) (hp7:RP r8 n) (hp8:RP (Out.ok false r8.pos) n)=>(show ud g A n c xD T (.val (xD ⟨r1.val,r2.val,r6.val.1,r6.val.2,r8.val,[]⟩)) [(g,154,cW A n c (Out.ok false r8.pos).pos)]from⟨_,_,fin hp0.1 hp1.1 hp2.1 hp3.1 hp4.1 hp5.1 hp6.1 hp7.1 hp8.1,hp8.2,rfl,rfl⟩)
 refine cw [] h.bM [(4,.ai (cB 0 g A n c r1 ab)),(7,.ai (cB 0 g A n c r2 gv)),(11,.ai (cB 0 g A n c r3 ab)),(12,.bin (.bool ar)),(13,.ai (cB 0 g A n c (o4 ar r3) (fun _=>.tuple #[]))),(17,.call (.int .i64 ck)),(18,.is (.bool cb)),(19,.ai (cB 0 g A n c (o5 cb ar r3) (fun _=>.tuple #[]))),(22,.ai (cB 0 g A n c r6 ju)),(28,.ai (cB 0 g A n c (Out.ok true (r6.pos+1)) (fun b=>.bool b))),(30,.ai (cB 0 g A n c r8 ab)),(33,.ai (cB 0 g A n c (Out.ok false r8.pos) (fun b=>.bool b)))] [] (by kernel_rfl) Tryz.func190 rfl (Nat.le_of_ble_eq_true rfl) ?_
 exact Eq.mp (by kernel_rfl) (And.intro c4 (fun(hx0:r1.okB=true∧r1.pos≤n)=>(And.intro (c7f hx0) (fun(hx1:r2.okB=true∧r2.pos≤n)=>(And.intro (c11f hx0 hx1) (fun(hx2:r3.okB=true∧r3.pos≤n)=>(Sx.t2 (c12f hx0 hx1 hx2) (c13f hx0 hx1 hx2) (fun(hx3:(o4 ar r3).okB=true∧(o4 ar r3).pos≤n)=>(Sx.t2 (c17f hx0 hx1 hx2 hx3) (c18f hx0 hx1 hx2 hx3) (And.intro (c19f hx0 hx1 hx2 hx3) (fun(hx4:(o5 cb ar r3).okB=true∧(o5 cb ar r3).pos≤n)=>(And.intro (c22f hx0 hx1 hx2 hx3 hx4) (fun(hx5:r6.okB=true∧r6.pos≤n)=>(And.intro (c28f hx0 hx1 hx2 hx3 hx4 hx5) (fun(hx6:(Out.ok true (r6.pos+1)).okB=true∧(Out.ok true (r6.pos+1)).pos≤n)=>(And.intro (c30f hx0 hx1 hx2 hx3 hx4 hx5 hx6) (fun(hx7:r8.okB=true∧r8.pos≤n)=>(And.intro (c33f hx0 hx1 hx2 hx3 hx4 hx5 hx6 hx7) (fun(hx8:(Out.ok false r8.pos).okB=true∧(Out.ok false r8.pos).pos≤n)=>(z9f hx0 hx1 hx2 hx3 hx4 hx5 hx6 hx7 hx8))))))))))))))))))))
theorem Fw{w:World}{g:Nat}{A:Option Go.Addr}{n c i:Nat}{ws:List Bs}(h:dw w g A n c i ws){T:Out Rl}{r1:Out Bs}{r2:Out Mt}{r3:Out Bs}{r6:Out (Int×Int)}{r8:Out Bs}{r10:Out Bs}(ar cb:Bool)(ck:Int)(har:decide (r3.val=nU)=ar)(hcb:Value.bool (ck==0)=.bool cb)(t7:cH ws r6.pos aH=(Out.ok true (r6.pos+1)))(t9:cH ws r8.pos ax=(Out.ok true (r8.pos+1)))
  (n4:kq 188 g A n c i ws ab r1)
  (no4:fE r1 T)
  (n7:r1.okB=true→kq 93 g A n c (r1).pos ws gv r2)
  (no7:r1.okB=true→fE r2 T)
  (n11:r1.okB=true→r2.okB=true→kq 154 g A n c (r2).pos ws ab r3)
  (no11:r1.okB=true→r2.okB=true→fE r3 T)
  (no13:r1.okB=true→r2.okB=true→r3.okB=true→fE (o4 ar r3) T)
  (n17:r1.okB=true→r2.okB=true→r3.okB=true→(o4 ar r3).okB=true→∀W,ah [g] w W→Calls Tryz.prog 83 #[gv r2.val] W fun e w'=>e=.returned (.int .i64 ck)∧ah [] W w')
  (no19:r1.okB=true→r2.okB=true→r3.okB=true→(o4 ar r3).okB=true→fE (o5 cb ar r3) T)
  (n22:r1.okB=true→r2.okB=true→r3.okB=true→(o4 ar r3).okB=true→(o5 cb ar r3).okB=true→∀W,dw W g A n c ((o5 cb ar r3)).pos ws→Calls Tryz.prog 192 (.pointer (some ⟨g,0,none⟩)::[.bool true]).toArray W (aO g A n c ju r6 W))
  (no22:r1.okB=true→r2.okB=true→r3.okB=true→(o4 ar r3).okB=true→(o5 cb ar r3).okB=true→fE r6 T)
  (n30:r1.okB=true→r2.okB=true→r3.okB=true→(o4 ar r3).okB=true→(o5 cb ar r3).okB=true→r6.okB=true→(Out.ok true (r6.pos+1)).okB=true→∀W,dw W g A n c ((Out.ok true (r6.pos+1))).pos ws→Calls Tryz.prog 188 (.pointer (some ⟨g,0,none⟩)::[]).toArray W (aO g A n c ab r8 W))
  (no30:r1.okB=true→r2.okB=true→r3.okB=true→(o4 ar r3).okB=true→(o5 cb ar r3).okB=true→r6.okB=true→(Out.ok true (r6.pos+1)).okB=true→fE r8 T)
  (n35:r1.okB=true→r2.okB=true→r3.okB=true→(o4 ar r3).okB=true→(o5 cb ar r3).okB=true→r6.okB=true→(Out.ok true (r6.pos+1)).okB=true→r8.okB=true→(Out.ok true (r8.pos+1)).okB=true→∀W,dw W g A n c ((Out.ok true (r8.pos+1))).pos ws→Calls Tryz.prog 188 (.pointer (some ⟨g,0,none⟩)::[]).toArray W (aO g A n c ab r10 W))
  (no35:r1.okB=true→r2.okB=true→r3.okB=true→(o4 ar r3).okB=true→(o5 cb ar r3).okB=true→r6.okB=true→(Out.ok true (r6.pos+1)).okB=true→r8.okB=true→(Out.ok true (r8.pos+1)).okB=true→fE r10 T)
  (fin:r1.okB=true→r2.okB=true→r3.okB=true→(o4 ar r3).okB=true→(o5 cb ar r3).okB=true→r6.okB=true→(Out.ok true (r6.pos+1)).okB=true→r8.okB=true→(Out.ok true (r8.pos+1)).okB=true→r10.okB=true→T=.ok ⟨r1.val,r2.val,r6.val.1,r6.val.2,r8.val,r10.val⟩ r10.pos) :
  Calls Tryz.prog 190 (.pointer (some ⟨g,0,none⟩)::[]).toArray w (aO g A n c xD T w):=by
 have c4:=bh (T:=T) [cU NY] [] h h.le (no4 ) (n4 )
 have c7f:=fun(hp0:RP r1 n)=>bh (T:=T) [cU ⟨r1.val,fL,0,0,[],[]⟩] [] h hp0.2 (no7 hp0.1) (n7 hp0.1)
 have c11f:=fun(hp0:RP r1 n) (hp1:RP r2 n)=>bh (T:=T) [cU ⟨r1.val,r2.val,0,0,[],[]⟩] [] h hp1.2 (no11 hp0.1 hp1.1) (n11 hp0.1 hp1.1)
 have c12f:=fun(_:RP r1 n) (_:RP r2 n) (_:RP r3 n)=>fun W=>av (.tmp 11) (.const (ab nU)) r3.val nU ar har W
 have c13f:=fun(hp0:RP r1 n) (hp1:RP r2 n) (hp2:RP r3 n)=>bh (T:=T) [cU ⟨r1.val,r2.val,0,0,[],[]⟩] [.bool ar,.int .i64 200] h hp2.2 (no13 hp0.1 hp1.1 hp2.1) (fun W hL=>dV ar 200 () hL)
 have c17f:=fun(hp0:RP r1 n) (hp1:RP r2 n) (hp2:RP r3 n) (hp3:RP (o4 ar r3) n)=>n17 hp0.1 hp1.1 hp2.1 hp3.1
 have c18f:=fun(_:RP r1 n) (_:RP r2 n) (_:RP r3 n) (_:RP (o4 ar r3) n)=>hcb
 have c19f:=fun(hp0:RP r1 n) (hp1:RP r2 n) (hp2:RP r3 n) (hp3:RP (o4 ar r3) n)=>bh (T:=T) [cU ⟨r1.val,r2.val,0,0,[],[]⟩] [.bool cb,.int .i64 190] h hp3.2 (no19 hp0.1 hp1.1 hp2.1 hp3.1) (fun W hL=>dV cb 190 () hL)
 have c22f:=fun(hp0:RP r1 n) (hp1:RP r2 n) (hp2:RP r3 n) (hp3:RP (o4 ar r3) n) (hp4:RP (o5 cb ar r3) n)=>bh (T:=T) [cU ⟨r1.val,r2.val,0,0,[],[]⟩] [.bool true] h hp4.2 (no22 hp0.1 hp1.1 hp2.1 hp3.1 hp4.1) (n22 hp0.1 hp1.1 hp2.1 hp3.1 hp4.1)
 have c28f:=fun(hp0:RP r1 n) (hp1:RP r2 n) (hp2:RP r3 n) (hp3:RP (o4 ar r3) n) (hp4:RP (o5 cb ar r3) n) (hp5:RP r6 n)=>bh (T:=T) [cU ⟨r1.val,r2.val,r6.val.1,r6.val.2,[],[]⟩] [ab aH] h hp5.2 (fun code p hh=>by cases hh) (fun W hL=>t7 ▸ fw aH hL)
 have c30f:=fun(hp0:RP r1 n) (hp1:RP r2 n) (hp2:RP r3 n) (hp3:RP (o4 ar r3) n) (hp4:RP (o5 cb ar r3) n) (hp5:RP r6 n) (hp6:RP (Out.ok true (r6.pos+1)) n)=>bh (T:=T) [cU ⟨r1.val,r2.val,r6.val.1,r6.val.2,[],[]⟩] [] h hp6.2 (no30 hp0.1 hp1.1 hp2.1 hp3.1 hp4.1 hp5.1 hp6.1) (n30 hp0.1 hp1.1 hp2.1 hp3.1 hp4.1 hp5.1 hp6.1)
 have c33f:=fun(hp0:RP r1 n) (hp1:RP r2 n) (hp2:RP r3 n) (hp3:RP (o4 ar r3) n) (hp4:RP (o5 cb ar r3) n) (hp5:RP r6 n) (hp6:RP (Out.ok true (r6.pos+1)) n) (hp7:RP r8 n)=>bh (T:=T) [cU ⟨r1.val,r2.val,r6.val.1,r6.val.2,r8.val,[]⟩] [ab ax] h hp7.2 (fun code p hh=>by cases hh) (fun W hL=>t9 ▸ fw ax hL)
 have c35f:=fun(hp0:RP r1 n) (hp1:RP r2 n) (hp2:RP r3 n) (hp3:RP (o4 ar r3) n) (hp4:RP (o5 cb ar r3) n) (hp5:RP r6 n) (hp6:RP (Out.ok true (r6.pos+1)) n) (hp7:RP r8 n) (hp8:RP (Out.ok true (r8.pos+1)) n)=>bh (T:=T) [cU ⟨r1.val,r2.val,r6.val.1,r6.val.2,r8.val,[]⟩] [] h hp8.2 (no35 hp0.1 hp1.1 hp2.1 hp3.1 hp4.1 hp5.1 hp6.1 hp7.1 hp8.1) (n35 hp0.1 hp1.1 hp2.1 hp3.1 hp4.1 hp5.1 hp6.1 hp7.1 hp8.1)
 have z10f:=fun(hp0:RP r1 n) (hp1:RP r2 n) (hp2:RP r3 n) (hp3:RP (o4 ar r3) n) (hp4:RP (o5 cb ar r3) n) (hp5:RP r6 n) (hp6:RP (Out.ok true (r6.pos+1)) n) (hp7:RP r8 n) (hp8:RP (Out.ok true (r8.pos+1)) n) (hp9:RP r10 n)=>(show ud g A n c xD T (.val (xD ⟨r1.val,r2.val,r6.val.1,r6.val.2,r8.val,r10.val⟩)) [(g,154,cW A n c r10.pos)]from⟨_,_,fin hp0.1 hp1.1 hp2.1 hp3.1 hp4.1 hp5.1 hp6.1 hp7.1 hp8.1 hp9.1,hp9.2,rfl,rfl⟩)
 refine cw [] h.bM [(4,.ai (cB 0 g A n c r1 ab)),(7,.ai (cB 0 g A n c r2 gv)),(11,.ai (cB 0 g A n c r3 ab)),(12,.bin (.bool ar)),(13,.ai (cB 0 g A n c (o4 ar r3) (fun _=>.tuple #[]))),(17,.call (.int .i64 ck)),(18,.is (.bool cb)),(19,.ai (cB 0 g A n c (o5 cb ar r3) (fun _=>.tuple #[]))),(22,.ai (cB 0 g A n c r6 ju)),(28,.ai (cB 0 g A n c (Out.ok true (r6.pos+1)) (fun b=>.bool b))),(30,.ai (cB 0 g A n c r8 ab)),(33,.ai (cB 0 g A n c (Out.ok true (r8.pos+1)) (fun b=>.bool b))),(35,.ai (cB 0 g A n c r10 ab))] [] (by kernel_rfl) Tryz.func190 rfl (Nat.le_of_ble_eq_true rfl) ?_
 exact Eq.mp (by kernel_rfl) (And.intro c4 (fun(hx0:r1.okB=true∧r1.pos≤n)=>(And.intro (c7f hx0) (fun(hx1:r2.okB=true∧r2.pos≤n)=>(And.intro (c11f hx0 hx1) (fun(hx2:r3.okB=true∧r3.pos≤n)=>(Sx.t2 (c12f hx0 hx1 hx2) (c13f hx0 hx1 hx2) (fun(hx3:(o4 ar r3).okB=true∧(o4 ar r3).pos≤n)=>(Sx.t2 (c17f hx0 hx1 hx2 hx3) (c18f hx0 hx1 hx2 hx3) (And.intro (c19f hx0 hx1 hx2 hx3) (fun(hx4:(o5 cb ar r3).okB=true∧(o5 cb ar r3).pos≤n)=>(And.intro (c22f hx0 hx1 hx2 hx3 hx4) (fun(hx5:r6.okB=true∧r6.pos≤n)=>(And.intro (c28f hx0 hx1 hx2 hx3 hx4 hx5) (fun(hx6:(Out.ok true (r6.pos+1)).okB=true∧(Out.ok true (r6.pos+1)).pos≤n)=>(And.intro (c30f hx0 hx1 hx2 hx3 hx4 hx5 hx6) (fun(hx7:r8.okB=true∧r8.pos≤n)=>(And.intro (c33f hx0 hx1 hx2 hx3 hx4 hx5 hx6 hx7) (fun(hx8:(Out.ok true (r8.pos+1)).okB=true∧(Out.ok true (r8.pos+1)).pos≤n)=>(And.intro (c35f hx0 hx1 hx2 hx3 hx4 hx5 hx6 hx7 hx8) (fun(hx9:r10.okB=true∧r10.pos≤n)=>(z10f hx0 hx1 hx2 hx3 hx4 hx5 hx6 hx7 hx8 hx9))))))))))))))))))))))
theorem Out.bind_assoc{α β γ:Type}(r:Out α)(g:α→Nat→Out β)(f:β→Nat→Out γ):(r.bind g).bind f=r.bind fun a i=>(g a i).bind f:=by cases r<;>rfl
theorem cy{α β:Type}{T:Out β}(r:Out α){f:α→Nat→Out β}(h:T=r.bind f):T=r.bind f:=h
theorem Mh(s:Bs):((pG s).getD ow).n < 2^128 ∧ -9223372036854775808≤((pG s).getD ow).k∧((pG s).getD ow).k≤9223372036854775807:=by
 cases h:pG s with
 |none=>exact⟨by decide,by decide,by decide⟩
 |some p=>
  obtain⟨h1,h2,_⟩:=rR h
  unfold gr at h2
  rw[Bool.and_eq_true,Bool.and_eq_true,decide_eq_true_iff,decide_eq_true_iff]at h2
  have:=nF p.v
  exact⟨h1,by show _≤p.k;omega,by show p.k≤_;omega⟩
theorem Out.cz{α β:Type}{r:Out α}{f:α→Nat→Out β}{b:β}{j:Nat}(h:r.bind f=.ok b j):∃a i,r=.ok a i∧f a i=.ok b j:=by
 cases r with
 |ok a i=>exact⟨a,i,rfl,h⟩
 |no c p=>cases h
theorem w7{α:Type}{b:Bool}{code:Nat}{a a':α}{i j:Nat}(h:ak b code a i=.ok a' j):b=true∧a'=a:=by
 cases b with
 |true=>injection h with h _;exact⟨rfl,h.symm⟩
 |false=>cases h
theorem vx{ws:List Bs}{i j:Nat}{s:Nat×Nat}(h:iC ws i=.ok s j):s.1≤65535∧s.2≤65535:=by
 obtain⟨x,k,_,hx⟩:=Out.cz h
 obtain⟨hb,rfl⟩:=w7 hx
 rw[Bool.and_eq_true]at hb
 exact⟨sr hb.1,sr hb.2⟩
theorem mP{ws:List Bs}{i j:Nat}{p:Px}(h:dD ws i=.ok p j):p.n < 2^128 ∧ -9223372036854775808≤p.k∧p.k≤9223372036854775807:=by
 obtain⟨x,k,_,hx⟩:=Out.cz h
 obtain⟨_,rfl⟩:=w7 hx
 exact Mh x
theorem F0{ws:List Bs}{i j v:Nat}(h:dX ws i=.ok v j):v≤255:=by
 unfold dX at h
 obtain⟨b,k,_,h⟩:=Out.cz h
 cases b with
 |true=>injection h with h _;omega
 |false=>
  obtain⟨b,k,_,h⟩:=Out.cz h
  cases b with
  |true=>injection h with h _;omega
  |false=>exact At h
def Mt.Good(m:Mt):Prop:=m.Wf∧m.asks < 64
theorem sC:fL.Good:=⟨⟨by decide,by decide,by decide,by decide,by decide,by decide,by decide,by decide,by decide⟩,by decide⟩
theorem Af{k:Nat}{m m':Mt}{ws:List Bs}{i j:Nat}(h:br k m ws i=.ok m' j)(hm:m.Good):m'.Good:=by
 obtain⟨hw,ha⟩:=hm
 rcases k with _|_|_|_|_|k
 ·obtain⟨s,l,hs,h⟩:=Out.cz h
  injection h with h _
  subst h
  exact⟨{ hw with fU:=vx hs },ha⟩
 ·obtain⟨s,l,hs,h⟩:=Out.cz h
  injection h with h _
  subst h
  exact⟨{ hw with sn:=(mP hs).1,sk:=(mP hs).2 },ha⟩
 ·obtain⟨s,l,hs,h⟩:=Out.cz h
  injection h with h _
  subst h
  exact⟨{ hw with dn:=(mP hs).1,dk:=(mP hs).2 },ha⟩
 ·obtain⟨s,l,hs,h⟩:=Out.cz h
  injection h with h _
  subst h
  exact⟨{ hw with pr:=F0 hs },ha⟩
 ·obtain⟨s,l,hs,h⟩:=Out.cz h
  injection h with h _
  subst h
  exact⟨{ hw with sp:=vx hs },ha⟩
 ·obtain⟨s,l,hs,h⟩:=Out.cz h
  injection h with h _
  subst h
  exact⟨{ hw with dp:=vx hs },ha⟩
theorem tn{ws:List Bs}{i:Nat}{m m':Mt}{b:Bool}{j:Nat}(h:bp ws i m=.ok (b,m') j)(hm:m.Good):m'.Good:=by
 unfold bp at h
 split at h
 ·injection h with h _;injection h with _ h;rw[←h];exact hm
 ·split at h
  ·injection h with h _;injection h with _ h;rw[←h];exact hm
  ·rename_i k hk
   split at h
   ·cases h
   ·obtain⟨a,l,hr,h⟩:=Out.cz h
    injection h with h _
    injection h with _ h
    subst h
    have h64:=Ci ⟨m.asks,hm.2⟩ ⟨k,G7 hk⟩
    exact Af hr ⟨{ hm.1 with asks:=by show m.asks|||2^k < 256;exact Nat.lt_trans h64 (by decide) },h64⟩
theorem qq{ws:List Bs}:∀{f i:Nat} {m m':Mt} {j:Nat},ei ws f i m=.ok m' j→m.Good→m'.Good
 | 0,_,_,_,_,h,hm=>by injection h with h _;rw[←h];exact hm
 |f+1,_,_,_,_,h,hm=>by
  obtain⟨⟨b,a⟩,l,hr,h⟩:=Out.cz h
  have hg:=tn hr hm
  cases b with
  |true=>exact qq h hg
  |false=>injection h with h _;rw[←h];exact hm
theorem sD{ws:List Bs}{i:Nat}{m:Mt}{j:Nat}(h:dR ws i=.ok m j):m.Good:=by
 obtain⟨b,l,_,h⟩:=Out.cz h
 cases b with
 |true=>injection h with h _;rw[←h];exact sC
 |false=>
  obtain⟨⟨b,a⟩,l,hr,h⟩:=Out.cz h
  have hg:=tn hr sC
  cases b with
  |true=>exact qq h hg
  |false=>
   obtain⟨_,_,_,h⟩:=Out.cz h
   cases h
theorem J3{w:World}{g:Nat}{A:Option Go.Addr}{n c i:Nat}{ws:List Bs}(h:dw w g A n c i ws):Calls Tryz.prog 190 #[.pointer (some ⟨g,0,none⟩)] w (aO g A n c xD (nu ws i) w):=by
 have E1:=cy (T:=nu ws i) (ed ws i) rfl
 have n4:=fun W (hL:dw W g A n c i ws)=>mV hL
 generalize hr1:ed ws i=r1 at E1 n4
 have E2:=fun(h1:r1.okB=true)=>cy (dR ws r1.pos) (bu E1 h1)
 have n7:=fun(_:r1.okB=true) W (hL:dw W g A n c r1.pos ws)=>ye hL
 have hg:(dR ws r1.pos).okB=true→(dR ws r1.pos).val.Good:=fun hh=>sD (Out.xP hh)
 generalize hr2:dR ws r1.pos=r2 at E2 n7 hg
 have E3:=fun(h1:r1.okB=true) (h2:r2.okB=true)=>cy (aY ws r2.pos) ((bu (E2 h1) h2).trans (Out.bind_assoc (aY ws r2.pos) _ _))
 have n11:=fun(_:r1.okB=true) (_:r2.okB=true) W (hL:dw W g A n c r2.pos ws)=>lY hL
 generalize hr3:aY ws r2.pos=r3 at E3 n11
 have n17:=fun(_:r1.okB=true) (h2:r2.okB=true) (_:r3.okB=true) (_:(ak (decide (r3.val=nU)) 200 () r3.pos).okB=true) W (_:ah [g] w W)=>j9 r2.val (hg h2).1 W
 have hck:Value.bool ((if bj r2.val=true then(0:Int)else 190)==0)=.bool (bj r2.val):=by cases bj r2.val<;>rfl
 generalize har:decide (r3.val=nU)=ar at E3 n17
 have E4:=fun(h1:r1.okB=true) (h2:r2.okB=true) (h3:r3.okB=true)=>cy (o4 ar r3) ((bu (E3 h1 h2) h3).trans (by rw[har];exact Out.bind_assoc (o4 ar r3) _ _))
 have E5:=fun(h1:r1.okB=true) (h2:r2.okB=true) (h3:r3.okB=true) (h4:(o4 ar r3).okB=true)=>cy (ak (bj r2.val) 190 () (o4 ar r3).pos) (bu (E4 h1 h2 h3) h4)
 generalize (if bj r2.val=true then(0:Int)else 190)=ck at n17 hck
 generalize hcb:bj r2.val=cb at hck E5
 have E6:=fun(h1:r1.okB=true) (h2:r2.okB=true) (h3:r3.okB=true) (h4:(o4 ar r3).okB=true) (h5:(o5 cb ar r3).okB=true)=>cy (ou true ws (o5 cb ar r3).pos) (bu (E5 h1 h2 h3 h4) h5)
 have n22:=fun(_:r1.okB=true) (_:r2.okB=true) (_:r3.okB=true) (_:(o4 ar r3).okB=true) (_:(o5 cb ar r3).okB=true) W (hL:dw W g A n c (o5 cb ar r3).pos ws)=>uL true hL
 generalize ou true ws (o5 cb ar r3).pos=r6 at E6 n22
 have E7:=fun h1 h2 h3 h4 h5 (h6:r6.okB=true)=>cy (js aH ws r6.pos) (bu (E6 h1 h2 h3 h4 h5) h6)
 rcases eY (ws:=ws) (i:=r6.pos) (s:=aH)with⟨t7,_⟩ | t7
 ·have o7:js aH ws r6.pos=ed ws (r6.pos+1):=by unfold js;rw[t7];rfl
  rw[o7]at E7
  have n30:=fun W (hL:dw W g A n c (r6.pos+1) ws)=>mV hL
  generalize ed ws (r6.pos+1)=r8 at E7 n30
  have E9:=fun h1 h2 h3 h4 h5 h6 (h8:r8.okB=true)=>cy (js ax ws r8.pos) (bu (E7 h1 h2 h3 h4 h5 h6) h8)
  rcases eY (ws:=ws) (i:=r8.pos) (s:=ax)with⟨t9,_⟩ | t9
  ·have o9:js ax ws r8.pos=ed ws (r8.pos+1):=by unfold js;rw[t9];rfl
   rw[o9]at E9
   have n35:=fun W (hL:dw W g A n c (r8.pos+1) ws)=>mV hL
   generalize ed ws (r8.pos+1)=r10 at E9 n35
   exact Fw h ar cb ck har hck t7 t9 n4 (aM E1) n7 (fun h1=>aM (E2 h1)) n11 (fun h1 h2=>aM (E3 h1 h2)) (fun h1 h2 h3=>aM (E4 h1 h2 h3)) n17 (fun h1 h2 h3 h4=>aM (E5 h1 h2 h3 h4)) n22 (fun h1 h2 h3 h4 h5=>aM (E6 h1 h2 h3 h4 h5)) (fun _ _ _ _ _ _ _=>n30) (fun h1 h2 h3 h4 h5 h6 _=>aM (E7 h1 h2 h3 h4 h5 h6)) (fun _ _ _ _ _ _ _ _ _=>n35) (fun h1 h2 h3 h4 h5 h6 _ h8 _=>aM (E9 h1 h2 h3 h4 h5 h6 h8)) (fun h1 h2 h3 h4 h5 h6 _ h8 _ h10=>bu (E9 h1 h2 h3 h4 h5 h6 h8) h10)
  ·have o9:js ax ws r8.pos=.ok [] r8.pos:=by unfold js;rw[t9];rfl
   rw[o9]at E9
   exact Fx h ar cb ck har hck t7 t9 n4 (aM E1) n7 (fun h1=>aM (E2 h1)) n11 (fun h1 h2=>aM (E3 h1 h2)) (fun h1 h2 h3=>aM (E4 h1 h2 h3)) n17 (fun h1 h2 h3 h4=>aM (E5 h1 h2 h3 h4)) n22 (fun h1 h2 h3 h4 h5=>aM (E6 h1 h2 h3 h4 h5)) (fun _ _ _ _ _ _ _=>n30) (fun h1 h2 h3 h4 h5 h6 _=>aM (E7 h1 h2 h3 h4 h5 h6)) (fun h1 h2 h3 h4 h5 h6 _ h8 _=>E9 h1 h2 h3 h4 h5 h6 h8)
 ·have o7:js aH ws r6.pos=.ok [] r6.pos:=by unfold js;rw[t7];rfl
  rw[o7]at E7
  have E9:=fun h1 h2 h3 h4 h5 h6=>cy (js ax ws r6.pos) (E7 h1 h2 h3 h4 h5 h6)
  rcases eY (ws:=ws) (i:=r6.pos) (s:=ax)with⟨t9,_⟩ | t9
  ·have o9:js ax ws r6.pos=ed ws (r6.pos+1):=by unfold js;rw[t9];rfl
   rw[o9]at E9
   have n35:=fun W (hL:dw W g A n c (r6.pos+1) ws)=>mV hL
   generalize ed ws (r6.pos+1)=r10 at E9 n35
   exact Fy h ar cb ck har hck t7 t9 n4 (aM E1) n7 (fun h1=>aM (E2 h1)) n11 (fun h1 h2=>aM (E3 h1 h2)) (fun h1 h2 h3=>aM (E4 h1 h2 h3)) n17 (fun h1 h2 h3 h4=>aM (E5 h1 h2 h3 h4)) n22 (fun h1 h2 h3 h4 h5=>aM (E6 h1 h2 h3 h4 h5)) (fun _ _ _ _ _ _ _ _=>n35) (fun h1 h2 h3 h4 h5 h6 _ _=>aM (E9 h1 h2 h3 h4 h5 h6)) (fun h1 h2 h3 h4 h5 h6 _ _ h10=>bu (E9 h1 h2 h3 h4 h5 h6) h10)
  ·have o9:js ax ws r6.pos=.ok [] r6.pos:=by unfold js;rw[t9];rfl
   rw[o9]at E9
   exact Fz h ar cb ck har hck t7 t9 n4 (aM E1) n7 (fun h1=>aM (E2 h1)) n11 (fun h1 h2=>aM (E3 h1 h2)) (fun h1 h2 h3=>aM (E4 h1 h2 h3)) n17 (fun h1 h2 h3 h4=>aM (E5 h1 h2 h3 h4)) n22 (fun h1 h2 h3 h4 h5=>aM (E6 h1 h2 h3 h4 h5)) (fun h1 h2 h3 h4 h5 h6 _ _=>E9 h1 h2 h3 h4 h5 h6)
end Go.Proofs.YtnncigmpcdehnaaGreatDoor
