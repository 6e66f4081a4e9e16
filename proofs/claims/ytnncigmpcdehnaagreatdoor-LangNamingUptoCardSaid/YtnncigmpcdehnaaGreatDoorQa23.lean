import Derived.Test.YtnncigmpcdehnaaGreatDoorQa22
namespace Go.Proofs.YtnncigmpcdehnaaGreatDoor
set_option maxRecDepth 100000
open Go.RowKit Go.Lib Go.Sort
def rlV(r:Rl):Value:=.agg r.cells.toArray
def rlRow(r:Rl):Sx.Row:=⟨81,.vals r.cells⟩
abbrev RP{α:Type}(r:Out α)(n:Nat):Prop:=r.okB=true∧r.pos≤n
abbrev LnK(f g:Nat)(A:Option Go.Addr)(n c i:Nat)(ws:List Bs){α:Type}(V:α→Value)(r:Out α):Prop:=∀W,Lin W g A n c i ws→Calls Tryz.prog f (.pointer (some ⟨g,0,none⟩)::[]).toArray W (LnPost g A n c V r W)
abbrev NoK{α β:Type}(r:Out α)(T:Out β):Prop:=∀code p,r=.no code p→T=.no code p
abbrev o4(ar:Bool)(r3:Out Bs):Out Unit:=wantR ar 200 () r3.pos
abbrev o5(cb ar:Bool)(r3:Out Bs):Out Unit:=wantR cb 190 () (o4 ar r3).pos
theorem rule_w00{w:World}{g:Nat}{A:Option Go.Addr}{n c i:Nat}{ws:List Bs}(h:Lin w g A n c i ws){T:Out Rl}{r1:Out Bs}{r2:Out Mt}{r3:Out Bs}{r6:Out (Int×Int)}(ar cb:Bool)(ck:Int)(har:decide (r3.val=kTo)=ar)(hcb:Value.bool (ck==0)=.bool cb)(t7:tookR ws r6.pos kMeter=(Out.ok false r6.pos))(t9:tookR ws r6.pos kMirror=(Out.ok false r6.pos))
  (n4:LnK 188 g A n c i ws strV r1)
  (no4:NoK r1 T)
  (n7:r1.okB=true→LnK 93 g A n c (r1).pos ws mtV r2)
  (no7:r1.okB=true→NoK r2 T)
  (n11:r1.okB=true→r2.okB=true→LnK 154 g A n c (r2).pos ws strV r3)
  (no11:r1.okB=true→r2.okB=true→NoK r3 T)
  (no13:r1.okB=true→r2.okB=true→r3.okB=true→NoK (o4 ar r3) T)
  (n17:r1.okB=true→r2.okB=true→r3.okB=true→(o4 ar r3).okB=true→∀W,Chg [g] w W→Calls Tryz.prog 83 #[mtV r2.val] W fun e w'=>e=.returned (.int .i64 ck)∧Chg [] W w')
  (no19:r1.okB=true→r2.okB=true→r3.okB=true→(o4 ar r3).okB=true→NoK (o5 cb ar r3) T)
  (n22:r1.okB=true→r2.okB=true→r3.okB=true→(o4 ar r3).okB=true→(o5 cb ar r3).okB=true→∀W,Lin W g A n c ((o5 cb ar r3)).pos ws→Calls Tryz.prog 192 (.pointer (some ⟨g,0,none⟩)::[.bool true]).toArray W (LnPost g A n c actV r6 W))
  (no22:r1.okB=true→r2.okB=true→r3.okB=true→(o4 ar r3).okB=true→(o5 cb ar r3).okB=true→NoK r6 T)
  (fin:r1.okB=true→r2.okB=true→r3.okB=true→(o4 ar r3).okB=true→(o5 cb ar r3).okB=true→r6.okB=true→(Out.ok false r6.pos).okB=true→(Out.ok false r6.pos).okB=true→T=.ok ⟨r1.val,r2.val,r6.val.1,r6.val.2,[],[]⟩ (Out.ok false r6.pos).pos) :
  Calls Tryz.prog 190 (.pointer (some ⟨g,0,none⟩)::[]).toArray w (LnPost g A n c rlV T w):=by
 have c4:=ln_stm (T:=T) [rlRow rl0] [] h h.le (no4 ) (n4 )
 have c7f:=fun(hp0:RP r1 n)=>ln_stm (T:=T) [rlRow ⟨r1.val,mt0,0,0,[],[]⟩] [] h hp0.2 (no7 hp0.1) (n7 hp0.1)
 have c11f:=fun(hp0:RP r1 n) (hp1:RP r2 n)=>ln_stm (T:=T) [rlRow ⟨r1.val,r2.val,0,0,[],[]⟩] [] h hp1.2 (no11 hp0.1 hp1.1) (n11 hp0.1 hp1.1)
 have c12f:=fun(_:RP r1 n) (_:RP r2 n) (_:RP r3 n)=>fun W=>str_eq (.tmp 11) (.const (strV kTo)) r3.val kTo ar har W
 have c13f:=fun(hp0:RP r1 n) (hp1:RP r2 n) (hp2:RP r3 n)=>ln_stm (T:=T) [rlRow ⟨r1.val,r2.val,0,0,[],[]⟩] [.bool ar,.int .i64 200] h hp2.2 (no13 hp0.1 hp1.1 hp2.1) (fun W hL=>want_N ar 200 () hL)
 have c17f:=fun(hp0:RP r1 n) (hp1:RP r2 n) (hp2:RP r3 n) (hp3:RP (o4 ar r3) n)=>n17 hp0.1 hp1.1 hp2.1 hp3.1
 have c18f:=fun(_:RP r1 n) (_:RP r2 n) (_:RP r3 n) (_:RP (o4 ar r3) n)=>hcb
 have c19f:=fun(hp0:RP r1 n) (hp1:RP r2 n) (hp2:RP r3 n) (hp3:RP (o4 ar r3) n)=>ln_stm (T:=T) [rlRow ⟨r1.val,r2.val,0,0,[],[]⟩] [.bool cb,.int .i64 190] h hp3.2 (no19 hp0.1 hp1.1 hp2.1 hp3.1) (fun W hL=>want_N cb 190 () hL)
 have c22f:=fun(hp0:RP r1 n) (hp1:RP r2 n) (hp2:RP r3 n) (hp3:RP (o4 ar r3) n) (hp4:RP (o5 cb ar r3) n)=>ln_stm (T:=T) [rlRow ⟨r1.val,r2.val,0,0,[],[]⟩] [.bool true] h hp4.2 (no22 hp0.1 hp1.1 hp2.1 hp3.1 hp4.1) (n22 hp0.1 hp1.1 hp2.1 hp3.1 hp4.1)
 have c28f:=fun(hp0:RP r1 n) (hp1:RP r2 n) (hp2:RP r3 n) (hp3:RP (o4 ar r3) n) (hp4:RP (o5 cb ar r3) n) (hp5:RP r6 n)=>ln_stm (T:=T) [rlRow ⟨r1.val,r2.val,r6.val.1,r6.val.2,[],[]⟩] [strV kMeter] h hp5.2 (fun code p hh=>by cases hh) (fun W hL=>t7 ▸ took_N kMeter hL)
 have c33f:=fun(hp0:RP r1 n) (hp1:RP r2 n) (hp2:RP r3 n) (hp3:RP (o4 ar r3) n) (hp4:RP (o5 cb ar r3) n) (hp5:RP r6 n) (hp6:RP (Out.ok false r6.pos) n)=>ln_stm (T:=T) [rlRow ⟨r1.val,r2.val,r6.val.1,r6.val.2,[],[]⟩] [strV kMirror] h hp6.2 (fun code p hh=>by cases hh) (fun W hL=>t9 ▸ took_N kMirror hL)
 have z8f:=fun(hp0:RP r1 n) (hp1:RP r2 n) (hp2:RP r3 n) (hp3:RP (o4 ar r3) n) (hp4:RP (o5 cb ar r3) n) (hp5:RP r6 n) (hp6:RP (Out.ok false r6.pos) n) (hp7:RP (Out.ok false r6.pos) n)=>(show LnR g A n c rlV T (.val (rlV ⟨r1.val,r2.val,r6.val.1,r6.val.2,[],[]⟩)) [(g,154,lnC A n c (Out.ok false r6.pos).pos)]from⟨_,_,fin hp0.1 hp1.1 hp2.1 hp3.1 hp4.1 hp5.1 hp6.1 hp7.1,hp7.2,rfl,rfl⟩)
 refine ln_walk [] h.blk [(4,.callG (lnG 0 g A n c r1 strV)),(7,.callG (lnG 0 g A n c r2 mtV)),(11,.callG (lnG 0 g A n c r3 strV)),(12,.bin (.bool ar)),(13,.callG (lnG 0 g A n c (o4 ar r3) (fun _=>.tuple #[]))),(17,.call (.int .i64 ck)),(18,.is (.bool cb)),(19,.callG (lnG 0 g A n c (o5 cb ar r3) (fun _=>.tuple #[]))),(22,.callG (lnG 0 g A n c r6 actV)),(28,.callG (lnG 0 g A n c (Out.ok false r6.pos) (fun b=>.bool b))),(33,.callG (lnG 0 g A n c (Out.ok false r6.pos) (fun b=>.bool b)))] [] (by kernel_rfl) Tryz.func190 rfl (Nat.le_of_ble_eq_true rfl) ?_
 exact Eq.mp (by kernel_rfl) (And.intro c4 (fun(hx0:r1.okB=true∧r1.pos≤n)=>(And.intro (c7f hx0) (fun(hx1:r2.okB=true∧r2.pos≤n)=>(And.intro (c11f hx0 hx1) (fun(hx2:r3.okB=true∧r3.pos≤n)=>(Sx.t2 (c12f hx0 hx1 hx2) (c13f hx0 hx1 hx2) (fun(hx3:(o4 ar r3).okB=true∧(o4 ar r3).pos≤n)=>(Sx.t2 (c17f hx0 hx1 hx2 hx3) (c18f hx0 hx1 hx2 hx3) (And.intro (c19f hx0 hx1 hx2 hx3) (fun(hx4:(o5 cb ar r3).okB=true∧(o5 cb ar r3).pos≤n)=>(And.intro (c22f hx0 hx1 hx2 hx3 hx4) (fun(hx5:r6.okB=true∧r6.pos≤n)=>(And.intro (c28f hx0 hx1 hx2 hx3 hx4 hx5) (fun(hx6:(Out.ok false r6.pos).okB=true∧(Out.ok false r6.pos).pos≤n)=>(And.intro (c33f hx0 hx1 hx2 hx3 hx4 hx5 hx6) (fun(hx7:(Out.ok false r6.pos).okB=true∧(Out.ok false r6.pos).pos≤n)=>(z8f hx0 hx1 hx2 hx3 hx4 hx5 hx6 hx7))))))))))))))))))
theorem rule_w01{w:World}{g:Nat}{A:Option Go.Addr}{n c i:Nat}{ws:List Bs}(h:Lin w g A n c i ws){T:Out Rl}{r1:Out Bs}{r2:Out Mt}{r3:Out Bs}{r6:Out (Int×Int)}{r10:Out Bs}(ar cb:Bool)(ck:Int)(har:decide (r3.val=kTo)=ar)(hcb:Value.bool (ck==0)=.bool cb)(t7:tookR ws r6.pos kMeter=(Out.ok false r6.pos))(t9:tookR ws r6.pos kMirror=(Out.ok true (r6.pos+1)))
  (n4:LnK 188 g A n c i ws strV r1)
  (no4:NoK r1 T)
  (n7:r1.okB=true→LnK 93 g A n c (r1).pos ws mtV r2)
  (no7:r1.okB=true→NoK r2 T)
  (n11:r1.okB=true→r2.okB=true→LnK 154 g A n c (r2).pos ws strV r3)
  (no11:r1.okB=true→r2.okB=true→NoK r3 T)
  (no13:r1.okB=true→r2.okB=true→r3.okB=true→NoK (o4 ar r3) T)
  (n17:r1.okB=true→r2.okB=true→r3.okB=true→(o4 ar r3).okB=true→∀W,Chg [g] w W→Calls Tryz.prog 83 #[mtV r2.val] W fun e w'=>e=.returned (.int .i64 ck)∧Chg [] W w')
  (no19:r1.okB=true→r2.okB=true→r3.okB=true→(o4 ar r3).okB=true→NoK (o5 cb ar r3) T)
  (n22:r1.okB=true→r2.okB=true→r3.okB=true→(o4 ar r3).okB=true→(o5 cb ar r3).okB=true→∀W,Lin W g A n c ((o5 cb ar r3)).pos ws→Calls Tryz.prog 192 (.pointer (some ⟨g,0,none⟩)::[.bool true]).toArray W (LnPost g A n c actV r6 W))
  (no22:r1.okB=true→r2.okB=true→r3.okB=true→(o4 ar r3).okB=true→(o5 cb ar r3).okB=true→NoK r6 T)
  (n35:r1.okB=true→r2.okB=true→r3.okB=true→(o4 ar r3).okB=true→(o5 cb ar r3).okB=true→r6.okB=true→(Out.ok false r6.pos).okB=true→(Out.ok true (r6.pos+1)).okB=true→∀W,Lin W g A n c ((Out.ok true (r6.pos+1))).pos ws→Calls Tryz.prog 188 (.pointer (some ⟨g,0,none⟩)::[]).toArray W (LnPost g A n c strV r10 W))
  (no35:r1.okB=true→r2.okB=true→r3.okB=true→(o4 ar r3).okB=true→(o5 cb ar r3).okB=true→r6.okB=true→(Out.ok false r6.pos).okB=true→(Out.ok true (r6.pos+1)).okB=true→NoK r10 T)
  (fin:r1.okB=true→r2.okB=true→r3.okB=true→(o4 ar r3).okB=true→(o5 cb ar r3).okB=true→r6.okB=true→(Out.ok false r6.pos).okB=true→(Out.ok true (r6.pos+1)).okB=true→r10.okB=true→T=.ok ⟨r1.val,r2.val,r6.val.1,r6.val.2,[],r10.val⟩ r10.pos) :
  Calls Tryz.prog 190 (.pointer (some ⟨g,0,none⟩)::[]).toArray w (LnPost g A n c rlV T w):=by
 have c4:=ln_stm (T:=T) [rlRow rl0] [] h h.le (no4 ) (n4 )
 have c7f:=fun(hp0:RP r1 n)=>ln_stm (T:=T) [rlRow ⟨r1.val,mt0,0,0,[],[]⟩] [] h hp0.2 (no7 hp0.1) (n7 hp0.1)
 have c11f:=fun(hp0:RP r1 n) (hp1:RP r2 n)=>ln_stm (T:=T) [rlRow ⟨r1.val,r2.val,0,0,[],[]⟩] [] h hp1.2 (no11 hp0.1 hp1.1) (n11 hp0.1 hp1.1)
 have c12f:=fun(_:RP r1 n) (_:RP r2 n) (_:RP r3 n)=>fun W=>str_eq (.tmp 11) (.const (strV kTo)) r3.val kTo ar har W
 have c13f:=fun(hp0:RP r1 n) (hp1:RP r2 n) (hp2:RP r3 n)=>ln_stm (T:=T) [rlRow ⟨r1.val,r2.val,0,0,[],[]⟩] [.bool ar,.int .i64 200] h hp2.2 (no13 hp0.1 hp1.1 hp2.1) (fun W hL=>want_N ar 200 () hL)
 have c17f:=fun(hp0:RP r1 n) (hp1:RP r2 n) (hp2:RP r3 n) (hp3:RP (o4 ar r3) n)=>n17 hp0.1 hp1.1 hp2.1 hp3.1
 have c18f:=fun(_:RP r1 n) (_:RP r2 n) (_:RP r3 n) (_:RP (o4 ar r3) n)=>hcb
 have c19f:=fun(hp0:RP r1 n) (hp1:RP r2 n) (hp2:RP r3 n) (hp3:RP (o4 ar r3) n)=>ln_stm (T:=T) [rlRow ⟨r1.val,r2.val,0,0,[],[]⟩] [.bool cb,.int .i64 190] h hp3.2 (no19 hp0.1 hp1.1 hp2.1 hp3.1) (fun W hL=>want_N cb 190 () hL)
 have c22f:=fun(hp0:RP r1 n) (hp1:RP r2 n) (hp2:RP r3 n) (hp3:RP (o4 ar r3) n) (hp4:RP (o5 cb ar r3) n)=>ln_stm (T:=T) [rlRow ⟨r1.val,r2.val,0,0,[],[]⟩] [.bool true] h hp4.2 (no22 hp0.1 hp1.1 hp2.1 hp3.1 hp4.1) (n22 hp0.1 hp1.1 hp2.1 hp3.1 hp4.1)
 have c28f:=fun(hp0:RP r1 n) (hp1:RP r2 n) (hp2:RP r3 n) (hp3:RP (o4 ar r3) n) (hp4:RP (o5 cb ar r3) n) (hp5:RP r6 n)=>ln_stm (T:=T) [rlRow ⟨r1.val,r2.val,r6.val.1,r6.val.2,[],[]⟩] [strV kMeter] h hp5.2 (fun code p hh=>by cases hh) (fun W hL=>t7 ▸ took_N kMeter hL)
 have c33f:=fun(hp0:RP r1 n) (hp1:RP r2 n) (hp2:RP r3 n) (hp3:RP (o4 ar r3) n) (hp4:RP (o5 cb ar r3) n) (hp5:RP r6 n) (hp6:RP (Out.ok false r6.pos) n)=>ln_stm (T:=T) [rlRow ⟨r1.val,r2.val,r6.val.1,r6.val.2,[],[]⟩] [strV kMirror] h hp6.2 (fun code p hh=>by cases hh) (fun W hL=>t9 ▸ took_N kMirror hL)
 have c35f:=fun(hp0:RP r1 n) (hp1:RP r2 n) (hp2:RP r3 n) (hp3:RP (o4 ar r3) n) (hp4:RP (o5 cb ar r3) n) (hp5:RP r6 n) (hp6:RP (Out.ok false r6.pos) n) (hp7:RP (Out.ok true (r6.pos+1)) n)=>ln_stm (T:=T) [rlRow ⟨r1.val,r2.val,r6.val.1,r6.val.2,[],[]⟩] [] h hp7.2 (no35 hp0.1 hp1.1 hp2.1 hp3.1 hp4.1 hp5.1 hp6.1 hp7.1) (n35 hp0.1 hp1.1 hp2.1 hp3.1 hp4.1 hp5.1 hp6.1 hp7.1)
 have z9f:=fun(hp0:RP r1 n) (hp1:RP r2 n) (hp2:RP r3 n) (hp3:RP (o4 ar r3) n) (hp4:RP (o5 cb ar r3) n) (hp5:RP r6 n) (hp6:RP (Out.ok false r6.pos) n) (hp7:RP (Out.ok true (r6.pos+1)) n) (hp8:RP r10 n)=>(show LnR g A n c rlV T (.val (rlV ⟨r1.val,r2.val,r6.val.1,r6.val.2,[],r10.val⟩)) [(g,154,lnC A n c r10.pos)]from⟨_,_,fin hp0.1 hp1.1 hp2.1 hp3.1 hp4.1 hp5.1 hp6.1 hp7.1 hp8.1,hp8.2,rfl,rfl⟩)
 refine ln_walk [] h.blk [(4,.callG (lnG 0 g A n c r1 strV)),(7,.callG (lnG 0 g A n c r2 mtV)),(11,.callG (lnG 0 g A n c r3 strV)),(12,.bin (.bool ar)),(13,.callG (lnG 0 g A n c (o4 ar r3) (fun _=>.tuple #[]))),(17,.call (.int .i64 ck)),(18,.is (.bool cb)),(19,.callG (lnG 0 g A n c (o5 cb ar r3) (fun _=>.tuple #[]))),(22,.callG (lnG 0 g A n c r6 actV)),(28,.callG (lnG 0 g A n c (Out.ok false r6.pos) (fun b=>.bool b))),(33,.callG (lnG 0 g A n c (Out.ok true (r6.pos+1)) (fun b=>.bool b))),(35,.callG (lnG 0 g A n c r10 strV))] [] (by kernel_rfl) Tryz.func190 rfl (Nat.le_of_ble_eq_true rfl) ?_
 exact Eq.mp (by kernel_rfl) (And.intro c4 (fun(hx0:r1.okB=true∧r1.pos≤n)=>(And.intro (c7f hx0) (fun(hx1:r2.okB=true∧r2.pos≤n)=>(And.intro (c11f hx0 hx1) (fun(hx2:r3.okB=true∧r3.pos≤n)=>(Sx.t2 (c12f hx0 hx1 hx2) (c13f hx0 hx1 hx2) (fun(hx3:(o4 ar r3).okB=true∧(o4 ar r3).pos≤n)=>(Sx.t2 (c17f hx0 hx1 hx2 hx3) (c18f hx0 hx1 hx2 hx3) (And.intro (c19f hx0 hx1 hx2 hx3) (fun(hx4:(o5 cb ar r3).okB=true∧(o5 cb ar r3).pos≤n)=>(And.intro (c22f hx0 hx1 hx2 hx3 hx4) (fun(hx5:r6.okB=true∧r6.pos≤n)=>(And.intro (c28f hx0 hx1 hx2 hx3 hx4 hx5) (fun(hx6:(Out.ok false r6.pos).okB=true∧(Out.ok false r6.pos).pos≤n)=>(And.intro (c33f hx0 hx1 hx2 hx3 hx4 hx5 hx6) (fun(hx7:(Out.ok true (r6.pos+1)).okB=true∧(Out.ok true (r6.pos+1)).pos≤n)=>(And.intro (c35f hx0 hx1 hx2 hx3 hx4 hx5 hx6 hx7) (fun(hx8:r10.okB=true∧r10.pos≤n)=>(z9f hx0 hx1 hx2 hx3 hx4 hx5 hx6 hx7 hx8))))))))))))))))))))
theorem rule_w10{w:World}{g:Nat}{A:Option Go.Addr}{n c i:Nat}{ws:List Bs}(h:Lin w g A n c i ws){T:Out Rl}{r1:Out Bs}{r2:Out Mt}{r3:Out Bs}{r6:Out (Int×Int)}{r8:Out Bs}(ar cb:Bool)(ck:Int)(har:decide (r3.val=kTo)=ar)(hcb:Value.bool (ck==0)=.bool cb)(t7:tookR ws r6.pos kMeter=(Out.ok true (r6.pos+1)))(t9:tookR ws r8.pos kMirror=(Out.ok false r8.pos))
  (n4:LnK 188 g A n c i ws strV r1)
  (no4:NoK r1 T)
  (n7:r1.okB=true→LnK 93 g A n c (r1).pos ws mtV r2)
  (no7:r1.okB=true→NoK r2 T)
  (n11:r1.okB=true→r2.okB=true→LnK 154 g A n c (r2).pos ws strV r3)
  (no11:r1.okB=true→r2.okB=true→NoK r3 T)
  (no13:r1.okB=true→r2.okB=true→r3.okB=true→NoK (o4 ar r3) T)
  (n17:r1.okB=true→r2.okB=true→r3.okB=true→(o4 ar r3).okB=true→∀W,Chg [g] w W→Calls Tryz.prog 83 #[mtV r2.val] W fun e w'=>e=.returned (.int .i64 ck)∧Chg [] W w')
  (no19:r1.okB=true→r2.okB=true→r3.okB=true→(o4 ar r3).okB=true→NoK (o5 cb ar r3) T)
  (n22:r1.okB=true→r2.okB=true→r3.okB=true→(o4 ar r3).okB=true→(o5 cb ar r3).okB=true→∀W,Lin W g A n c ((o5 cb ar r3)).pos ws→Calls Tryz.prog 192 (.pointer (some ⟨g,0,none⟩)::[.bool true]).toArray W (LnPost g A n c actV r6 W))
  (no22:r1.okB=true→r2.okB=true→r3.okB=true→(o4 ar r3).okB=true→(o5 cb ar r3).okB=true→NoK r6 T)
  (n30:r1.okB=true→r2.okB=true→r3.okB=true→(o4 ar r3).okB=true→(o5 cb ar r3).okB=true→r6.okB=true→(Out.ok true (r6.pos+1)).okB=true→∀W,Lin W g A n c ((Out.ok true (r6.pos+1))).pos ws→Calls Tryz.prog 188 (.pointer (some ⟨g,0,none⟩)::[]).toArray W (LnPost g A n c strV r8 W))
  (no30:r1.okB=true→r2.okB=true→r3.okB=true→(o4 ar r3).okB=true→(o5 cb ar r3).okB=true→r6.okB=true→(Out.ok true (r6.pos+1)).okB=true→NoK r8 T)
  (fin:r1.okB=true→r2.okB=true→r3.okB=true→(o4 ar r3).okB=true→(o5 cb ar r3).okB=true→r6.okB=true→(Out.ok true (r6.pos+1)).okB=true→r8.okB=true→(Out.ok false r8.pos).okB=true→T=.ok ⟨r1.val,r2.val,r6.val.1,r6.val.2,r8.val,[]⟩ (Out.ok false r8.pos).pos) :
  Calls Tryz.prog 190 (.pointer (some ⟨g,0,none⟩)::[]).toArray w (LnPost g A n c rlV T w):=by
 have c4:=ln_stm (T:=T) [rlRow rl0] [] h h.le (no4 ) (n4 )
 have c7f:=fun(hp0:RP r1 n)=>ln_stm (T:=T) [rlRow ⟨r1.val,mt0,0,0,[],[]⟩] [] h hp0.2 (no7 hp0.1) (n7 hp0.1)
 have c11f:=fun(hp0:RP r1 n) (hp1:RP r2 n)=>ln_stm (T:=T) [rlRow ⟨r1.val,r2.val,0,0,[],[]⟩] [] h hp1.2 (no11 hp0.1 hp1.1) (n11 hp0.1 hp1.1)
 have c12f:=fun(_:RP r1 n) (_:RP r2 n) (_:RP r3 n)=>fun W=>str_eq (.tmp 11) (.const (strV kTo)) r3.val kTo ar har W
 have c13f:=fun(hp0:RP r1 n) (hp1:RP r2 n) (hp2:RP r3 n)=>ln_stm (T:=T) [rlRow ⟨r1.val,r2.val,0,0,[],[]⟩] [.bool ar,.int .i64 200] h hp2.2 (no13 hp0.1 hp1.1 hp2.1) (fun W hL=>want_N ar 200 () hL)
 have c17f:=fun(hp0:RP r1 n) (hp1:RP r2 n) (hp2:RP r3 n) (hp3:RP (o4 ar r3) n)=>n17 hp0.1 hp1.1 hp2.1 hp3.1
 have c18f:=fun(_:RP r1 n) (_:RP r2 n) (_:RP r3 n) (_:RP (o4 ar r3) n)=>hcb
 have c19f:=fun(hp0:RP r1 n) (hp1:RP r2 n) (hp2:RP r3 n) (hp3:RP (o4 ar r3) n)=>ln_stm (T:=T) [rlRow ⟨r1.val,r2.val,0,0,[],[]⟩] [.bool cb,.int .i64 190] h hp3.2 (no19 hp0.1 hp1.1 hp2.1 hp3.1) (fun W hL=>want_N cb 190 () hL)
 have c22f:=fun(hp0:RP r1 n) (hp1:RP r2 n) (hp2:RP r3 n) (hp3:RP (o4 ar r3) n) (hp4:RP (o5 cb ar r3) n)=>ln_stm (T:=T) [rlRow ⟨r1.val,r2.val,0,0,[],[]⟩] [.bool true] h hp4.2 (no22 hp0.1 hp1.1 hp2.1 hp3.1 hp4.1) (n22 hp0.1 hp1.1 hp2.1 hp3.1 hp4.1)
 have c28f:=fun(hp0:RP r1 n) (hp1:RP r2 n) (hp2:RP r3 n) (hp3:RP (o4 ar r3) n) (hp4:RP (o5 cb ar r3) n) (hp5:RP r6 n)=>ln_stm (T:=T) [rlRow ⟨r1.val,r2.val,r6.val.1,r6.val.2,[],[]⟩] [strV kMeter] h hp5.2 (fun code p hh=>by cases hh) (fun W hL=>t7 ▸ took_N kMeter hL)
 have c30f:=fun(hp0:RP r1 n) (hp1:RP r2 n) (hp2:RP r3 n) (hp3:RP (o4 ar r3) n) (hp4:RP (o5 cb ar r3) n) (hp5:RP r6 n) (hp6:RP (Out.ok true (r6.pos+1)) n)=>ln_stm (T:=T) [rlRow ⟨r1.val,r2.val,r6.val.1,r6.val.2,[],[]⟩] [] h hp6.2 (no30 hp0.1 hp1.1 hp2.1 hp3.1 hp4.1 hp5.1 hp6.1) (n30 hp0.1 hp1.1 hp2.1 hp3.1 hp4.1 hp5.1 hp6.1)
 have c33f:=fun(hp0:RP r1 n) (hp1:RP r2 n) (hp2:RP r3 n) (hp3:RP (o4 ar r3) n) (hp4:RP (o5 cb ar r3) n) (hp5:RP r6 n) (hp6:RP (Out.ok true (r6.pos+1)) n) (hp7:RP r8 n)=>ln_stm (T:=T) [rlRow ⟨r1.val,r2.val,r6.val.1,r6.val.2,r8.val,[]⟩] [strV kMirror] h hp7.2 (fun code p hh=>by cases hh) (fun W hL=>t9 ▸ took_N kMirror hL)
 have z9f:=fun(hp0:RP r1 n) (hp1:RP r2 n) (hp2:RP r3 n) (hp3:RP (o4 ar r3) n) (hp4:RP (o5 cb ar r3) n) (hp5:RP r6 n) (hp6:RP (Out.ok true (r6.pos+1)) n) (hp7:RP r8 n) (hp8:RP (Out.ok false r8.pos) n)=>(show LnR g A n c rlV T (.val (rlV ⟨r1.val,r2.val,r6.val.1,r6.val.2,r8.val,[]⟩)) [(g,154,lnC A n c (Out.ok false r8.pos).pos)]from⟨_,_,fin hp0.1 hp1.1 hp2.1 hp3.1 hp4.1 hp5.1 hp6.1 hp7.1 hp8.1,hp8.2,rfl,rfl⟩)
 refine ln_walk [] h.blk [(4,.callG (lnG 0 g A n c r1 strV)),(7,.callG (lnG 0 g A n c r2 mtV)),(11,.callG (lnG 0 g A n c r3 strV)),(12,.bin (.bool ar)),(13,.callG (lnG 0 g A n c (o4 ar r3) (fun _=>.tuple #[]))),(17,.call (.int .i64 ck)),(18,.is (.bool cb)),(19,.callG (lnG 0 g A n c (o5 cb ar r3) (fun _=>.tuple #[]))),(22,.callG (lnG 0 g A n c r6 actV)),(28,.callG (lnG 0 g A n c (Out.ok true (r6.pos+1)) (fun b=>.bool b))),(30,.callG (lnG 0 g A n c r8 strV)),(33,.callG (lnG 0 g A n c (Out.ok false r8.pos) (fun b=>.bool b)))] [] (by kernel_rfl) Tryz.func190 rfl (Nat.le_of_ble_eq_true rfl) ?_
 exact Eq.mp (by kernel_rfl) (And.intro c4 (fun(hx0:r1.okB=true∧r1.pos≤n)=>(And.intro (c7f hx0) (fun(hx1:r2.okB=true∧r2.pos≤n)=>(And.intro (c11f hx0 hx1) (fun(hx2:r3.okB=true∧r3.pos≤n)=>(Sx.t2 (c12f hx0 hx1 hx2) (c13f hx0 hx1 hx2) (fun(hx3:(o4 ar r3).okB=true∧(o4 ar r3).pos≤n)=>(Sx.t2 (c17f hx0 hx1 hx2 hx3) (c18f hx0 hx1 hx2 hx3) (And.intro (c19f hx0 hx1 hx2 hx3) (fun(hx4:(o5 cb ar r3).okB=true∧(o5 cb ar r3).pos≤n)=>(And.intro (c22f hx0 hx1 hx2 hx3 hx4) (fun(hx5:r6.okB=true∧r6.pos≤n)=>(And.intro (c28f hx0 hx1 hx2 hx3 hx4 hx5) (fun(hx6:(Out.ok true (r6.pos+1)).okB=true∧(Out.ok true (r6.pos+1)).pos≤n)=>(And.intro (c30f hx0 hx1 hx2 hx3 hx4 hx5 hx6) (fun(hx7:r8.okB=true∧r8.pos≤n)=>(And.intro (c33f hx0 hx1 hx2 hx3 hx4 hx5 hx6 hx7) (fun(hx8:(Out.ok false r8.pos).okB=true∧(Out.ok false r8.pos).pos≤n)=>(z9f hx0 hx1 hx2 hx3 hx4 hx5 hx6 hx7 hx8))))))))))))))))))))
theorem rule_w11{w:World}{g:Nat}{A:Option Go.Addr}{n c i:Nat}{ws:List Bs}(h:Lin w g A n c i ws){T:Out Rl}{r1:Out Bs}{r2:Out Mt}{r3:Out Bs}{r6:Out (Int×Int)}{r8:Out Bs}{r10:Out Bs}(ar cb:Bool)(ck:Int)(har:decide (r3.val=kTo)=ar)(hcb:Value.bool (ck==0)=.bool cb)(t7:tookR ws r6.pos kMeter=(Out.ok true (r6.pos+1)))(t9:tookR ws r8.pos kMirror=(Out.ok true (r8.pos+1)))
  (n4:LnK 188 g A n c i ws strV r1)
  (no4:NoK r1 T)
  (n7:r1.okB=true→LnK 93 g A n c (r1).pos ws mtV r2)
  (no7:r1.okB=true→NoK r2 T)
  (n11:r1.okB=true→r2.okB=true→LnK 154 g A n c (r2).pos ws strV r3)
  (no11:r1.okB=true→r2.okB=true→NoK r3 T)
  (no13:r1.okB=true→r2.okB=true→r3.okB=true→NoK (o4 ar r3) T)
  (n17:r1.okB=true→r2.okB=true→r3.okB=true→(o4 ar r3).okB=true→∀W,Chg [g] w W→Calls Tryz.prog 83 #[mtV r2.val] W fun e w'=>e=.returned (.int .i64 ck)∧Chg [] W w')
  (no19:r1.okB=true→r2.okB=true→r3.okB=true→(o4 ar r3).okB=true→NoK (o5 cb ar r3) T)
  (n22:r1.okB=true→r2.okB=true→r3.okB=true→(o4 ar r3).okB=true→(o5 cb ar r3).okB=true→∀W,Lin W g A n c ((o5 cb ar r3)).pos ws→Calls Tryz.prog 192 (.pointer (some ⟨g,0,none⟩)::[.bool true]).toArray W (LnPost g A n c actV r6 W))
  (no22:r1.okB=true→r2.okB=true→r3.okB=true→(o4 ar r3).okB=true→(o5 cb ar r3).okB=true→NoK r6 T)
  (n30:r1.okB=true→r2.okB=true→r3.okB=true→(o4 ar r3).okB=true→(o5 cb ar r3).okB=true→r6.okB=true→(Out.ok true (r6.pos+1)).okB=true→∀W,Lin W g A n c ((Out.ok true (r6.pos+1))).pos ws→Calls Tryz.prog 188 (.pointer (some ⟨g,0,none⟩)::[]).toArray W (LnPost g A n c strV r8 W))
  (no30:r1.okB=true→r2.okB=true→r3.okB=true→(o4 ar r3).okB=true→(o5 cb ar r3).okB=true→r6.okB=true→(Out.ok true (r6.pos+1)).okB=true→NoK r8 T)
  (n35:r1.okB=true→r2.okB=true→r3.okB=true→(o4 ar r3).okB=true→(o5 cb ar r3).okB=true→r6.okB=true→(Out.ok true (r6.pos+1)).okB=true→r8.okB=true→(Out.ok true (r8.pos+1)).okB=true→∀W,Lin W g A n c ((Out.ok true (r8.pos+1))).pos ws→Calls Tryz.prog 188 (.pointer (some ⟨g,0,none⟩)::[]).toArray W (LnPost g A n c strV r10 W))
  (no35:r1.okB=true→r2.okB=true→r3.okB=true→(o4 ar r3).okB=true→(o5 cb ar r3).okB=true→r6.okB=true→(Out.ok true (r6.pos+1)).okB=true→r8.okB=true→(Out.ok true (r8.pos+1)).okB=true→NoK r10 T)
  (fin:r1.okB=true→r2.okB=true→r3.okB=true→(o4 ar r3).okB=true→(o5 cb ar r3).okB=true→r6.okB=true→(Out.ok true (r6.pos+1)).okB=true→r8.okB=true→(Out.ok true (r8.pos+1)).okB=true→r10.okB=true→T=.ok ⟨r1.val,r2.val,r6.val.1,r6.val.2,r8.val,r10.val⟩ r10.pos) :
  Calls Tryz.prog 190 (.pointer (some ⟨g,0,none⟩)::[]).toArray w (LnPost g A n c rlV T w):=by
 have c4:=ln_stm (T:=T) [rlRow rl0] [] h h.le (no4 ) (n4 )
 have c7f:=fun(hp0:RP r1 n)=>ln_stm (T:=T) [rlRow ⟨r1.val,mt0,0,0,[],[]⟩] [] h hp0.2 (no7 hp0.1) (n7 hp0.1)
 have c11f:=fun(hp0:RP r1 n) (hp1:RP r2 n)=>ln_stm (T:=T) [rlRow ⟨r1.val,r2.val,0,0,[],[]⟩] [] h hp1.2 (no11 hp0.1 hp1.1) (n11 hp0.1 hp1.1)
 have c12f:=fun(_:RP r1 n) (_:RP r2 n) (_:RP r3 n)=>fun W=>str_eq (.tmp 11) (.const (strV kTo)) r3.val kTo ar har W
 have c13f:=fun(hp0:RP r1 n) (hp1:RP r2 n) (hp2:RP r3 n)=>ln_stm (T:=T) [rlRow ⟨r1.val,r2.val,0,0,[],[]⟩] [.bool ar,.int .i64 200] h hp2.2 (no13 hp0.1 hp1.1 hp2.1) (fun W hL=>want_N ar 200 () hL)
 have c17f:=fun(hp0:RP r1 n) (hp1:RP r2 n) (hp2:RP r3 n) (hp3:RP (o4 ar r3) n)=>n17 hp0.1 hp1.1 hp2.1 hp3.1
 have c18f:=fun(_:RP r1 n) (_:RP r2 n) (_:RP r3 n) (_:RP (o4 ar r3) n)=>hcb
 have c19f:=fun(hp0:RP r1 n) (hp1:RP r2 n) (hp2:RP r3 n) (hp3:RP (o4 ar r3) n)=>ln_stm (T:=T) [rlRow ⟨r1.val,r2.val,0,0,[],[]⟩] [.bool cb,.int .i64 190] h hp3.2 (no19 hp0.1 hp1.1 hp2.1 hp3.1) (fun W hL=>want_N cb 190 () hL)
 have c22f:=fun(hp0:RP r1 n) (hp1:RP r2 n) (hp2:RP r3 n) (hp3:RP (o4 ar r3) n) (hp4:RP (o5 cb ar r3) n)=>ln_stm (T:=T) [rlRow ⟨r1.val,r2.val,0,0,[],[]⟩] [.bool true] h hp4.2 (no22 hp0.1 hp1.1 hp2.1 hp3.1 hp4.1) (n22 hp0.1 hp1.1 hp2.1 hp3.1 hp4.1)
 have c28f:=fun(hp0:RP r1 n) (hp1:RP r2 n) (hp2:RP r3 n) (hp3:RP (o4 ar r3) n) (hp4:RP (o5 cb ar r3) n) (hp5:RP r6 n)=>ln_stm (T:=T) [rlRow ⟨r1.val,r2.val,r6.val.1,r6.val.2,[],[]⟩] [strV kMeter] h hp5.2 (fun code p hh=>by cases hh) (fun W hL=>t7 ▸ took_N kMeter hL)
 have c30f:=fun(hp0:RP r1 n) (hp1:RP r2 n) (hp2:RP r3 n) (hp3:RP (o4 ar r3) n) (hp4:RP (o5 cb ar r3) n) (hp5:RP r6 n) (hp6:RP (Out.ok true (r6.pos+1)) n)=>ln_stm (T:=T) [rlRow ⟨r1.val,r2.val,r6.val.1,r6.val.2,[],[]⟩] [] h hp6.2 (no30 hp0.1 hp1.1 hp2.1 hp3.1 hp4.1 hp5.1 hp6.1) (n30 hp0.1 hp1.1 hp2.1 hp3.1 hp4.1 hp5.1 hp6.1)
 have c33f:=fun(hp0:RP r1 n) (hp1:RP r2 n) (hp2:RP r3 n) (hp3:RP (o4 ar r3) n) (hp4:RP (o5 cb ar r3) n) (hp5:RP r6 n) (hp6:RP (Out.ok true (r6.pos+1)) n) (hp7:RP r8 n)=>ln_stm (T:=T) [rlRow ⟨r1.val,r2.val,r6.val.1,r6.val.2,r8.val,[]⟩] [strV kMirror] h hp7.2 (fun code p hh=>by cases hh) (fun W hL=>t9 ▸ took_N kMirror hL)
 have c35f:=fun(hp0:RP r1 n) (hp1:RP r2 n) (hp2:RP r3 n) (hp3:RP (o4 ar r3) n) (hp4:RP (o5 cb ar r3) n) (hp5:RP r6 n) (hp6:RP (Out.ok true (r6.pos+1)) n) (hp7:RP r8 n) (hp8:RP (Out.ok true (r8.pos+1)) n)=>ln_stm (T:=T) [rlRow ⟨r1.val,r2.val,r6.val.1,r6.val.2,r8.val,[]⟩] [] h hp8.2 (no35 hp0.1 hp1.1 hp2.1 hp3.1 hp4.1 hp5.1 hp6.1 hp7.1 hp8.1) (n35 hp0.1 hp1.1 hp2.1 hp3.1 hp4.1 hp5.1 hp6.1 hp7.1 hp8.1)
 have z10f:=fun(hp0:RP r1 n) (hp1:RP r2 n) (hp2:RP r3 n) (hp3:RP (o4 ar r3) n) (hp4:RP (o5 cb ar r3) n) (hp5:RP r6 n) (hp6:RP (Out.ok true (r6.pos+1)) n) (hp7:RP r8 n) (hp8:RP (Out.ok true (r8.pos+1)) n) (hp9:RP r10 n)=>(show LnR g A n c rlV T (.val (rlV ⟨r1.val,r2.val,r6.val.1,r6.val.2,r8.val,r10.val⟩)) [(g,154,lnC A n c r10.pos)]from⟨_,_,fin hp0.1 hp1.1 hp2.1 hp3.1 hp4.1 hp5.1 hp6.1 hp7.1 hp8.1 hp9.1,hp9.2,rfl,rfl⟩)
 refine ln_walk [] h.blk [(4,.callG (lnG 0 g A n c r1 strV)),(7,.callG (lnG 0 g A n c r2 mtV)),(11,.callG (lnG 0 g A n c r3 strV)),(12,.bin (.bool ar)),(13,.callG (lnG 0 g A n c (o4 ar r3) (fun _=>.tuple #[]))),(17,.call (.int .i64 ck)),(18,.is (.bool cb)),(19,.callG (lnG 0 g A n c (o5 cb ar r3) (fun _=>.tuple #[]))),(22,.callG (lnG 0 g A n c r6 actV)),(28,.callG (lnG 0 g A n c (Out.ok true (r6.pos+1)) (fun b=>.bool b))),(30,.callG (lnG 0 g A n c r8 strV)),(33,.callG (lnG 0 g A n c (Out.ok true (r8.pos+1)) (fun b=>.bool b))),(35,.callG (lnG 0 g A n c r10 strV))] [] (by kernel_rfl) Tryz.func190 rfl (Nat.le_of_ble_eq_true rfl) ?_
 exact Eq.mp (by kernel_rfl) (And.intro c4 (fun(hx0:r1.okB=true∧r1.pos≤n)=>(And.intro (c7f hx0) (fun(hx1:r2.okB=true∧r2.pos≤n)=>(And.intro (c11f hx0 hx1) (fun(hx2:r3.okB=true∧r3.pos≤n)=>(Sx.t2 (c12f hx0 hx1 hx2) (c13f hx0 hx1 hx2) (fun(hx3:(o4 ar r3).okB=true∧(o4 ar r3).pos≤n)=>(Sx.t2 (c17f hx0 hx1 hx2 hx3) (c18f hx0 hx1 hx2 hx3) (And.intro (c19f hx0 hx1 hx2 hx3) (fun(hx4:(o5 cb ar r3).okB=true∧(o5 cb ar r3).pos≤n)=>(And.intro (c22f hx0 hx1 hx2 hx3 hx4) (fun(hx5:r6.okB=true∧r6.pos≤n)=>(And.intro (c28f hx0 hx1 hx2 hx3 hx4 hx5) (fun(hx6:(Out.ok true (r6.pos+1)).okB=true∧(Out.ok true (r6.pos+1)).pos≤n)=>(And.intro (c30f hx0 hx1 hx2 hx3 hx4 hx5 hx6) (fun(hx7:r8.okB=true∧r8.pos≤n)=>(And.intro (c33f hx0 hx1 hx2 hx3 hx4 hx5 hx6 hx7) (fun(hx8:(Out.ok true (r8.pos+1)).okB=true∧(Out.ok true (r8.pos+1)).pos≤n)=>(And.intro (c35f hx0 hx1 hx2 hx3 hx4 hx5 hx6 hx7 hx8) (fun(hx9:r10.okB=true∧r10.pos≤n)=>(z10f hx0 hx1 hx2 hx3 hx4 hx5 hx6 hx7 hx8 hx9))))))))))))))))))))))
theorem Out.bind_assoc{α β γ:Type}(r:Out α)(g:α→Nat→Out β)(f:β→Nat→Out γ):(r.bind g).bind f=r.bind fun a i=>(g a i).bind f:=by cases r<;>rfl
theorem eq_bind{α β:Type}{T:Out β}(r:Out α){f:α→Nat→Out β}(h:T=r.bind f):T=r.bind f:=h
theorem rdP_wf(s:Bs):((rdP s).getD px0).n < 2^128 ∧ -9223372036854775808≤((rdP s).getD px0).k∧((rdP s).getD px0).k≤9223372036854775807:=by
 cases h:rdP s with
 |none=>exact⟨by decide,by decide,by decide⟩
 |some p=>
  obtain⟨h1,h2,_⟩:=rdP_some h
  unfold okP at h2
  rw[Bool.and_eq_true,Bool.and_eq_true,decide_eq_true_iff,decide_eq_true_iff]at h2
  have:=wid_le p.v
  exact⟨h1,by show _≤p.k;omega,by show p.k≤_;omega⟩
theorem Out.val_of{α β:Type}{r:Out α}{f:α→Nat→Out β}{b:β}{j:Nat}(h:r.bind f=.ok b j):∃a i,r=.ok a i∧f a i=.ok b j:=by
 cases r with
 |ok a i=>exact⟨a,i,rfl,h⟩
 |no c p=>cases h
theorem want_val{α:Type}{b:Bool}{code:Nat}{a a':α}{i j:Nat}(h:wantR b code a i=.ok a' j):b=true∧a'=a:=by
 cases b with
 |true=>injection h with h _;exact⟨rfl,h.symm⟩
 |false=>cases h
theorem span_wf{ws:List Bs}{i j:Nat}{s:Nat×Nat}(h:spanR ws i=.ok s j):s.1≤65535∧s.2≤65535:=by
 obtain⟨x,k,_,hx⟩:=Out.val_of h
 obtain⟨hb,rfl⟩:=want_val hx
 rw[Bool.and_eq_true]at hb
 exact⟨numOk_le hb.1,numOk_le hb.2⟩
theorem prefix_wf{ws:List Bs}{i j:Nat}{p:Px}(h:prefixR ws i=.ok p j):p.n < 2^128 ∧ -9223372036854775808≤p.k∧p.k≤9223372036854775807:=by
 obtain⟨x,k,_,hx⟩:=Out.val_of h
 obtain⟨_,rfl⟩:=want_val hx
 exact rdP_wf x
theorem proto_wf{ws:List Bs}{i j v:Nat}(h:protoR ws i=.ok v j):v≤255:=by
 unfold protoR at h
 obtain⟨b,k,_,h⟩:=Out.val_of h
 cases b with
 |true=>injection h with h _;omega
 |false=>
  obtain⟨b,k,_,h⟩:=Out.val_of h
  cases b with
  |true=>injection h with h _;omega
  |false=>exact num_le h
def Mt.Good(m:Mt):Prop:=m.Wf∧m.asks < 64
theorem mt0_good:mt0.Good:=⟨⟨by decide,by decide,by decide,by decide,by decide,by decide,by decide,by decide,by decide⟩,by decide⟩
theorem readF_good{k:Nat}{m m':Mt}{ws:List Bs}{i j:Nat}(h:readF k m ws i=.ok m' j)(hm:m.Good):m'.Good:=by
 obtain⟨hw,ha⟩:=hm
 rcases k with _|_|_|_|_|k
 ·obtain⟨s,l,hs,h⟩:=Out.val_of h
  injection h with h _
  subst h
  exact⟨{ hw with inn:=span_wf hs },ha⟩
 ·obtain⟨s,l,hs,h⟩:=Out.val_of h
  injection h with h _
  subst h
  exact⟨{ hw with sn:=(prefix_wf hs).1,sk:=(prefix_wf hs).2 },ha⟩
 ·obtain⟨s,l,hs,h⟩:=Out.val_of h
  injection h with h _
  subst h
  exact⟨{ hw with dn:=(prefix_wf hs).1,dk:=(prefix_wf hs).2 },ha⟩
 ·obtain⟨s,l,hs,h⟩:=Out.val_of h
  injection h with h _
  subst h
  exact⟨{ hw with pr:=proto_wf hs },ha⟩
 ·obtain⟨s,l,hs,h⟩:=Out.val_of h
  injection h with h _
  subst h
  exact⟨{ hw with sp:=span_wf hs },ha⟩
 ·obtain⟨s,l,hs,h⟩:=Out.val_of h
  injection h with h _
  subst h
  exact⟨{ hw with dp:=span_wf hs },ha⟩
theorem field_good{ws:List Bs}{i:Nat}{m m':Mt}{b:Bool}{j:Nat}(h:fieldR ws i m=.ok (b,m') j)(hm:m.Good):m'.Good:=by
 unfold fieldR at h
 split at h
 ·injection h with h _;injection h with _ h;rw[←h];exact hm
 ·split at h
  ·injection h with h _;injection h with _ h;rw[←h];exact hm
  ·rename_i k hk
   split at h
   ·cases h
   ·obtain⟨a,l,hr,h⟩:=Out.val_of h
    injection h with h _
    injection h with _ h
    subst h
    have h64:=or_lt64 ⟨m.asks,hm.2⟩ ⟨k,fld_lt hk⟩
    exact readF_good hr ⟨{ hm.1 with asks:=by show m.asks|||2^k < 256;exact Nat.lt_trans h64 (by decide) },h64⟩
theorem matchL_good{ws:List Bs}:∀{f i:Nat} {m m':Mt} {j:Nat},matchL ws f i m=.ok m' j→m.Good→m'.Good
 | 0,_,_,_,_,h,hm=>by injection h with h _;rw[←h];exact hm
 |f+1,_,_,_,_,h,hm=>by
  obtain⟨⟨b,a⟩,l,hr,h⟩:=Out.val_of h
  have hg:=field_good hr hm
  cases b with
  |true=>exact matchL_good h hg
  |false=>injection h with h _;rw[←h];exact hm
theorem match_good{ws:List Bs}{i:Nat}{m:Mt}{j:Nat}(h:matchR ws i=.ok m j):m.Good:=by
 obtain⟨b,l,_,h⟩:=Out.val_of h
 cases b with
 |true=>injection h with h _;rw[←h];exact mt0_good
 |false=>
  obtain⟨⟨b,a⟩,l,hr,h⟩:=Out.val_of h
  have hg:=field_good hr mt0_good
  cases b with
  |true=>exact matchL_good h hg
  |false=>
   obtain⟨_,_,_,h⟩:=Out.val_of h
   cases h
theorem lrule_N{w:World}{g:Nat}{A:Option Go.Addr}{n c i:Nat}{ws:List Bs}(h:Lin w g A n c i ws):Calls Tryz.prog 190 #[.pointer (some ⟨g,0,none⟩)] w (LnPost g A n c rlV (ruleR ws i) w):=by
 have E1:=eq_bind (T:=ruleR ws i) (nameR ws i) rfl
 have n4:=fun W (hL:Lin W g A n c i ws)=>lname_N hL
 generalize hr1:nameR ws i=r1 at E1 n4
 have E2:=fun(h1:r1.okB=true)=>eq_bind (matchR ws r1.pos) (ok_of E1 h1)
 have n7:=fun(_:r1.okB=true) W (hL:Lin W g A n c r1.pos ws)=>lmatch_N hL
 have hg:(matchR ws r1.pos).okB=true→(matchR ws r1.pos).val.Good:=fun hh=>match_good (Out.of_ok hh)
 generalize hr2:matchR ws r1.pos=r2 at E2 n7 hg
 have E3:=fun(h1:r1.okB=true) (h2:r2.okB=true)=>eq_bind (nextR ws r2.pos) ((ok_of (E2 h1) h2).trans (Out.bind_assoc (nextR ws r2.pos) _ _))
 have n11:=fun(_:r1.okB=true) (_:r2.okB=true) W (hL:Lin W g A n c r2.pos ws)=>next_N hL
 generalize hr3:nextR ws r2.pos=r3 at E3 n11
 have n17:=fun(_:r1.okB=true) (h2:r2.okB=true) (_:r3.okB=true) (_:(wantR (decide (r3.val=kTo)) 200 () r3.pos).okB=true) W (_:Chg [g] w W)=>mcheck_N r2.val (hg h2).1 W
 have hck:Value.bool ((if checkM r2.val=true then(0:Int)else 190)==0)=.bool (checkM r2.val):=by cases checkM r2.val<;>rfl
 generalize har:decide (r3.val=kTo)=ar at E3 n17
 have E4:=fun(h1:r1.okB=true) (h2:r2.okB=true) (h3:r3.okB=true)=>eq_bind (o4 ar r3) ((ok_of (E3 h1 h2) h3).trans (by rw[har];exact Out.bind_assoc (o4 ar r3) _ _))
 have E5:=fun(h1:r1.okB=true) (h2:r2.okB=true) (h3:r3.okB=true) (h4:(o4 ar r3).okB=true)=>eq_bind (wantR (checkM r2.val) 190 () (o4 ar r3).pos) (ok_of (E4 h1 h2 h3) h4)
 generalize (if checkM r2.val=true then(0:Int)else 190)=ck at n17 hck
 generalize hcb:checkM r2.val=cb at hck E5
 have E6:=fun(h1:r1.okB=true) (h2:r2.okB=true) (h3:r3.okB=true) (h4:(o4 ar r3).okB=true) (h5:(o5 cb ar r3).okB=true)=>eq_bind (actR true ws (o5 cb ar r3).pos) (ok_of (E5 h1 h2 h3 h4) h5)
 have n22:=fun(_:r1.okB=true) (_:r2.okB=true) (_:r3.okB=true) (_:(o4 ar r3).okB=true) (_:(o5 cb ar r3).okB=true) W (hL:Lin W g A n c (o5 cb ar r3).pos ws)=>laction_N true hL
 generalize actR true ws (o5 cb ar r3).pos=r6 at E6 n22
 have E7:=fun h1 h2 h3 h4 h5 (h6:r6.okB=true)=>eq_bind (optR kMeter ws r6.pos) (ok_of (E6 h1 h2 h3 h4 h5) h6)
 rcases took_cases (ws:=ws) (i:=r6.pos) (s:=kMeter)with⟨t7,_⟩ | t7
 ·have o7:optR kMeter ws r6.pos=nameR ws (r6.pos+1):=by unfold optR;rw[t7];rfl
  rw[o7]at E7
  have n30:=fun W (hL:Lin W g A n c (r6.pos+1) ws)=>lname_N hL
  generalize nameR ws (r6.pos+1)=r8 at E7 n30
  have E9:=fun h1 h2 h3 h4 h5 h6 (h8:r8.okB=true)=>eq_bind (optR kMirror ws r8.pos) (ok_of (E7 h1 h2 h3 h4 h5 h6) h8)
  rcases took_cases (ws:=ws) (i:=r8.pos) (s:=kMirror)with⟨t9,_⟩ | t9
  ·have o9:optR kMirror ws r8.pos=nameR ws (r8.pos+1):=by unfold optR;rw[t9];rfl
   rw[o9]at E9
   have n35:=fun W (hL:Lin W g A n c (r8.pos+1) ws)=>lname_N hL
   generalize nameR ws (r8.pos+1)=r10 at E9 n35
   exact rule_w11 h ar cb ck har hck t7 t9 n4 (no_of E1) n7 (fun h1=>no_of (E2 h1)) n11 (fun h1 h2=>no_of (E3 h1 h2)) (fun h1 h2 h3=>no_of (E4 h1 h2 h3)) n17 (fun h1 h2 h3 h4=>no_of (E5 h1 h2 h3 h4)) n22 (fun h1 h2 h3 h4 h5=>no_of (E6 h1 h2 h3 h4 h5)) (fun _ _ _ _ _ _ _=>n30) (fun h1 h2 h3 h4 h5 h6 _=>no_of (E7 h1 h2 h3 h4 h5 h6)) (fun _ _ _ _ _ _ _ _ _=>n35) (fun h1 h2 h3 h4 h5 h6 _ h8 _=>no_of (E9 h1 h2 h3 h4 h5 h6 h8)) (fun h1 h2 h3 h4 h5 h6 _ h8 _ h10=>ok_of (E9 h1 h2 h3 h4 h5 h6 h8) h10)
  ·have o9:optR kMirror ws r8.pos=.ok [] r8.pos:=by unfold optR;rw[t9];rfl
   rw[o9]at E9
   exact rule_w10 h ar cb ck har hck t7 t9 n4 (no_of E1) n7 (fun h1=>no_of (E2 h1)) n11 (fun h1 h2=>no_of (E3 h1 h2)) (fun h1 h2 h3=>no_of (E4 h1 h2 h3)) n17 (fun h1 h2 h3 h4=>no_of (E5 h1 h2 h3 h4)) n22 (fun h1 h2 h3 h4 h5=>no_of (E6 h1 h2 h3 h4 h5)) (fun _ _ _ _ _ _ _=>n30) (fun h1 h2 h3 h4 h5 h6 _=>no_of (E7 h1 h2 h3 h4 h5 h6)) (fun h1 h2 h3 h4 h5 h6 _ h8 _=>E9 h1 h2 h3 h4 h5 h6 h8)
 ·have o7:optR kMeter ws r6.pos=.ok [] r6.pos:=by unfold optR;rw[t7];rfl
  rw[o7]at E7
  have E9:=fun h1 h2 h3 h4 h5 h6=>eq_bind (optR kMirror ws r6.pos) (E7 h1 h2 h3 h4 h5 h6)
  rcases took_cases (ws:=ws) (i:=r6.pos) (s:=kMirror)with⟨t9,_⟩ | t9
  ·have o9:optR kMirror ws r6.pos=nameR ws (r6.pos+1):=by unfold optR;rw[t9];rfl
   rw[o9]at E9
   have n35:=fun W (hL:Lin W g A n c (r6.pos+1) ws)=>lname_N hL
   generalize nameR ws (r6.pos+1)=r10 at E9 n35
   exact rule_w01 h ar cb ck har hck t7 t9 n4 (no_of E1) n7 (fun h1=>no_of (E2 h1)) n11 (fun h1 h2=>no_of (E3 h1 h2)) (fun h1 h2 h3=>no_of (E4 h1 h2 h3)) n17 (fun h1 h2 h3 h4=>no_of (E5 h1 h2 h3 h4)) n22 (fun h1 h2 h3 h4 h5=>no_of (E6 h1 h2 h3 h4 h5)) (fun _ _ _ _ _ _ _ _=>n35) (fun h1 h2 h3 h4 h5 h6 _ _=>no_of (E9 h1 h2 h3 h4 h5 h6)) (fun h1 h2 h3 h4 h5 h6 _ _ h10=>ok_of (E9 h1 h2 h3 h4 h5 h6) h10)
  ·have o9:optR kMirror ws r6.pos=.ok [] r6.pos:=by unfold optR;rw[t9];rfl
   rw[o9]at E9
   exact rule_w00 h ar cb ck har hck t7 t9 n4 (no_of E1) n7 (fun h1=>no_of (E2 h1)) n11 (fun h1 h2=>no_of (E3 h1 h2)) (fun h1 h2 h3=>no_of (E4 h1 h2 h3)) n17 (fun h1 h2 h3 h4=>no_of (E5 h1 h2 h3 h4)) n22 (fun h1 h2 h3 h4 h5=>no_of (E6 h1 h2 h3 h4 h5)) (fun h1 h2 h3 h4 h5 h6 _ _=>E9 h1 h2 h3 h4 h5 h6)
end Go.Proofs.YtnncigmpcdehnaaGreatDoor
