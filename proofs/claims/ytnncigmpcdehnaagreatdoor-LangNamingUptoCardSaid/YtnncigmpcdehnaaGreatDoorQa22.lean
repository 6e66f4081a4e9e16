import Derived.Test.YtnncigmpcdehnaaGreatDoorQa21
namespace Go.Proofs.YtnncigmpcdehnaaGreatDoor
open Go.RowKit Go.Lib Go.Sort
theorem has_all:∀(a:Fin 256) (n0 n1 n2 n3 n4 n5:Bool),(bits .andNot .u8 (hv6 n0 n1 n2 n3 n4 n5) (a.val:Int) !=0)=
  ((n0&&!a.val.testBit 0)||((n1&&!a.val.testBit 1)||((n2&&!a.val.testBit 2)||((n3&&!a.val.testBit 3)||((n4&&!a.val.testBit 4)||(n5&&!a.val.testBit 5)))))):=by decide+kernel
theorem group1(l b0 b1 b2 b3 b4 b5 z0 z1 z2 z3 z4 z5:Bool):(l&&((b0||z0)&&((b1||z1)&&((b2||z2)&&((b3||z3)&&((b4||z4)&&(b5||z5)))))))=
  !(!l||((!z0&&!b0)||((!z1&&!b1)||((!z2&&!b2)||((!z3&&!b3)||((!z4&&!b4)||(!z5&&!b5))))))):=by
 simp[Bool.not_or,Bool.or_comm]
theorem le_not(a b:Nat):decide (a≤b)=!decide ((b:Int) < (a:Int)):=by
 by_cases h:a≤b
 ·rw[decide_eq_true h,decide_eq_false (by omega)];rfl
 ·rw[decide_eq_false h,decide_eq_true (by omega)];rfl
theorem ckT_all:∀(o1 hs g1 g2 g3 g4 s x1 d x2 ne pt q6 q17:Bool),ckT o1 hs g1 g2 g3 g4 s x1 d x2 ne pt q6 q17=
  if(!(o1||hs)&&((!g1&&(!g2&&(!g3&&!g4)))&&(((!s||!x1)&&((!d||!x2)&&(!(s&&d)||!ne)))&&(!pt||(!q6||!q17)))))=true then 0 else 190:=by decide+kernel
theorem mcheck_N(m:Mt)(hw:m.Wf)(w:World):Calls Tryz.prog 83 #[mtV m] w fun e w'=>e=.returned (.int .i64 (if checkM m=true then 0 else 190))∧Chg [] w w':=by
 have ha:=hw.asks
 have key:=check_w m w (!spanB m.inn) (!pxB m.src) (!pxB m.dst) ((m.proto:Int) !=0) (!spanB m.sp) (!spanB m.dp) (bits .andNot .u8 (m.asks:Int) 63 !=0)
  (bits .andNot .u8 (hv6 (!spanB m.inn) (!pxB m.src) (!pxB m.dst) ((m.proto:Int) !=0) (!spanB m.sp) (!spanB m.dp)) (m.asks:Int) !=0)
  (decide ((m.inn.2:Int) < (m.inn.1:Int))) (decide (255 < (m.inn.2:Int))) (decide ((m.sp.2:Int) < (m.sp.1:Int))) (decide ((m.dp.2:Int) < (m.dp.1:Int)))
  (m.asks.testBit 1) (errP m.src.v m.src.n m.src.k !=0) (m.asks.testBit 2) (errP m.dst.v m.dst.n m.dst.k !=0) (m.src.v !=m.dst.v) (m.asks.testBit 4||m.asks.testBit 5) ((m.proto:Int) !=6) ((m.proto:Int) !=17)
  _ (errP m.src.v m.src.n m.src.k) (errP m.dst.v m.dst.n m.dst.k)
  (sp_neq _ _ m.inn hw.inn) (px_neq _ _ m.src hw.sn hw.sk) (px_neq _ _ m.dst hw.dn hw.dk) rfl (sp_neq _ _ m.sp hw.sp) (sp_neq _ _ m.dp hw.dp) rfl
  (fun W _=>asks_N m 48 _ (ask45_all ⟨m.asks,ha⟩) W) rfl rfl rfl rfl rfl rfl
  (fun W _=>asks_N m 2 _ (ask1_all ⟨m.asks,ha⟩) W) (fun W _=>asks_N m 4 _ (ask2_all ⟨m.asks,ha⟩) W)
  (fun W _=>check_N _ _ _ hw.sn W) (fun W _=>check_N _ _ _ hw.dn W) rfl rfl rfl rfl rfl
 rw[ckT_all]at key
 have ho:=over_all ⟨m.asks,ha⟩
 have hh:=has_all ⟨m.asks,ha⟩ (!spanB m.inn) (!pxB m.src) (!pxB m.dst) ((m.proto:Int) !=0) (!spanB m.sp) (!spanB m.dp)
 have hx:∀p:Px,(errP p.v p.n p.k !=0)=!okP p.v p.n p.k:=fun p=>by unfold errP;cases okP p.v p.n p.k<;>rfl
 have hp0:((m.proto:Int) !=0)=!decide (m.proto=0):=by by_cases h:m.proto=0<;>simp[h]
 have hp6:((m.proto:Int) !=6)=!decide (m.proto=6):=by
  by_cases h:m.proto=6
  ·rw[h];rfl
  ·rw[decide_eq_false h];simp;omega
 have hp17:((m.proto:Int) !=17)=!decide (m.proto=17):=by
  by_cases h:m.proto=17
  ·rw[h];rfl
  ·rw[decide_eq_false h];simp;omega
 have hne:(m.src.v !=m.dst.v)=!decide (m.src.v=m.dst.v):=by cases m.src.v<;>cases m.dst.v<;>rfl
 have e:checkM m=(!((bits .andNot .u8 (m.asks:Int) 63 !=0)||(bits .andNot .u8 (hv6 (!spanB m.inn) (!pxB m.src) (!pxB m.dst) ((m.proto:Int) !=0) (!spanB m.sp) (!spanB m.dp)) (m.asks:Int) !=0))&&
   ((!decide ((m.inn.2:Int) < (m.inn.1:Int))&&(!decide (255 < (m.inn.2:Int))&&(!decide ((m.sp.2:Int) < (m.sp.1:Int))&&!decide ((m.dp.2:Int) < (m.dp.1:Int)))))&&
   (((!m.asks.testBit 1||!(errP m.src.v m.src.n m.src.k !=0))&&((!m.asks.testBit 2||!(errP m.dst.v m.dst.n m.dst.k !=0))&&(!(m.asks.testBit 1&&m.asks.testBit 2)||!(m.src.v !=m.dst.v))))&&
   (!(m.asks.testBit 4||m.asks.testBit 5)||(!((m.proto:Int) !=6)||!((m.proto:Int) !=17)))))):=by
  rw[show(bits .andNot .u8 (m.asks:Int) 63 !=0)=decide (¬m.asks < 64)from ho]
  rw[show(bits .andNot .u8 (hv6 (!spanB m.inn) (!pxB m.src) (!pxB m.dst) ((m.proto:Int) !=0) (!spanB m.sp) (!spanB m.dp)) (m.asks:Int) !=0)=_ from hh]
  rw[hx,hx,hp6,hp17,hp0,hne]
  simp only[Bool.not_not]
  have h255:decide (m.inn.2≤255)=!decide (255 < (m.inn.2:Int)):=le_not m.inn.2 255
  unfold checkM
  rw[group1,le_not,h255,le_not,le_not]
  have:decide (¬m.asks < 64)=!decide (m.asks < 64):=decide_not
  rw[this]
 rw[←e]at key
 exact key
end Go.Proofs.YtnncigmpcdehnaaGreatDoor
