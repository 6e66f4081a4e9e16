import Derived.Test.YtnncigmpcdehnaaGreatDoorQb20
namespace Go.Proofs.YtnncigmpcdehnaaGreatDoor
open Go.RowKit Go.Lib Go.Sort
theorem JF:∀(a:Fin 256) (n0 n1 n2 n3 n4 n5:Bool),(bits .andNot .u8 (Gy n0 n1 n2 n3 n4 n5) (a.val:Int) !=0)=
  ((n0&&!a.val.testBit 0)||((n1&&!a.val.testBit 1)||((n2&&!a.val.testBit 2)||((n3&&!a.val.testBit 3)||((n4&&!a.val.testBit 4)||(n5&&!a.val.testBit 5)))))):=by decide+kernel
theorem LX(l b0 b1 b2 b3 b4 b5 z0 z1 z2 z3 z4 z5:Bool):(l&&((b0||z0)&&((b1||z1)&&((b2||z2)&&((b3||z3)&&((b4||z4)&&(b5||z5)))))))=
  !(!l||((!z0&&!b0)||((!z1&&!b1)||((!z2&&!b2)||((!z3&&!b3)||((!z4&&!b4)||(!z5&&!b5))))))):=by
 simp[Bool.not_or,Bool.or_comm]
theorem wh(a b:Nat):decide (a≤b)=!decide ((b:Int) < (a:Int)):=by
 by_cases h:a≤b
 ·rw[decide_eq_true h,decide_eq_false (by omega)];rfl
 ·rw[decide_eq_false h,decide_eq_true (by omega)];rfl
theorem J3:∀(o1 hs g1 g2 g3 g4 s x1 d x2 ne pt q6 q17:Bool),fX o1 hs g1 g2 g3 g4 s x1 d x2 ne pt q6 q17=
  if(!(o1||hs)&&((!g1&&(!g2&&(!g3&&!g4)))&&(((!s||!x1)&&((!d||!x2)&&(!(s&&d)||!ne)))&&(!pt||(!q6||!q17)))))=true then 0 else 190:=by decide+kernel
theorem oV(m:Mt)(hw:m.Wf)(w:World):Calls Tryz.prog 83 #[kA m] w fun e w'=>e=.returned (.int .i64 (if bL m=true then 0 else 190))∧aw [] w w':=by
 have ha:=hw.asks
 have key:=J4 m w (!gi m.gf) (!zA m.src) (!zA m.dst) ((m.bV:Int) !=0) (!gi m.sp) (!gi m.dp) (bits .andNot .u8 (m.asks:Int) 63 !=0)
  (bits .andNot .u8 (Gy (!gi m.gf) (!zA m.src) (!zA m.dst) ((m.bV:Int) !=0) (!gi m.sp) (!gi m.dp)) (m.asks:Int) !=0)
  (decide ((m.gf.2:Int) < (m.gf.1:Int))) (decide (255 < (m.gf.2:Int))) (decide ((m.sp.2:Int) < (m.sp.1:Int))) (decide ((m.dp.2:Int) < (m.dp.1:Int)))
  (m.asks.testBit 1) (fW m.src.v m.src.n m.src.k !=0) (m.asks.testBit 2) (fW m.dst.v m.dst.n m.dst.k !=0) (m.src.v !=m.dst.v) (m.asks.testBit 4||m.asks.testBit 5) ((m.bV:Int) !=6) ((m.bV:Int) !=17)
  _ (fW m.src.v m.src.n m.src.k) (fW m.dst.v m.dst.n m.dst.k)
  (zN _ _ m.gf hw.gf) (Fw _ _ m.src hw.sn hw.sk) (Fw _ _ m.dst hw.dn hw.dk) rfl (zN _ _ m.sp hw.sp) (zN _ _ m.dp hw.dp) rfl
  (fun W _=>A4 m 48 _ (Ed ⟨m.asks,ha⟩) W) rfl rfl rfl rfl rfl rfl
  (fun W _=>A4 m 2 _ (Hr ⟨m.asks,ha⟩) W) (fun W _=>A4 m 4 _ (Hq ⟨m.asks,ha⟩) W)
  (fun W _=>rn _ _ _ hw.sn W) (fun W _=>rn _ _ _ hw.dn W) rfl rfl rfl rfl rfl
 rw[J3]at key
 have ho:=FH ⟨m.asks,ha⟩
 have hh:=JF ⟨m.asks,ha⟩ (!gi m.gf) (!zA m.src) (!zA m.dst) ((m.bV:Int) !=0) (!gi m.sp) (!gi m.dp)
 have hx:∀p:Px,(fW p.v p.n p.k !=0)=!gg p.v p.n p.k:=fun p=>by unfold fW;cases gg p.v p.n p.k<;>rfl
 have hp0:((m.bV:Int) !=0)=!decide (m.bV=0):=by by_cases h:m.bV=0<;>simp[h]
 have hp6:((m.bV:Int) !=6)=!decide (m.bV=6):=by
  by_cases h:m.bV=6
  ·rw[h];rfl
  ·rw[decide_eq_false h];simp;omega
 have hp17:((m.bV:Int) !=17)=!decide (m.bV=17):=by
  by_cases h:m.bV=17
  ·rw[h];rfl
  ·rw[decide_eq_false h];simp;omega
 have hne:(m.src.v !=m.dst.v)=!decide (m.src.v=m.dst.v):=by cases m.src.v<;>cases m.dst.v<;>rfl
 have e:bL m=(!((bits .andNot .u8 (m.asks:Int) 63 !=0)||(bits .andNot .u8 (Gy (!gi m.gf) (!zA m.src) (!zA m.dst) ((m.bV:Int) !=0) (!gi m.sp) (!gi m.dp)) (m.asks:Int) !=0))&&
   ((!decide ((m.gf.2:Int) < (m.gf.1:Int))&&(!decide (255 < (m.gf.2:Int))&&(!decide ((m.sp.2:Int) < (m.sp.1:Int))&&!decide ((m.dp.2:Int) < (m.dp.1:Int)))))&&
   (((!m.asks.testBit 1||!(fW m.src.v m.src.n m.src.k !=0))&&((!m.asks.testBit 2||!(fW m.dst.v m.dst.n m.dst.k !=0))&&(!(m.asks.testBit 1&&m.asks.testBit 2)||!(m.src.v !=m.dst.v))))&&
   (!(m.asks.testBit 4||m.asks.testBit 5)||(!((m.bV:Int) !=6)||!((m.bV:Int) !=17)))))):=by
  rw[show(bits .andNot .u8 (m.asks:Int) 63 !=0)=decide (¬m.asks < 64)from ho]
  rw[show(bits .andNot .u8 (Gy (!gi m.gf) (!zA m.src) (!zA m.dst) ((m.bV:Int) !=0) (!gi m.sp) (!gi m.dp)) (m.asks:Int) !=0)=_ from hh]
  rw[hx,hx,hp6,hp17,hp0,hne]
  simp only[Bool.not_not]
  have h255:decide (m.gf.2≤255)=!decide (255 < (m.gf.2:Int)):=wh m.gf.2 255
  unfold bL
  rw[LX,wh,h255,wh,wh]
  have:decide (¬m.asks < 64)=!decide (m.asks < 64):=decide_not
  rw[this]
 rw[←e]at key
 exact key
end Go.Proofs.YtnncigmpcdehnaaGreatDoor
