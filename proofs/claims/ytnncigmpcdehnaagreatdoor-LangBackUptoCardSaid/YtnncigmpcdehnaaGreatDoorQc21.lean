import Derived.Test.YtnncigmpcdehnaaGreatDoorQc20
namespace Go.Proofs.YtnncigmpcdehnaaGreatDoor
open Go.RowKit Go.Lib Go.Sort
theorem Ko:∀(a:Fin 256) (n0 n1 n2 n3 n4 n5:Bool),(bits .andNot .u8 (GW n0 n1 n2 n3 n4 n5) (a.val:Int) !=0)=
  ((n0&&!a.val.testBit 0)||((n1&&!a.val.testBit 1)||((n2&&!a.val.testBit 2)||((n3&&!a.val.testBit 3)||((n4&&!a.val.testBit 4)||(n5&&!a.val.testBit 5)))))):=by decide+kernel
theorem MK(l b0 b1 b2 b3 b4 b5 z0 z1 z2 z3 z4 z5:Bool):(l&&((b0||z0)&&((b1||z1)&&((b2||z2)&&((b3||z3)&&((b4||z4)&&(b5||z5)))))))=
  !(!l||((!z0&&!b0)||((!z1&&!b1)||((!z2&&!b2)||((!z3&&!b3)||((!z4&&!b4)||(!z5&&!b5))))))):=by
 simp[Bool.not_or,Bool.or_comm]
theorem vW(a b:Nat):decide (a≤b)=!decide ((b:Int) < (a:Int)):=by
 by_cases h:a≤b
 ·rw[decide_eq_true h,decide_eq_false (by omega)];rfl
 ·rw[decide_eq_false h,decide_eq_true (by omega)];rfl
theorem KN:∀(o1 hs g1 g2 g3 g4 s x1 d x2 ne pt q6 q17:Bool),fQ o1 hs g1 g2 g3 g4 s x1 d x2 ne pt q6 q17=
  if(!(o1||hs)&&((!g1&&(!g2&&(!g3&&!g4)))&&(((!s||!x1)&&((!d||!x2)&&(!(s&&d)||!ne)))&&(!pt||(!q6||!q17)))))=true then 0 else 190:=by decide+kernel
theorem j9(m:Mt)(hw:m.Wf)(w:World):Calls Tryz.prog 83 #[gv m] w fun e w'=>e=.returned (.int .i64 (if bj m=true then 0 else 190))∧ah [] w w':=by
 have ha:=hw.asks
 have key:=KO m w (!fZ m.fU) (!zL m.src) (!zL m.dst) ((m.bS:Int) !=0) (!fZ m.sp) (!fZ m.dp) (bits .andNot .u8 (m.asks:Int) 63 !=0)
  (bits .andNot .u8 (GW (!fZ m.fU) (!zL m.src) (!zL m.dst) ((m.bS:Int) !=0) (!fZ m.sp) (!fZ m.dp)) (m.asks:Int) !=0)
  (decide ((m.fU.2:Int) < (m.fU.1:Int))) (decide (255 < (m.fU.2:Int))) (decide ((m.sp.2:Int) < (m.sp.1:Int))) (decide ((m.dp.2:Int) < (m.dp.1:Int)))
  (m.asks.testBit 1) (fP m.src.v m.src.n m.src.k !=0) (m.asks.testBit 2) (fP m.dst.v m.dst.n m.dst.k !=0) (m.src.v !=m.dst.v) (m.asks.testBit 4||m.asks.testBit 5) ((m.bS:Int) !=6) ((m.bS:Int) !=17)
  _ (fP m.src.v m.src.n m.src.k) (fP m.dst.v m.dst.n m.dst.k)
  (zY _ _ m.fU hw.fU) (FV _ _ m.src hw.sn hw.sk) (FV _ _ m.dst hw.dn hw.dk) rfl (zY _ _ m.sp hw.sp) (zY _ _ m.dp hw.dp) rfl
  (fun W _=>Bn m 48 _ (EE ⟨m.asks,ha⟩) W) rfl rfl rfl rfl rfl rfl
  (fun W _=>Bn m 2 _ (Io ⟨m.asks,ha⟩) W) (fun W _=>Bn m 4 _ (Im ⟨m.asks,ha⟩) W)
  (fun W _=>q5 _ _ _ hw.sn W) (fun W _=>q5 _ _ _ hw.dn W) rfl rfl rfl rfl rfl
 rw[KN]at key
 have ho:=F6 ⟨m.asks,ha⟩
 have hh:=Ko ⟨m.asks,ha⟩ (!fZ m.fU) (!zL m.src) (!zL m.dst) ((m.bS:Int) !=0) (!fZ m.sp) (!fZ m.dp)
 have hx:∀p:Px,(fP p.v p.n p.k !=0)=!gr p.v p.n p.k:=fun p=>by unfold fP;cases gr p.v p.n p.k<;>rfl
 have hp0:((m.bS:Int) !=0)=!decide (m.bS=0):=by by_cases h:m.bS=0<;>simp[h]
 have hp6:((m.bS:Int) !=6)=!decide (m.bS=6):=by
  by_cases h:m.bS=6
  ·rw[h];rfl
  ·rw[decide_eq_false h];simp;omega
 have hp17:((m.bS:Int) !=17)=!decide (m.bS=17):=by
  by_cases h:m.bS=17
  ·rw[h];rfl
  ·rw[decide_eq_false h];simp;omega
 have hne:(m.src.v !=m.dst.v)=!decide (m.src.v=m.dst.v):=by cases m.src.v<;>cases m.dst.v<;>rfl
 have e:bj m=(!((bits .andNot .u8 (m.asks:Int) 63 !=0)||(bits .andNot .u8 (GW (!fZ m.fU) (!zL m.src) (!zL m.dst) ((m.bS:Int) !=0) (!fZ m.sp) (!fZ m.dp)) (m.asks:Int) !=0))&&
   ((!decide ((m.fU.2:Int) < (m.fU.1:Int))&&(!decide (255 < (m.fU.2:Int))&&(!decide ((m.sp.2:Int) < (m.sp.1:Int))&&!decide ((m.dp.2:Int) < (m.dp.1:Int)))))&&
   (((!m.asks.testBit 1||!(fP m.src.v m.src.n m.src.k !=0))&&((!m.asks.testBit 2||!(fP m.dst.v m.dst.n m.dst.k !=0))&&(!(m.asks.testBit 1&&m.asks.testBit 2)||!(m.src.v !=m.dst.v))))&&
   (!(m.asks.testBit 4||m.asks.testBit 5)||(!((m.bS:Int) !=6)||!((m.bS:Int) !=17)))))):=by
  rw[show(bits .andNot .u8 (m.asks:Int) 63 !=0)=decide (¬m.asks < 64)from ho]
  rw[show(bits .andNot .u8 (GW (!fZ m.fU) (!zL m.src) (!zL m.dst) ((m.bS:Int) !=0) (!fZ m.sp) (!fZ m.dp)) (m.asks:Int) !=0)=_ from hh]
  rw[hx,hx,hp6,hp17,hp0,hne]
  simp only[Bool.not_not]
  have h255:decide (m.fU.2≤255)=!decide (255 < (m.fU.2:Int)):=vW m.fU.2 255
  unfold bj
  rw[MK,vW,h255,vW,vW]
  have:decide (¬m.asks < 64)=!decide (m.asks < 64):=decide_not
  rw[this]
 rw[←e]at key
 exact key
end Go.Proofs.YtnncigmpcdehnaaGreatDoor
