import Derived.Test.YtnncigmpcdehnaaGreatDoorQf23
import Derived.ScopeJumps
namespace Go.Proofs.YtnncigmpcdehnaaGreatDoor
set_option maxRecDepth 100000
open Go.RowKit Go.Lib Go.Sort _root_.Go.Proofs.Tryz
noncomputable def bytesOf(t:Nat):Nat:=((prog.types[t]?).map (·.bytes)).getD 0
theorem dU:bytesOf 3≤1000∧bytesOf 118≤1000∧bytesOf 81≤1000∧bytesOf 122≤1000∧bytesOf 124≤1000:=by decide+kernel
theorem mq{cells:List Value}{size len B:Nat}(hl:cells.length=1*size)(ha:cells.all (fun u=>u.oneCell')=true)(hn:len≤1000000)(hb:B≤1000) :
  True∧cells.length=1*size∧(∀u:Value,u∈cells→u.oneCell'=true)∧len+1≤maxLen∧(len+1)*B≤140737488355328:=
 ⟨trivial,hl,fun u hu=>List.all_eq_true.1 ha u hu,by unfold maxLen;omega,Nat.le_trans (Nat.mul_le_mul (show len+1≤1000001 by omega) hb) (by decide)⟩
def dI(cf:CF):List Sx.Row:=[⟨3,.own 1 cf.ag.length cf.cp⟩,⟨118,.own 19 cf.ae.length cf.cr⟩,⟨81,.own 49 cf.rules.length cf.cl⟩,⟨122,.own 4 cf.af.length cf.cm⟩,⟨124,.own 3 cf.aa.length cf.ci⟩]
theorem Kt{ws:List Bs}{α:Type}{a:α}{i n:Nat}(hl:ws.length=n)(h:decide (i < n)=true):sO ws a i=.no 200 (i+1):=by unfold sO;rw[hl,h]
theorem N6{ws:List Bs}{α:Type}{a:α}{i n:Nat}(hl:ws.length=n)(h:decide (i < n)=false):sO ws a i=.ok a i:=by unfold sO;rw[hl,h]
abbrev SO(g gc gd:Nat)(A:Option Go.Addr)(n c:Nat)(cf:CF)(d i:Nat)(R:List Sx.Row):List Sx.Row:=⟨154,.dF g (dJ A n c i)⟩::⟨46,.jR gc [.own 3,.own 4,.own 5,.own 6,.own 7,.val (.int .i64 cf.aS)]⟩::⟨3,.dF gd [.int .i64 (d:Int)]⟩::R
abbrev T6(g gc gd:Nat):Array Value:=#[(pt g 0),(pt gc 0),(pt gd 0)]
theorem yC{a n:Nat}{b:Bool}(h:decide (a < n)=b):Value.bool (decide ((a:Int) < (n:Int)))=.bool b:=bz (by rw[←h];congr 1;exact propext (by omega))
theorem R6(w:World)(g:Nat)(S:List Nat)(A:Option Go.Addr)(n c:Nat){T:Out CF}(p:Nat)(fin:T=.no 200 (p+1))(W:World)(hW:ai S w W)(_:au W g 154 (dJ A n c p)):Calls prog 94 #[(pt g 0),.int .i64 200,.int .i64 ((p:Int)+1)] W (Sx.mG ⟨w,S,j2 T w⟩ W [(pt g 0),.int .i64 200,.int .i64 ((p:Int)+1)] (.Ex [(0,0)])):=jN (b:=⟨w,S,j2 T w⟩) (vs:=[(pt g 0),.int .i64 200,.int .i64 ((p:Int)+1)]) (ps:=[(0,0)]) ((pw ((pt g 0)) 200 ((p:Int)+1) W).mono fun _ _ ⟨ch,he,hf,hc⟩=>⟨ch,he,(show j2 T w _ _ from⟨200,p+1,fin,hf.up hW.size⟩),hc⟩)
def Qi(a b c d e f:Bool):List (Nat×Sx.Hint):=[(20,.bin (.bool a)),(33,.bin (.bool b)),(50,.bin (.bool c)),(82,.bin (.bool d)),(103,.bin (.bool e)),(116,.bin (.bool f))]
def GK(p:Nat)(b:Bool):List (Nat×Sx.Hint):=[(145,.is (.bool b)),(151,.is (.int .i64 ((p:Int)+1))),(152,.oP)]
abbrev zM(g gc gd:Nat)(A:Option Go.Addr)(n c p d k0 k1 k2 k3 k4:Nat)(x:Int)(R:List Sx.Row):List Sx.Row:=⟨154,.dF g (dJ A n c p)⟩::⟨46,.jR gc [.own k0,.own k1,.own k2,.own k3,.own k4,.val (.int .i64 x)]⟩::⟨3,.dF gd [.int .i64 (d:Int)]⟩::R
def Bz(x:Bs)(d:Nat):Nat:=if x=bL then d+1 else d
abbrev px(p:Nat):Value:=.int .i64 ((p:Int)+1)
theorem Q0{w:World}{g gc gd:Nat}{A:Option Go.Addr}{n c i:Nat}{ws:List Bs}{cf cf':CF}{d p:Nat}{s:ey}{T:Out CF}{b:Bool}{Z:Prop}(h:SU w g gc gd A n c i ws cf d s)(hb:decide (p < n)=b)(hp:p≤n)(fin:T=sO ws cf' p)(hz:T=.ok cf' p→Z) :
  Value.bool (decide ((p:Int) < (n:Int)))=.bool b∧Hq b (Value.int .i64 (IntKind.i64.wrap ((p:Int)+1))=px p∧(∀W,ai (A8 g gc gd s) w W→au W g 154 (dJ A n c p)→Calls prog 94 #[(pt g 0),.int .i64 200,px p] W (Sx.mG ⟨w,A8 g gc gd s,j2 T w⟩ W [(pt g 0),.int .i64 200,px p] (.Ex [(0,0)])))∧True) Z:=
 ⟨yC hb,Hq.mk (fun e=>⟨iw (sV (by omega) (by have:=h.sM.bd;omega)),R6 w g (A8 g gc gd s) A n c p (fin.trans (Kt h.sM.pJ.len (hb.trans e))),trivial⟩) fun e=>hz (fin.trans (N6 h.sM.pJ.len (hb.trans e)))⟩
def SN(x:Bs)(a b c:Nat):List Sx.Row:=[⟨122,.ak (Me.cells ⟨x,a,b,c⟩)⟩,⟨253,.dK [.ptr 8 1,.ptr 8 2,.ptr 8 3]⟩]
abbrev Tf:Value:=.int .u64 ((18446744073709551615:Nat):Int)
theorem Qh{w:World}{g gc gd:Nat}{A:Option Go.Addr}{n c i:Nat}{ws:List Bs}{cf:CF}{d:Nat}{s:ey}(h:SU w g gc gd A n c i ws cf d s) :
  Calls prog 131 (T6 g gc gd) w (rO g gc gd A n c (qx ws i cf d) (Bz (aV ws i).val d) (A8 g gc gd s) w):=by
 have E1:=cK (T:=qx ws i cf d) (aV ws i) rfl
 have n12:=fun W (hL:eJ W g A n c i ws)=>ns hL
 generalize aV ws i=r at E1 n12
 have E2:=fun(hr:r.okB=true)=>cK (gx r.val ws r.pos cf d) (bZ E1 hr)
 obtain⟨T,hT⟩:∃T,T=qx ws i cf d:=⟨_,rfl⟩
 have key:∀{α:Type} (q:Out α) (f:α→Nat→Out CF),gx r.val ws r.pos cf d=q.bind f→r.okB=true→T=q.bind fun a j=>(f a j).bind fun c j=>sO ws c j:=fun q f hb hr=>by
  rw[hT,E2 hr,hb];exact Out.bind_assoc _ _ _
 rw[←hT]at E1 E2 ⊢
 clear hT
 have c12:=gj (T:=T) 0 (SO g gc gd A n c cf d i (dI cf++[])) [] h.sM h.sM.le (cj E1) rfl n12
 have q:∀{j:Nat} {R:List Sx.Row} {α:Type} [Inhabited α] {f:Nat} {V:α→Value} {u:Out α} (rest:List Value),j≤n→TM u T→(∀W,eJ W g A n c j ws→Calls prog f (.pointer (some ⟨g,0,none⟩)::rest).toArray W (bU g A n c V u W))→_:=fun {j R α _ f V u} rest hj hno hn=>gj (T:=T) 0 (SO g gc gd A n c cf d j (dI cf++R)) rest h.sM hj hno rfl hn
 have sk:∀(k:Bs) {b:Bool},decide (r.val=k)=b→_:=fun k b hb W=>bJ (.tmp 12) (.const (ab k)) r.val k b hb W
 by_cases k0:r.val=kp
 ·rw[show Bz r.val d=d by unfold Bz;rw[k0];rfl]
  have E3:=fun hr=>cK (iZ ws r.pos) (key (iZ ws r.pos) _ (by unfold gx;rw[if_pos k0]) hr)
  have n27:=fun W (hL:eJ W g A n c r.pos ws)=>uT hL
  generalize iZ ws r.pos=r2 at E3 n27
  obtain⟨b,hb⟩:∃b,decide (r2.pos < n)=b:=⟨_,rfl⟩
  have CH:=And.intro c12 fun(x:RP r n)=>And.intro (sk kp (decide_eq_true k0)) (And.intro (q (R:=[]) [] x.2 (cj (E3 x.1)) n27) (And.intro (fun(y:RP r2 n)=>And.intro (mq (cells:=[qy r2.val]) (size:=1) (B:=bytesOf 3) (by kernel_rfl) (by kernel_rfl) h.xG.1 dU.1)
   (Q0 h hb y.2 (bZ (E3 x.1) y.1) fun e=>(show Pn g gc gd A n c T d [] (zM g gc gd A n c r2.pos d 9 4 5 6 7 cf.aS ((dI cf).set 0 Sx.an++[⟨3,.ak [qy r2.val]⟩,⟨3,.own 1 (cf.ag.length+1) (cf.cp++[qy r2.val])⟩]))from
    ⟨_,_,9,4,5,6,7,e,y.2,rfl,rfl,rfl,rfl,congrArg some (by simp[CF.cp,qy]),rfl,rfl,rfl,rfl⟩))) fun(_:¬RP r2 n)=>trivial))
  refine mh h ((12,.aq (eV 0 g A n c r ab))::(27,.aq (eV 0 g A n c r2 qy))::(Qi true false false false false false++GK r2.pos b)) [] (by kernel_rfl) func131 rfl (cn rfl) ?_
  cases b<;>exact Eq.mp (by kernel_rfl) CH
 have f0:=decide_eq_false k0
 by_cases k1:r.val=de
 ·rw[show Bz r.val d=d by unfold Bz;rw[k1];rfl]
  have E3:=fun hr=>cK (dV ws r.pos) (key (dV ws r.pos) _ (by unfold gx;rw[if_neg k0,if_pos k1]) hr)
  have n35:=fun W (hL:eJ W g A n c r.pos ws)=>ry hL
  generalize dV ws r.pos=r2 at E3 n35
  have E4:=fun hr h2=>cK (iZ ws r2.pos) ((bZ (E3 hr) h2).trans (Out.bind_assoc (iZ ws r2.pos) _ _))
  have n43:=fun W (hL:eJ W g A n c r2.pos ws)=>uT hL
  generalize iZ ws r2.pos=r3 at E4 n43
  obtain⟨b,hb⟩:∃b,decide (r3.pos < n)=b:=⟨_,rfl⟩
  obtain⟨u,hu⟩:∃u:Rt,u=⟨r2.val,(r3.val:Int)⟩:=⟨_,rfl⟩
  have CH:=And.intro c12 fun(x:RP r n)=>And.intro (sk kp f0) (And.intro (sk de (decide_eq_true k1)) (And.intro (q (R:=[]) [] x.2 (cj (E3 x.1)) n35) fun(y:RP r2 n)=>And.intro (q (R:=[⟨29,.ak r2.val.cells⟩]) [] y.2 (cj (E4 x.1 y.1)) n43) (And.intro (fun(z:RP r3 n)=>And.intro (mq (cells:=Rt.cells ⟨r2.val,(r3.val:Int)⟩) (size:=19) (B:=bytesOf 118) (by kernel_rfl) (by kernel_rfl) h.xG.2.1 dU.2.1)
   (Q0 h hb z.2 (bZ (E4 x.1 y.1) z.1) fun e=>(show Pn g gc gd A n c T d [] (zM g gc gd A n c r3.pos d 3 10 5 6 7 cf.aS ((dI cf).set 1 Sx.an++[⟨29,.ak r2.val.cells⟩,⟨118,.ak (Rt.cells ⟨r2.val,(r3.val:Int)⟩)⟩,⟨118,.own 19 (cf.ae.length+1) (cf.cr++Rt.cells ⟨r2.val,(r3.val:Int)⟩)⟩]))from
    ⟨_,_,3,10,5,6,7,e,z.2,rfl,rfl,rfl,rfl,rfl,congrArg some (by simp[CF.cr]),rfl,rfl,rfl⟩))) fun(_:¬RP r3 n)=>trivial)))
  refine mh h ((12,.aq (eV 0 g A n c r ab))::(35,.aq (eV 0 g A n c r2 n9))::(43,.aq (eV 0 g A n c r3 qy))::(Qi false true false false false false++GK r3.pos b)) [] (by kernel_rfl) func131 rfl (cn rfl) ?_
  cases b<;>exact Eq.mp (by kernel_rfl) CH
 have f1:=decide_eq_false k1
 by_cases k2:r.val=bK
 ·rw[show Bz r.val d=d by unfold Bz;rw[k2];rfl]
  have E3:=fun hr=>cK (gu ws r.pos) (key (gu ws r.pos) _ (by unfold gx;rw[if_neg k0,if_neg k1,if_pos k2]) hr)
  have n52:=fun W (hL:eJ W g A n c r.pos ws)=>qo hL
  generalize gu ws r.pos=r2 at E3 n52
  have E4:=fun hr h2=>cK (bw 18446744073709551615 ws r2.pos) ((bZ (E3 hr) h2).trans (Out.bind_assoc (bw 18446744073709551615 ws r2.pos) _ _))
  have m1:=fun W (hL:eJ W g A n c r2.pos ws)=>lq 18446744073709551615 (by omega) hL
  generalize bw 18446744073709551615 ws r2.pos=r3 at E4 m1
  have E5:=fun hr h2 h3=>cK (bw 18446744073709551615 ws r3.pos) ((bZ (E4 hr h2) h3).trans (Out.bind_assoc (bw 18446744073709551615 ws r3.pos) _ _))
  have m2:=fun W (hL:eJ W g A n c r3.pos ws)=>lq 18446744073709551615 (by omega) hL
  generalize bw 18446744073709551615 ws r3.pos=r4 at E5 m2
  have E6:=fun hr h2 h3 h4=>cK (bw 18446744073709551615 ws r4.pos) ((bZ (E5 hr h2 h3) h4).trans (Out.bind_assoc (bw 18446744073709551615 ws r4.pos) _ _))
  have m3:=fun W (hL:eJ W g A n c r4.pos ws)=>lq 18446744073709551615 (by omega) hL
  generalize bw 18446744073709551615 ws r4.pos=r5 at E6 m3
  obtain⟨b,hb⟩:∃b,decide (r5.pos < n)=b:=⟨_,rfl⟩
  have CH:=And.intro c12 fun(x:RP r n)=>And.intro (sk kp f0) (And.intro (sk de f1) (And.intro (sk bK (decide_eq_true k2)) (And.intro (q (R:=[]) [] x.2 (cj (E3 x.1)) n52) fun(y:RP r2 n)=>And.intro (q (R:=SN r2.val 0 0 0) [Tf] y.2 (cj (E4 x.1 y.1)) m1) fun(z:RP r3 n)=>And.intro (q (R:=SN r2.val r3.val 0 0) [Tf] z.2 (cj (E5 x.1 y.1 z.1)) m2) fun(u:RP r4 n)=>And.intro (q (R:=SN r2.val r3.val r4.val 0) [Tf] u.2 (cj (E6 x.1 y.1 z.1 u.1)) m3) fun(v:RP r5 n)=>
   And.intro (mq (cells:=Me.cells ⟨r2.val,r3.val,r4.val,r5.val⟩) (size:=4) (B:=bytesOf 122) (by kernel_rfl) (by kernel_rfl) h.xG.2.2.2.1 dU.2.2.2.1)
   (Q0 h hb v.2 (bZ (E6 x.1 y.1 z.1 u.1) v.1) fun e=>(show Pn g gc gd A n c T d [] (zM g gc gd A n c r5.pos d 3 4 5 11 7 cf.aS ((dI cf).set 3 Sx.an++(SN r2.val r3.val r4.val r5.val++[⟨122,.ak (Me.cells ⟨r2.val,r3.val,r4.val,r5.val⟩)⟩,⟨122,.own 4 (cf.af.length+1) (cf.cm++Me.cells ⟨r2.val,r3.val,r4.val,r5.val⟩)⟩])))from
    ⟨_,_,3,4,5,11,7,e,v.2,rfl,rfl,rfl,rfl,rfl,rfl,rfl,congrArg some (by simp[CF.cm]),rfl⟩)))))
  refine mh h ((12,.aq (eV 0 g A n c r ab))::(52,.aq (eV 0 g A n c r2 ab))::(Qi false false true false false false++GK r5.pos b)) [.times [[(68,.aq (eV 0 g A n c r3 lY))],[(68,.aq (eV 0 g A n c r4 lY))],[(68,.aq (eV 0 g A n c r5 lY))],[]]] (by kernel_rfl) func131 rfl (cn rfl) ?_
  cases b<;>exact Eq.mp (by kernel_rfl) CH
 have f2:=decide_eq_false k2
 by_cases k3:r.val=bh
 ·rw[show Bz r.val d=d by unfold Bz;rw[k3];rfl]
  have E3:=fun hr=>cK (gu ws r.pos) (key (gu ws r.pos) _ (by unfold gx;rw[if_neg k0,if_neg k1,if_neg k2,if_pos k3]) hr)
  have n84:=fun W (hL:eJ W g A n c r.pos ws)=>qo hL
  generalize gu ws r.pos=r2 at E3 n84
  have E4:=fun hr h2=>cK (iZ ws r2.pos) ((bZ (E3 hr) h2).trans (Out.bind_assoc (iZ ws r2.pos) _ _))
  have m1:=fun W (hL:eJ W g A n c r2.pos ws)=>uT hL
  generalize iZ ws r2.pos=r3 at E4 m1
  have E5:=fun hr h2 h3=>cK (iZ ws r3.pos) ((bZ (E4 hr h2) h3).trans (Out.bind_assoc (iZ ws r3.pos) _ _))
  have m2:=fun W (hL:eJ W g A n c r3.pos ws)=>uT hL
  generalize iZ ws r3.pos=r4 at E5 m2
  obtain⟨b,hb⟩:∃b,decide (r4.pos < n)=b:=⟨_,rfl⟩
  have CH:=And.intro c12 fun(x:RP r n)=>And.intro (sk kp f0) (And.intro (sk de f1) (And.intro (sk bK f2) (And.intro (sk bh (decide_eq_true k3)) (And.intro (q (R:=[]) [] x.2 (cj (E3 x.1)) n84) fun(y:RP r2 n)=>And.intro (q (R:=[⟨124,.ak (Mi.cells ⟨r2.val,0,0⟩)⟩]) [] y.2 (cj (E4 x.1 y.1)) m1) fun(z:RP r3 n)=>And.intro (q (R:=[⟨124,.ak (Mi.cells ⟨r2.val,(r3.val:Int),0⟩)⟩]) [] z.2 (cj (E5 x.1 y.1 z.1)) m2) fun(u:RP r4 n)=>
   And.intro (mq (cells:=Mi.cells ⟨r2.val,(r3.val:Int),(r4.val:Int)⟩) (size:=3) (B:=bytesOf 124) (by kernel_rfl) (by kernel_rfl) h.xG.2.2.2.2 dU.2.2.2.2)
   (Q0 h hb u.2 (bZ (E5 x.1 y.1 z.1) u.1) fun e=>(show Pn g gc gd A n c T d [] (zM g gc gd A n c r4.pos d 3 4 5 6 10 cf.aS ((dI cf).set 4 Sx.an++[⟨124,.ak (Mi.cells ⟨r2.val,(r3.val:Int),(r4.val:Int)⟩)⟩,⟨124,.ak (Mi.cells ⟨r2.val,(r3.val:Int),(r4.val:Int)⟩)⟩,⟨124,.own 3 (cf.aa.length+1) (cf.ci++Mi.cells ⟨r2.val,(r3.val:Int),(r4.val:Int)⟩)⟩]))from
    ⟨_,_,3,4,5,6,10,e,u.2,rfl,rfl,rfl,rfl,rfl,rfl,rfl,rfl,congrArg some (by simp[CF.ci])⟩))))))
  refine mh h ((12,.aq (eV 0 g A n c r ab))::(84,.aq (eV 0 g A n c r2 ab))::(87,.aq (eV 0 g A n c r3 qy))::(90,.aq (eV 0 g A n c r4 qy))::(Qi false false false true false false++GK r4.pos b)) [] (by kernel_rfl) func131 rfl (cn rfl) ?_
  cases b<;>exact Eq.mp (by kernel_rfl) CH
 have f3:=decide_eq_false k3
 by_cases k4:r.val=gg
 ·rw[show Bz r.val d=d by unfold Bz;rw[k4];rfl]
  have E3:=fun hr=>cK (oJ ws r.pos) (key (oJ ws r.pos) _ (by unfold gx;rw[if_neg k0,if_neg k1,if_neg k2,if_neg k3,if_pos k4]) hr)
  have n110:=fun W (hL:eJ W g A n c r.pos ws)=>Nq hL
  generalize oJ ws r.pos=r2 at E3 n110
  obtain⟨b,hb⟩:∃b,decide (r2.pos < n)=b:=⟨_,rfl⟩
  have CH:=And.intro c12 fun(x:RP r n)=>And.intro (sk kp f0) (And.intro (sk de f1) (And.intro (sk bK f2) (And.intro (sk bh f3) (And.intro (sk gg (decide_eq_true k4)) (And.intro (q (R:=[]) [] x.2 (cj (E3 x.1)) n110) (And.intro (fun(y:RP r2 n)=>
   And.intro (mq (cells:=r2.val.cells) (size:=49) (B:=bytesOf 81) (by kernel_rfl) (by kernel_rfl) h.xG.2.2.1 dU.2.2.1)
   (Q0 h hb y.2 (bZ (E3 x.1) y.1) fun e=>(show Pn g gc gd A n c T d [] (zM g gc gd A n c r2.pos d 3 4 9 6 7 cf.aS ((dI cf).set 2 Sx.an++[⟨81,.ak r2.val.cells⟩,⟨81,.own 49 (cf.rules.length+1) (cf.cl++r2.val.cells)⟩]))from
    ⟨_,_,3,4,9,6,7,e,y.2,rfl,rfl,rfl,rfl,rfl,rfl,congrArg some (by simp[CF.cl]),rfl,rfl⟩))) fun(_:¬RP r2 n)=>trivial))))))
  refine mh h ((12,.aq (eV 0 g A n c r ab))::(110,.aq (eV 0 g A n c r2 SI))::(Qi false false false false true false++GK r2.pos b)) [] (by kernel_rfl) func131 rfl (cn rfl) ?_
  cases b<;>exact Eq.mp (by kernel_rfl) CH
 have f4:=decide_eq_false k4
 by_cases k5:r.val=bL
 ·rw[show Bz r.val d=d+1 by unfold Bz;rw[if_pos k5]]
  have hdle:=h.SP
  have E3:=fun hr=>cK (ay (decide (d=0)) 200 () r.pos) (key (ay (decide (d=0)) 200 () r.pos) _ (by unfold gx;rw[if_neg k0,if_neg k1,if_neg k2,if_neg k3,if_neg k4,if_pos k5]) hr)
  have hd0:Value.bool (((d+1:Nat):Int)==1)=.bool (decide (d=0)):=by
   congr 1
   by_cases h0:d=0
   ·rw[h0];rfl
   ·rw[decide_eq_false h0,beq_eq_false_iff_ne];omega
  generalize decide (d=0)=d0 at E3 hd0
  have n127:=fun W (hL:eJ W g A n c r.pos ws)=>iy d0 200 () hL
  generalize ay d0 200 () r.pos=r1 at E3 n127
  have E4:=fun hr h2=>cK (pI false ws r1.pos) ((bZ (E3 hr) h2).trans (Out.bind_assoc (pI false ws r1.pos) _ _))
  have n131:=fun W (hL:eJ W g A n c r1.pos ws)=>xq false hL
  generalize pI false ws r1.pos=r2 at E4 n131
  obtain⟨b,hb⟩:∃b,decide (r2.pos < n)=b:=⟨_,rfl⟩
  have CH:=And.intro c12 fun(x:RP r n)=>And.intro (sk kp f0) (And.intro (sk de f1) (And.intro (sk bK f2) (And.intro (sk bh f3) (And.intro (sk gg f4) (And.intro (sk bL (decide_eq_true k5)) (And.intro (show Value.int .i64 (IntKind.i64.wrap ((d:Int)+1))=.int .i64 ((d+1:Nat):Int)from iw (by rw[sV (by omega) (by omega)];rfl)) (And.intro hd0
   (And.intro (gj (T:=T) 0 (SO g gc gd A n c cf (d+1) r.pos (dI cf++[])) [.bool d0,.int .i64 200] h.sM x.2 (cj (E3 x.1)) rfl n127) fun(y:RP r1 n)=>And.intro (gj (T:=T) 0 (SO g gc gd A n c cf (d+1) r1.pos (dI cf++[])) [.bool false] h.sM y.2 (cj (E4 x.1 y.1)) rfl n131) fun(z:RP r2 n)=>
   (Q0 h hb z.2 (bZ (E4 x.1 y.1) z.1) fun e=>(show Pn g gc gd A n c T (d+1) [] (zM g gc gd A n c r2.pos (d+1) 3 4 5 6 7 r2.val.1 (dI cf++[]))from⟨_,_,3,4,5,6,7,e,z.2,rfl,rfl,rfl,rfl,rfl,rfl,rfl,rfl,rfl⟩))))))))))
  refine mh h ((12,.aq (eV 0 g A n c r ab))::(120,.is (.int .i64 ((d+1:Nat):Int)))::(126,.is (.bool d0))::(127,.aq (eV 0 g A n c r1 (fun _=>.tuple #[])))::(131,.aq (eV 0 g A n c r2 sQ))::(Qi false false false false false true++GK r2.pos b)) [] (by kernel_rfl) func131 rfl (cn rfl) ?_
  cases b<;>exact Eq.mp (by kernel_rfl) CH
 ·rw[show Bz r.val d=d by unfold Bz;rw[if_neg k5]]
  have fin:r.okB=true→T=.no 200 r.pos:=fun hr=>by
   rw[E2 hr]
   unfold gx
   rw[if_neg k0,if_neg k1,if_neg k2,if_neg k3,if_neg k4,if_neg k5]
   rfl
  have CH:=And.intro c12 fun(x:RP r n)=>Sx.t4 (sk kp f0) (sk de f1) (sk bK f2) (sk bh f3) (Sx.t2 (sk gg f4) (sk bL (decide_eq_false k5)) (And.intro (fun W (hW:ai (A8 g gc gd s) w W) (_:au W g 154 (dJ A n c r.pos))=>jN (b:=⟨w,A8 g gc gd s,j2 T w⟩) (vs:=[.pointer (some ⟨g,0,none⟩),.int .i64 200,.int .i64 (r.pos:Int)]) (ps:=[(0,0)]) ((pw (.pointer (some ⟨g,0,none⟩)) 200 (r.pos:Int) W).mono fun _ _ ⟨ch,he,hf,hc⟩=>⟨ch,he,(show j2 T w _ _ from⟨200,r.pos,fin x.1,hf.up hW.size⟩),hc⟩)) trivial))
  refine mh h ((12,.aq (eV 0 g A n c r ab))::(18,.oP)::Qi false false false false false false) [] (by kernel_rfl) func131 rfl (cn rfl) ?_
  exact Eq.mp (by kernel_rfl) CH
open Go.RowKit Go.Lib Go.Sort
theorem N0(l:List UInt8)(a b:Nat):(⟨l.toArray⟩:ByteArray).extract a b=⟨((l.take b).drop a).toArray⟩:=by
 apply ByteArray.ext
 simp[List.extract_eq_take_drop,List.drop_take]
open Go Go.RowKit Go.Lib Go.Sort
theorem qp{p:Nat→Prop}(h:∃m,p m):∃m,p m∧∀m',p m'→m≤m':=by
 obtain⟨m,hm⟩:=h
 induction m using Nat.strongRecOn with
 |_ m ih=>
  by_cases hx:∃m',m' < m∧p m'
  ·obtain⟨m',h1,h2⟩:=hx
   exact ih m' h1 h2
  ·exact⟨m,hm,fun m' h'=>Nat.le_of_not_lt fun hlt=>hx ⟨m',hlt,h'⟩⟩
theorem ts{P:Program}{Q:Exit→Act→World→Prop}{a:Act}{w:World}{c rest:Code}(l:Nat)(J:Nat→Act→World→Prop)(hf:findLabel c l=some rest)
  (first:c.wp P (Exit.jump l (fun a w=>∃m,J m a w) Q) a w)
  (pass:∀m a w,J m a w→rest.wp P (Exit.jump l (fun a' w'=>∃m',m' < m∧J m' a' w') Q) a w):(Code.scope c).wp P Q a w:=by
 classical
 let μ:Act→World→Nat:=fun a w=>if h:∃m,J m a w then(qp h).choose else 0
 have hμ:∀a w m,J m a w→μ a w≤m∧J (μ a w) a w:=fun a w m hm=>by
  have h:∃m,J m a w:=⟨m,hm⟩
  have e:μ a w=(qp h).choose:=dif_pos h
  rw[e]
  exact⟨(qp h).choose_spec.2 m hm,(qp h).choose_spec.1⟩
 refine wp_scope_jumps l (fun a w=>∃m,J m a w) μ hf first fun a w ⟨m,hm⟩=>?_
 refine Code.wp_mono (fun e a' w' hq=>?_) (pass (μ a w) a w (hμ a w m hm).2)
 cases e with
 |goto l'=>
  obtain⟨he,m',hlt,hj⟩:=hq
  exact⟨he,⟨m',hj⟩,Nat.lt_of_le_of_lt (hμ a' w' m' hj).1 hlt⟩
 |normal=>exact hq
 |exit id=>exact hq
 |ret=>exact hq
 |panic ch=>exact hq
 |outgrown=>exact hq
namespace Sx
def AU{κ:Type}(l:Nat)(R:κ→Prop)(fr:κ→List (Nat×SV))(mem:κ→List Row)(M:Prop)(k:κ)(K:Exit→St→Prop):Exit→St→Prop
 |.goto l',st=>match Nat.beq l' l with
  |true=>M∧R k∧zq st (fr k) (mem k)
  |false=>cF st
 |e,st=>K e st
def ND(c:Code)(l:Nat):Code:=(findLabel c l).getD .skip
def Ej:Code→Code
 |.seq _ (.scope c)=>c
 |_=>.skip
def Qj:Code→Code
 |.seq a _=>a
 |_=>.skip
section
variable{P:Program}{w0:aU}{ds:List Deferred}{n:Nat}
theorem xr{κ:Type}{l:Nat}{R:κ→Prop}{fr:κ→List (Nat×SV)}{mem:κ→List Row}{M:Prop}{k:κ}{K:Exit→St→Prop}{e:Exit}{a:Act}{w:World}{J:Act→World→Prop}
  (h:lift ds w0 n (AU l R fr mem M k K) e a w) (hJ:∀β,M→R k→Hd ds w0 n β ⟨fr k,mem k⟩ a w→J a w):Exit.jump l J (lift ds w0 n K) e a w:=by
 cases e with
 |goto l'=>
  obtain⟨β,st,hk,h'⟩:=h
  simp only[AU]at hk
  split at hk
  ·rename_i hb
   obtain⟨hm,hr,hs⟩:=hk
   obtain⟨β2,h2⟩:=h'.same hs
   exact⟨Nat.eq_of_beq_eq_true hb,hJ β2 hm hr h2⟩
  ·exact nomatch hk
 |normal=>exact h
 |exit id=>exact h
 |ret=>exact h
 |panic ch=>exact h
 |outgrown=>exact h
theorem DK{w:World}{f:FuncId}{fn:Func}{a0 c rest:Code}{S:List Nat}{PP:List PanicEntry→World→Prop}{β:Env}{mem:List Row}{args:List SV}{R:List SV→List Row→Prop}(hF:Rows ⟨w,S,PP⟩ β w mem)
  {κ:Type} (l:Nat) (k0:κ) (Rk:κ→Prop) (frk:κ→List (Nat×SV)) (memk:κ→List Row) (next:κ→κ) (μ:κ→Nat)
  (H0 H:List (Nat×Hint)) (L:List Loop) (hm:P.follows .mixedOrders=true) (hf:P.funcs[f]?=some fn) (hb:fn.body=some (.seq a0 (.scope c))) (hl:findLabel c l=some rest) (hn:args.length≤fn.ntmps) (hw:(fj (fun r=>mn mem.length r.cs) mem&&fj (zJ mem.length) args)=true)
  (pass:∀k,Rk k→∃H' L',jU P fn.ntmps ⟨w,S,PP⟩ rest H' L' ⟨frk k,memk k⟩ (AU l Rk frk memk (μ (next k) < μ k) (next k) (bY P fn R)))
  (first:jU P fn.ntmps ⟨w,S,PP⟩ a0 H0 [] ⟨mz 0 args,mem⟩ (fun e st=>match e with | .normal=>jU P fn.ntmps ⟨w,S,PP⟩ c H L st (AU l Rk frk memk True k0 (bY P fn R))|_=>False)) :
  Calls P f (args.map (SV.den β)).toArray w (cq ⟨w,S,PP⟩ R):=by
 rw[Bool.and_eq_true]at hw
 have start:Hd [] ⟨w,S,PP⟩ fn.ntmps β ⟨mz 0 args,mem⟩ { tmps:=(args.map (SV.den β)).toArray++Array.replicate (fn.ntmps - (args.map (SV.den β)).toArray.size) undef,defers:=[] } w:=by
  refine⟨by simp;omega,rfl,fun t sv ht=>?_,hF.held,hF.new,hF.inj,hF.aG,fun t sv ht=>?_,fun i r hi=>?_⟩
  ·obtain⟨_,hv⟩:=gE ht
   have hlt:t < args.length:=(List.getElem?_eq_some_iff.1 hv).1
   rw[Array.getElem?_append_left (by simpa using hlt)]
   simp only[Nat.sub_zero]at hv
   simp[hv]
  ·obtain⟨_,hv⟩:=gE ht
   exact nU (aT hw.2 sv (List.mem_of_getElem? hv))
  ·exact jW (aT hw.1 r (List.mem_of_getElem? hi))
 refine calls_of_wp hf hb ?_
 refine wp_seq (Code.wp_mono (fun e a' w' hq=>?_) (jc hm a0 H0 [] _ _ β _ w start first))
 cases e with
 |normal=>
  obtain⟨β',st',hk,h'⟩:=hq
  have main:(Code.scope c).wp P (lift [] ⟨w,S,PP⟩ fn.ntmps (bY P fn R)) a' w':=by
   refine ts l (fun m a w'=>∃β k,μ k=m∧Rk k∧Hd [] ⟨w,S,PP⟩ fn.ntmps β ⟨frk k,memk k⟩ a w') hl ?_ ?_
   ·exact Code.wp_mono (fun e a2 w2 hq=>xr hq fun β2 _ hr h2=>⟨μ k0,β2,k0,rfl,hr,h2⟩) (jc hm c H L st' _ β' a' w' h' hk)
   ·rintro m a2 w2 ⟨β2,k,rfl,hr,h2⟩
    obtain⟨H',L',hp⟩:=pass k hr
    exact Code.wp_mono (fun e a3 w3 hq=>xr hq fun β3 hlt hr3 h3=>⟨μ (next k),hlt,β3,next k,rfl,hr3,h3⟩) (jc hm rest H' L' _ _ β2 a2 w2 h2 hp)
  exact Code.wp_mono (fun e a w hq=>xP hq) main
 |exit id=>obtain⟨_,_,hk,_⟩:=hq;exact hk.elim
 |goto l=>obtain⟨_,_,hk,_⟩:=hq;exact hk.elim
 |ret=>obtain⟨_,_,hk,_⟩:=hq;exact hk.elim
 |panic ch=>exact⟨hq.1,.inr ⟨ch,rfl,hq.2⟩⟩
 |outgrown=>obtain⟨_,_,hk,_⟩:=hq;exact hk.elim
end
end Sx
end Go.Proofs.YtnncigmpcdehnaaGreatDoor
