import Derived.Test.YtnncigmpcdehnaaGreatDoorQd25
import Derived.ScopeJumps
namespace Go.Proofs.YtnncigmpcdehnaaGreatDoor
set_option maxRecDepth 100000
open Go.RowKit Go.Lib Go.Sort
noncomputable def bytesOf(t:Nat):Nat:=((Tryz.prog.types[t]?).map (·.bytes)).getD 0
theorem mw:bytesOf 3≤1000∧bytesOf 118≤1000∧bytesOf 81≤1000∧bytesOf 122≤1000∧bytesOf 124≤1000:=by decide+kernel
theorem lq{cells:List Value}{size len B:Nat}(hl:cells.length=1*size)(ha:cells.all (fun u=>u.oneCell')=true)(hn:len≤1000000)(hb:B≤1000) :
  True∧cells.length=1*size∧(∀u:Value,u∈cells→u.oneCell'=true)∧len+1≤maxLen∧(len+1)*B≤140737488355328:=
 ⟨trivial,hl,fun u hu=>List.all_eq_true.1 ha u hu,by unfold maxLen;omega,Nat.le_trans (Nat.mul_le_mul (show len+1≤1000001 by omega) hb) (by decide)⟩
def dj(cf:CF):List Sx.Row:=[⟨3,.own 1 cf.ai.length cf.cp⟩,⟨118,.own 19 cf.ae.length cf.cr⟩,⟨81,.own 49 cf.rules.length cf.cl⟩,⟨122,.own 4 cf.af.length cf.cm⟩,⟨124,.own 3 cf.aa.length cf.ci⟩]
theorem Ht{ws:List Bs}{α:Type}{a:α}{i n:Nat}(hl:ws.length=n)(h:decide (i < n)=true):qY ws a i=.no 200 (i+1):=by unfold qY;rw[hl,h]
theorem KP{ws:List Bs}{α:Type}{a:α}{i n:Nat}(hl:ws.length=n)(h:decide (i < n)=false):qY ws a i=.ok a i:=by unfold qY;rw[hl,h]
abbrev O2(g gc gd:Nat)(A:Option Go.Addr)(n c:Nat)(cf:CF)(d i:Nat)(R:List Sx.Row):List Sx.Row:=⟨154,.dC g (dr A n c i)⟩::⟨46,.jg gc [.own 3,.own 4,.own 5,.own 6,.own 7,.val (.int .i64 cf.br)]⟩::⟨3,.dC gd [.int .i64 (d:Int)]⟩::R
abbrev P8(g gc gd:Nat):Array Value:=#[.pointer (some ⟨g,0,none⟩),.pointer (some ⟨gc,0,none⟩),.pointer (some ⟨gd,0,none⟩)]
theorem wh{a n:Nat}{b:Bool}(h:decide (a < n)=b):Value.bool (decide ((a:Int) < (n:Int)))=.bool b:=bz (by rw[←h];congr 1;exact propext (by omega))
theorem Om(w:World)(g:Nat)(S:List Nat)(A:Option Go.Addr)(n c:Nat){T:Out CF}(p:Nat)(fin:T=.no 200 (p+1))(W:World)(hW:ag S w W)(_:aq W g 154 (dr A n c p)):Calls Tryz.prog 94 #[.pointer (some ⟨g,0,none⟩),.int .i64 200,.int .i64 ((p:Int)+1)] W (Sx.rB ⟨w,S,js T w⟩ W [.pointer (some ⟨g,0,none⟩),.int .i64 200,.int .i64 ((p:Int)+1)] (.Cl [(0,0)])):=je (b:=⟨w,S,js T w⟩) (vs:=[.pointer (some ⟨g,0,none⟩),.int .i64 200,.int .i64 ((p:Int)+1)]) (ps:=[(0,0)]) ((ow (.pointer (some ⟨g,0,none⟩)) 200 ((p:Int)+1) W).mono fun _ _ ⟨ch,he,hf,hc⟩=>⟨ch,he,(show js T w _ _ from⟨200,p+1,fin,hf.up hW.size⟩),hc⟩)
def MK(a b c d e f:Bool):List (Nat×Sx.Hint):=[(20,.bin (.bool a)),(33,.bin (.bool b)),(50,.bin (.bool c)),(82,.bin (.bool d)),(103,.bin (.bool e)),(116,.bin (.bool f))]
def Ed(p:Nat)(b:Bool):List (Nat×Sx.Hint):=[(145,.is (.bool b)),(151,.is (.int .i64 ((p:Int)+1))),(152,.nL)]
abbrev zM(g gc gd:Nat)(A:Option Go.Addr)(n c p d k0 k1 k2 k3 k4:Nat)(x:Int)(R:List Sx.Row):List Sx.Row:=⟨154,.dC g (dr A n c p)⟩::⟨46,.jg gc [.own k0,.own k1,.own k2,.own k3,.own k4,.val (.int .i64 x)]⟩::⟨3,.dC gd [.int .i64 (d:Int)]⟩::R
def zr(x:Bs)(d:Nat):Nat:=if x=bD then d+1 else d
abbrev px(p:Nat):Value:=.int .i64 ((p:Int)+1)
theorem Nu{w:World}{g gc gd:Nat}{A:Option Go.Addr}{n c i:Nat}{ws:List Bs}{cf cf':CF}{d p:Nat}{s:fU}{T:Out CF}{b:Bool}{Z:Prop}(h:O8 w g gc gd A n c i ws cf d s)(hb:decide (p < n)=b)(hp:p≤n)(fin:T=qY ws cf' p)(hz:T=.ok cf' p→Z) :
  Value.bool (decide ((p:Int) < (n:Int)))=.bool b∧ET b (Value.int .i64 (IntKind.i64.wrap ((p:Int)+1))=px p∧(∀W,ag (yU g gc gd s) w W→aq W g 154 (dr A n c p)→Calls Tryz.prog 94 #[.pointer (some ⟨g,0,none⟩),.int .i64 200,px p] W (Sx.rB ⟨w,yU g gc gd s,js T w⟩ W [.pointer (some ⟨g,0,none⟩),.int .i64 200,px p] (.Cl [(0,0)])))∧True) Z:=
 ⟨wh hb,ET.mk (fun e=>⟨iw (gE (by omega) (by have:=h.qX.bd;omega)),Om w g (yU g gc gd s) A n c p (fin.trans (Ht h.qX.oF.len (hb.trans e))),trivial⟩) fun e=>hz (fin.trans (KP h.qX.oF.len (hb.trans e)))⟩
def O1(x:Bs)(a b c:Nat):List Sx.Row:=[⟨122,.aj (Me.cells ⟨x,a,b,c⟩)⟩,⟨253,.dA [.ptr 8 1,.ptr 8 2,.ptr 8 3]⟩]
abbrev Pq:Value:=.int .u64 ((18446744073709551615:Nat):Int)
theorem MJ{w:World}{g gc gd:Nat}{A:Option Go.Addr}{n c i:Nat}{ws:List Bs}{cf:CF}{d:Nat}{s:fU}(h:O8 w g gc gd A n c i ws cf d s) :
  Calls Tryz.prog 131 (P8 g gc gd) w (ql g gc gd A n c (pj ws i cf d) (zr (aR ws i).val d) (yU g gc gd s) w):=by
 have E1:=cz (T:=pj ws i cf d) (aR ws i) rfl
 have n12:=fun W (hL:dX W g A n c i ws)=>mb hL
 generalize aR ws i=r at E1 n12
 have E2:=fun(hr:r.okB=true)=>cz (fJ r.val ws r.pos cf d) (bS E1 hr)
 obtain⟨T,hT⟩:∃T,T=pj ws i cf d:=⟨_,rfl⟩
 have key:∀{α:Type} (q:Out α) (f:α→Nat→Out CF),fJ r.val ws r.pos cf d=q.bind f→r.okB=true→T=q.bind fun a j=>(f a j).bind fun c j=>qY ws c j:=fun q f hb hr=>by
  rw[hT,E2 hr,hb];exact Out.bind_assoc _ _ _
 rw[←hT]at E1 E2 ⊢
 clear hT
 have c12:=fw (T:=T) 0 (O2 g gc gd A n c cf d i (dj cf++[])) [] h.qX h.qX.le (bY E1) rfl n12
 have q:∀{j:Nat} {R:List Sx.Row} {α:Type} [Inhabited α] {f:Nat} {V:α→Value} {u:Out α} (rest:List Value),j≤n→PU u T→(∀W,dX W g A n c j ws→Calls Tryz.prog f (.pointer (some ⟨g,0,none⟩)::rest).toArray W (bM g A n c V u W))→_:=fun {j R α _ f V u} rest hj hno hn=>fw (T:=T) 0 (O2 g gc gd A n c cf d j (dj cf++R)) rest h.qX hj hno rfl hn
 have sk:∀(k:Bs) {b:Bool},decide (r.val=k)=b→_:=fun k b hb W=>bC (.tmp 12) (.const (ab k)) r.val k b hb W
 by_cases k0:r.val=km
 ·rw[show zr r.val d=d by unfold zr;rw[k0];rfl]
  have E3:=fun hr=>cz (il ws r.pos) (key (il ws r.pos) _ (by unfold fJ;rw[if_pos k0]) hr)
  have n27:=fun W (hL:dX W g A n c r.pos ws)=>sS hL
  generalize il ws r.pos=r2 at E3 n27
  obtain⟨b,hb⟩:∃b,decide (r2.pos < n)=b:=⟨_,rfl⟩
  have CH:=And.intro c12 fun(x:RP r n)=>And.intro (sk km (decide_eq_true k0)) (And.intro (q (R:=[]) [] x.2 (bY (E3 x.1)) n27) (And.intro (fun(y:RP r2 n)=>And.intro (lq (cells:=[pn r2.val]) (size:=1) (B:=bytesOf 3) (by kernel_rfl) (by kernel_rfl) h.vk.1 mw.1)
   (Nu h hb y.2 (bS (E3 x.1) y.1) fun e=>(show LW g gc gd A n c T d [] (zM g gc gd A n c r2.pos d 9 4 5 6 7 cf.br ((dj cf).set 0 Sx.al++[⟨3,.aj [pn r2.val]⟩,⟨3,.own 1 (cf.ai.length+1) (cf.cp++[pn r2.val])⟩]))from
    ⟨_,_,9,4,5,6,7,e,y.2,rfl,rfl,rfl,rfl,congrArg some (by simp[CF.cp,pn]),rfl,rfl,rfl,rfl⟩))) fun(_:¬RP r2 n)=>trivial))
  refine lf h ((12,.an (eo 0 g A n c r ab))::(27,.an (eo 0 g A n c r2 pn))::(MK true false false false false false++Ed r2.pos b)) [] (by kernel_rfl) Tryz.func131 rfl (Nat.le_of_ble_eq_true rfl) ?_
  cases b<;>exact Eq.mp (by kernel_rfl) CH
 have f0:=decide_eq_false k0
 by_cases k1:r.val=dx
 ·rw[show zr r.val d=d by unfold zr;rw[k1];rfl]
  have E3:=fun hr=>cz (dB ws r.pos) (key (dB ws r.pos) _ (by unfold fJ;rw[if_neg k0,if_pos k1]) hr)
  have n35:=fun W (hL:dX W g A n c r.pos ws)=>qf hL
  generalize dB ws r.pos=r2 at E3 n35
  have E4:=fun hr h2=>cz (il ws r2.pos) ((bS (E3 hr) h2).trans (Out.bind_assoc (il ws r2.pos) _ _))
  have n43:=fun W (hL:dX W g A n c r2.pos ws)=>sS hL
  generalize il ws r2.pos=r3 at E4 n43
  obtain⟨b,hb⟩:∃b,decide (r3.pos < n)=b:=⟨_,rfl⟩
  obtain⟨u,hu⟩:∃u:Rt,u=⟨r2.val,(r3.val:Int)⟩:=⟨_,rfl⟩
  have CH:=And.intro c12 fun(x:RP r n)=>And.intro (sk km f0) (And.intro (sk dx (decide_eq_true k1)) (And.intro (q (R:=[]) [] x.2 (bY (E3 x.1)) n35) fun(y:RP r2 n)=>And.intro (q (R:=[⟨29,.aj r2.val.cells⟩]) [] y.2 (bY (E4 x.1 y.1)) n43) (And.intro (fun(z:RP r3 n)=>And.intro (lq (cells:=Rt.cells ⟨r2.val,(r3.val:Int)⟩) (size:=19) (B:=bytesOf 118) (by kernel_rfl) (by kernel_rfl) h.vk.2.1 mw.2.1)
   (Nu h hb z.2 (bS (E4 x.1 y.1) z.1) fun e=>(show LW g gc gd A n c T d [] (zM g gc gd A n c r3.pos d 3 10 5 6 7 cf.br ((dj cf).set 1 Sx.al++[⟨29,.aj r2.val.cells⟩,⟨118,.aj (Rt.cells ⟨r2.val,(r3.val:Int)⟩)⟩,⟨118,.own 19 (cf.ae.length+1) (cf.cr++Rt.cells ⟨r2.val,(r3.val:Int)⟩)⟩]))from
    ⟨_,_,3,10,5,6,7,e,z.2,rfl,rfl,rfl,rfl,rfl,congrArg some (by simp[CF.cr]),rfl,rfl,rfl⟩))) fun(_:¬RP r3 n)=>trivial)))
  refine lf h ((12,.an (eo 0 g A n c r ab))::(35,.an (eo 0 g A n c r2 mV))::(43,.an (eo 0 g A n c r3 pn))::(MK false true false false false false++Ed r3.pos b)) [] (by kernel_rfl) Tryz.func131 rfl (Nat.le_of_ble_eq_true rfl) ?_
  cases b<;>exact Eq.mp (by kernel_rfl) CH
 have f1:=decide_eq_false k1
 by_cases k2:r.val=bU
 ·rw[show zr r.val d=d by unfold zr;rw[k2];rfl]
  have E3:=fun hr=>cz (fG ws r.pos) (key (fG ws r.pos) _ (by unfold fJ;rw[if_neg k0,if_neg k1,if_pos k2]) hr)
  have n52:=fun W (hL:dX W g A n c r.pos ws)=>pb hL
  generalize fG ws r.pos=r2 at E3 n52
  have E4:=fun hr h2=>cz (bn 18446744073709551615 ws r2.pos) ((bS (E3 hr) h2).trans (Out.bind_assoc (bn 18446744073709551615 ws r2.pos) _ _))
  have m1:=fun W (hL:dX W g A n c r2.pos ws)=>ki 18446744073709551615 (by omega) hL
  generalize bn 18446744073709551615 ws r2.pos=r3 at E4 m1
  have E5:=fun hr h2 h3=>cz (bn 18446744073709551615 ws r3.pos) ((bS (E4 hr h2) h3).trans (Out.bind_assoc (bn 18446744073709551615 ws r3.pos) _ _))
  have m2:=fun W (hL:dX W g A n c r3.pos ws)=>ki 18446744073709551615 (by omega) hL
  generalize bn 18446744073709551615 ws r3.pos=r4 at E5 m2
  have E6:=fun hr h2 h3 h4=>cz (bn 18446744073709551615 ws r4.pos) ((bS (E5 hr h2 h3) h4).trans (Out.bind_assoc (bn 18446744073709551615 ws r4.pos) _ _))
  have m3:=fun W (hL:dX W g A n c r4.pos ws)=>ki 18446744073709551615 (by omega) hL
  generalize bn 18446744073709551615 ws r4.pos=r5 at E6 m3
  obtain⟨b,hb⟩:∃b,decide (r5.pos < n)=b:=⟨_,rfl⟩
  have CH:=And.intro c12 fun(x:RP r n)=>And.intro (sk km f0) (And.intro (sk dx f1) (And.intro (sk bU (decide_eq_true k2)) (And.intro (q (R:=[]) [] x.2 (bY (E3 x.1)) n52) fun(y:RP r2 n)=>And.intro (q (R:=O1 r2.val 0 0 0) [Pq] y.2 (bY (E4 x.1 y.1)) m1) fun(z:RP r3 n)=>And.intro (q (R:=O1 r2.val r3.val 0 0) [Pq] z.2 (bY (E5 x.1 y.1 z.1)) m2) fun(u:RP r4 n)=>And.intro (q (R:=O1 r2.val r3.val r4.val 0) [Pq] u.2 (bY (E6 x.1 y.1 z.1 u.1)) m3) fun(v:RP r5 n)=>
   And.intro (lq (cells:=Me.cells ⟨r2.val,r3.val,r4.val,r5.val⟩) (size:=4) (B:=bytesOf 122) (by kernel_rfl) (by kernel_rfl) h.vk.2.2.2.1 mw.2.2.2.1)
   (Nu h hb v.2 (bS (E6 x.1 y.1 z.1 u.1) v.1) fun e=>(show LW g gc gd A n c T d [] (zM g gc gd A n c r5.pos d 3 4 5 11 7 cf.br ((dj cf).set 3 Sx.al++(O1 r2.val r3.val r4.val r5.val++[⟨122,.aj (Me.cells ⟨r2.val,r3.val,r4.val,r5.val⟩)⟩,⟨122,.own 4 (cf.af.length+1) (cf.cm++Me.cells ⟨r2.val,r3.val,r4.val,r5.val⟩)⟩])))from
    ⟨_,_,3,4,5,11,7,e,v.2,rfl,rfl,rfl,rfl,rfl,rfl,rfl,congrArg some (by simp[CF.cm]),rfl⟩)))))
  refine lf h ((12,.an (eo 0 g A n c r ab))::(52,.an (eo 0 g A n c r2 ab))::(MK false false true false false false++Ed r5.pos b)) [.times [[(68,.an (eo 0 g A n c r3 kS))],[(68,.an (eo 0 g A n c r4 kS))],[(68,.an (eo 0 g A n c r5 kS))],[]]] (by kernel_rfl) Tryz.func131 rfl (Nat.le_of_ble_eq_true rfl) ?_
  cases b<;>exact Eq.mp (by kernel_rfl) CH
 have f2:=decide_eq_false k2
 by_cases k3:r.val=bp
 ·rw[show zr r.val d=d by unfold zr;rw[k3];rfl]
  have E3:=fun hr=>cz (fG ws r.pos) (key (fG ws r.pos) _ (by unfold fJ;rw[if_neg k0,if_neg k1,if_neg k2,if_pos k3]) hr)
  have n84:=fun W (hL:dX W g A n c r.pos ws)=>pb hL
  generalize fG ws r.pos=r2 at E3 n84
  have E4:=fun hr h2=>cz (il ws r2.pos) ((bS (E3 hr) h2).trans (Out.bind_assoc (il ws r2.pos) _ _))
  have m1:=fun W (hL:dX W g A n c r2.pos ws)=>sS hL
  generalize il ws r2.pos=r3 at E4 m1
  have E5:=fun hr h2 h3=>cz (il ws r3.pos) ((bS (E4 hr h2) h3).trans (Out.bind_assoc (il ws r3.pos) _ _))
  have m2:=fun W (hL:dX W g A n c r3.pos ws)=>sS hL
  generalize il ws r3.pos=r4 at E5 m2
  obtain⟨b,hb⟩:∃b,decide (r4.pos < n)=b:=⟨_,rfl⟩
  have CH:=And.intro c12 fun(x:RP r n)=>And.intro (sk km f0) (And.intro (sk dx f1) (And.intro (sk bU f2) (And.intro (sk bp (decide_eq_true k3)) (And.intro (q (R:=[]) [] x.2 (bY (E3 x.1)) n84) fun(y:RP r2 n)=>And.intro (q (R:=[⟨124,.aj (Mi.cells ⟨r2.val,0,0⟩)⟩]) [] y.2 (bY (E4 x.1 y.1)) m1) fun(z:RP r3 n)=>And.intro (q (R:=[⟨124,.aj (Mi.cells ⟨r2.val,(r3.val:Int),0⟩)⟩]) [] z.2 (bY (E5 x.1 y.1 z.1)) m2) fun(u:RP r4 n)=>
   And.intro (lq (cells:=Mi.cells ⟨r2.val,(r3.val:Int),(r4.val:Int)⟩) (size:=3) (B:=bytesOf 124) (by kernel_rfl) (by kernel_rfl) h.vk.2.2.2.2 mw.2.2.2.2)
   (Nu h hb u.2 (bS (E5 x.1 y.1 z.1) u.1) fun e=>(show LW g gc gd A n c T d [] (zM g gc gd A n c r4.pos d 3 4 5 6 10 cf.br ((dj cf).set 4 Sx.al++[⟨124,.aj (Mi.cells ⟨r2.val,(r3.val:Int),(r4.val:Int)⟩)⟩,⟨124,.aj (Mi.cells ⟨r2.val,(r3.val:Int),(r4.val:Int)⟩)⟩,⟨124,.own 3 (cf.aa.length+1) (cf.ci++Mi.cells ⟨r2.val,(r3.val:Int),(r4.val:Int)⟩)⟩]))from
    ⟨_,_,3,4,5,6,10,e,u.2,rfl,rfl,rfl,rfl,rfl,rfl,rfl,rfl,congrArg some (by simp[CF.ci])⟩))))))
  refine lf h ((12,.an (eo 0 g A n c r ab))::(84,.an (eo 0 g A n c r2 ab))::(87,.an (eo 0 g A n c r3 pn))::(90,.an (eo 0 g A n c r4 pn))::(MK false false false true false false++Ed r4.pos b)) [] (by kernel_rfl) Tryz.func131 rfl (Nat.le_of_ble_eq_true rfl) ?_
  cases b<;>exact Eq.mp (by kernel_rfl) CH
 have f3:=decide_eq_false k3
 by_cases k4:r.val=gi
 ·rw[show zr r.val d=d by unfold zr;rw[k4];rfl]
  have E3:=fun hr=>cz (nF ws r.pos) (key (nF ws r.pos) _ (by unfold fJ;rw[if_neg k0,if_neg k1,if_neg k2,if_neg k3,if_pos k4]) hr)
  have n110:=fun W (hL:dX W g A n c r.pos ws)=>Ka hL
  generalize nF ws r.pos=r2 at E3 n110
  obtain⟨b,hb⟩:∃b,decide (r2.pos < n)=b:=⟨_,rfl⟩
  have CH:=And.intro c12 fun(x:RP r n)=>And.intro (sk km f0) (And.intro (sk dx f1) (And.intro (sk bU f2) (And.intro (sk bp f3) (And.intro (sk gi (decide_eq_true k4)) (And.intro (q (R:=[]) [] x.2 (bY (E3 x.1)) n110) (And.intro (fun(y:RP r2 n)=>
   And.intro (lq (cells:=r2.val.cells) (size:=49) (B:=bytesOf 81) (by kernel_rfl) (by kernel_rfl) h.vk.2.2.1 mw.2.2.1)
   (Nu h hb y.2 (bS (E3 x.1) y.1) fun e=>(show LW g gc gd A n c T d [] (zM g gc gd A n c r2.pos d 3 4 9 6 7 cf.br ((dj cf).set 2 Sx.al++[⟨81,.aj r2.val.cells⟩,⟨81,.own 49 (cf.rules.length+1) (cf.cl++r2.val.cells)⟩]))from
    ⟨_,_,3,4,9,6,7,e,y.2,rfl,rfl,rfl,rfl,rfl,rfl,congrArg some (by simp[CF.cl]),rfl,rfl⟩))) fun(_:¬RP r2 n)=>trivial))))))
  refine lf h ((12,.an (eo 0 g A n c r ab))::(110,.an (eo 0 g A n c r2 OY))::(MK false false false false true false++Ed r2.pos b)) [] (by kernel_rfl) Tryz.func131 rfl (Nat.le_of_ble_eq_true rfl) ?_
  cases b<;>exact Eq.mp (by kernel_rfl) CH
 have f4:=decide_eq_false k4
 by_cases k5:r.val=bD
 ·rw[show zr r.val d=d+1 by unfold zr;rw[if_pos k5]]
  have hdle:=h.O3
  have E3:=fun hr=>cz (ax (decide (d=0)) 200 () r.pos) (key (ax (decide (d=0)) 200 () r.pos) _ (by unfold fJ;rw[if_neg k0,if_neg k1,if_neg k2,if_neg k3,if_neg k4,if_pos k5]) hr)
  have hd0:Value.bool (((d+1:Nat):Int)==1)=.bool (decide (d=0)):=by
   congr 1
   by_cases h0:d=0
   ·rw[h0];rfl
   ·rw[decide_eq_false h0,beq_eq_false_iff_ne];omega
  generalize decide (d=0)=d0 at E3 hd0
  have n127:=fun W (hL:dX W g A n c r.pos ws)=>gD d0 200 () hL
  generalize ax d0 200 () r.pos=r1 at E3 n127
  have E4:=fun hr h2=>cz (oE false ws r1.pos) ((bS (E3 hr) h2).trans (Out.bind_assoc (oE false ws r1.pos) _ _))
  have n131:=fun W (hL:dX W g A n c r1.pos ws)=>uT false hL
  generalize oE false ws r1.pos=r2 at E4 n131
  obtain⟨b,hb⟩:∃b,decide (r2.pos < n)=b:=⟨_,rfl⟩
  have CH:=And.intro c12 fun(x:RP r n)=>And.intro (sk km f0) (And.intro (sk dx f1) (And.intro (sk bU f2) (And.intro (sk bp f3) (And.intro (sk gi f4) (And.intro (sk bD (decide_eq_true k5)) (And.intro (show Value.int .i64 (IntKind.i64.wrap ((d:Int)+1))=.int .i64 ((d+1:Nat):Int)from iw (by rw[gE (by omega) (by omega)];rfl)) (And.intro hd0
   (And.intro (fw (T:=T) 0 (O2 g gc gd A n c cf (d+1) r.pos (dj cf++[])) [.bool d0,.int .i64 200] h.qX x.2 (bY (E3 x.1)) rfl n127) fun(y:RP r1 n)=>And.intro (fw (T:=T) 0 (O2 g gc gd A n c cf (d+1) r1.pos (dj cf++[])) [.bool false] h.qX y.2 (bY (E4 x.1 y.1)) rfl n131) fun(z:RP r2 n)=>
   (Nu h hb z.2 (bS (E4 x.1 y.1) z.1) fun e=>(show LW g gc gd A n c T (d+1) [] (zM g gc gd A n c r2.pos (d+1) 3 4 5 6 7 r2.val.1 (dj cf++[]))from⟨_,_,3,4,5,6,7,e,z.2,rfl,rfl,rfl,rfl,rfl,rfl,rfl,rfl,rfl⟩))))))))))
  refine lf h ((12,.an (eo 0 g A n c r ab))::(120,.is (.int .i64 ((d+1:Nat):Int)))::(126,.is (.bool d0))::(127,.an (eo 0 g A n c r1 (fun _=>.tuple #[])))::(131,.an (eo 0 g A n c r2 q5))::(MK false false false false false true++Ed r2.pos b)) [] (by kernel_rfl) Tryz.func131 rfl (Nat.le_of_ble_eq_true rfl) ?_
  cases b<;>exact Eq.mp (by kernel_rfl) CH
 ·rw[show zr r.val d=d by unfold zr;rw[if_neg k5]]
  have fin:r.okB=true→T=.no 200 r.pos:=fun hr=>by
   rw[E2 hr]
   unfold fJ
   rw[if_neg k0,if_neg k1,if_neg k2,if_neg k3,if_neg k4,if_neg k5]
   rfl
  have CH:=And.intro c12 fun(x:RP r n)=>Sx.t4 (sk km f0) (sk dx f1) (sk bU f2) (sk bp f3) (Sx.t2 (sk gi f4) (sk bD (decide_eq_false k5)) (And.intro (fun W (hW:ag (yU g gc gd s) w W) (_:aq W g 154 (dr A n c r.pos))=>je (b:=⟨w,yU g gc gd s,js T w⟩) (vs:=[.pointer (some ⟨g,0,none⟩),.int .i64 200,.int .i64 (r.pos:Int)]) (ps:=[(0,0)]) ((ow (.pointer (some ⟨g,0,none⟩)) 200 (r.pos:Int) W).mono fun _ _ ⟨ch,he,hf,hc⟩=>⟨ch,he,(show js T w _ _ from⟨200,r.pos,fin x.1,hf.up hW.size⟩),hc⟩)) trivial))
  refine lf h ((12,.an (eo 0 g A n c r ab))::(18,.nL)::MK false false false false false false) [] (by kernel_rfl) Tryz.func131 rfl (Nat.le_of_ble_eq_true rfl) ?_
  exact Eq.mp (by kernel_rfl) CH
open Go.RowKit Go.Lib Go.Sort
theorem KJ(l:List UInt8)(a b:Nat):(⟨l.toArray⟩:ByteArray).extract a b=⟨((l.take b).drop a).toArray⟩:=by
 apply ByteArray.ext
 simp[List.extract_eq_take_drop,List.drop_take]
def dd(s:List UInt8):Int:=Lib.index s [58,58]
open Go Go.RowKit Go.Lib Go.Sort
theorem pc{p:Nat→Prop}(h:∃m,p m):∃m,p m∧∀m',p m'→m≤m':=by
 obtain⟨m,hm⟩:=h
 induction m using Nat.strongRecOn with
 |_ m ih=>
  by_cases hx:∃m',m' < m∧p m'
  ·obtain⟨m',h1,h2⟩:=hx
   exact ih m' h1 h2
  ·exact⟨m,hm,fun m' h'=>Nat.le_of_not_lt fun hlt=>hx ⟨m',hlt,h'⟩⟩
theorem rC{P:Program}{Q:Exit→Act→World→Prop}{a:Act}{w:World}{c rest:Code}(l:Nat)(J:Nat→Act→World→Prop)(hf:findLabel c l=some rest)
  (first:c.wp P (Exit.jump l (fun a w=>∃m,J m a w) Q) a w)
  (pass:∀m a w,J m a w→rest.wp P (Exit.jump l (fun a' w'=>∃m',m' < m∧J m' a' w') Q) a w):(Code.scope c).wp P Q a w:=by
 classical
 let μ:Act→World→Nat:=fun a w=>if h:∃m,J m a w then(pc h).choose else 0
 have hμ:∀a w m,J m a w→μ a w≤m∧J (μ a w) a w:=fun a w m hm=>by
  have h:∃m,J m a w:=⟨m,hm⟩
  have e:μ a w=(pc h).choose:=dif_pos h
  rw[e]
  exact⟨(pc h).choose_spec.2 m hm,(pc h).choose_spec.1⟩
 refine wp_scope_jumps l (fun a w=>∃m,J m a w) μ hf first fun a w ⟨m,hm⟩=>?_
 refine Code.wp_mono (fun e a' w' hq=>?_) (pass (μ a w) a w (hμ a w m hm).2)
 cases e with
 |goto l'=>
  obtain⟨he,m',hlt,hj⟩:=hq
  exact⟨he,⟨m',hj⟩,Nat.lt_of_le_of_lt (hμ a' w' m' hj).1 hlt⟩
 |normal=>exact hq
 |exit id=>exact hq
 |ret=>exact hq
 |panic ch=>exact hq
 |outgrown=>exact hq
namespace Sx
def yM{κ:Type}(l:Nat)(R:κ→Prop)(fr:κ→List (Nat×SV))(mem:κ→List Row)(M:Prop)(k:κ)(K:Exit→St→Prop):Exit→St→Prop
 |.goto l',st=>match Nat.beq l' l with
  |true=>M∧R k∧xo st (fr k) (mem k)
  |false=>ct st
 |e,st=>K e st
def Ko(c:Code)(l:Nat):Code:=(findLabel c l).getD .skip
def BZ:Code→Code
 |.seq _ (.scope c)=>c
 |_=>.skip
def ML:Code→Code
 |.seq a _=>a
 |_=>.skip
section
variable{P:Program}{w0:bb}{ds:List Deferred}{n:Nat}
theorem uV{κ:Type}{l:Nat}{R:κ→Prop}{fr:κ→List (Nat×SV)}{mem:κ→List Row}{M:Prop}{k:κ}{K:Exit→St→Prop}{e:Exit}{a:Act}{w:World}{J:Act→World→Prop}
  (h:lift ds w0 n (yM l R fr mem M k K) e a w) (hJ:∀β,M→R k→Hd ds w0 n β ⟨fr k,mem k⟩ a w→J a w):Exit.jump l J (lift ds w0 n K) e a w:=by
 cases e with
 |goto l'=>
  obtain⟨β,st,hk,h'⟩:=h
  simp only[yM]at hk
  split at hk
  ·rename_i hb
   obtain⟨hm,hr,hs⟩:=hk
   obtain⟨β2,h2⟩:=h'.same hs
   exact⟨Nat.eq_of_beq_eq_true hb,hJ β2 hm hr h2⟩
  ·exact nomatch hk
 |normal=>exact h
 |exit id=>exact h
 |ret=>exact h
 |panic ch=>exact h
 |outgrown=>exact h
theorem Bu{w:World}{f:FuncId}{fn:Func}{a0 c rest:Code}{S:List Nat}{PP:List PanicEntry→World→Prop}{β:Env}{mem:List Row}{args:List SV}{R:List SV→List Row→Prop}(hF:Rows ⟨w,S,PP⟩ β w mem)
  {κ:Type} (l:Nat) (k0:κ) (Rk:κ→Prop) (frk:κ→List (Nat×SV)) (memk:κ→List Row) (next:κ→κ) (μ:κ→Nat)
  (H0 H:List (Nat×Hint)) (L:List Loop) (hm:P.follows .mixedOrders=true) (hf:P.funcs[f]?=some fn) (hb:fn.body=some (.seq a0 (.scope c))) (hl:findLabel c l=some rest) (hn:args.length≤fn.ntmps) (hw:(eR (fun r=>lj mem.length r.cs) mem&&eR (xE mem.length) args)=true)
  (pass:∀k,Rk k→∃H' L',jk P fn.ntmps ⟨w,S,PP⟩ rest H' L' ⟨frk k,memk k⟩ (yM l Rk frk memk (μ (next k) < μ k) (next k) (bR P fn R)))
  (first:jk P fn.ntmps ⟨w,S,PP⟩ a0 H0 [] ⟨lB 0 args,mem⟩ (fun e st=>match e with | .normal=>jk P fn.ntmps ⟨w,S,PP⟩ c H L st (yM l Rk frk memk True k0 (bR P fn R))|_=>False)) :
  Calls P f (args.map (SV.den β)).toArray w (cd ⟨w,S,PP⟩ R):=by
 rw[Bool.and_eq_true]at hw
 have start:Hd [] ⟨w,S,PP⟩ fn.ntmps β ⟨lB 0 args,mem⟩ { tmps:=(args.map (SV.den β)).toArray++Array.replicate (fn.ntmps - (args.map (SV.den β)).toArray.size) undef,defers:=[] } w:=by
  refine⟨by simp;omega,rfl,fun t sv ht=>?_,hF.held,hF.new,hF.inj,hF.aF,fun t sv ht=>?_,fun i r hi=>?_⟩
  ·obtain⟨_,hv⟩:=fQ ht
   have hlt:t < args.length:=(List.getElem?_eq_some_iff.1 hv).1
   rw[Array.getElem?_append_left (by simpa using hlt)]
   simp only[Nat.sub_zero]at hv
   simp[hv]
  ·obtain⟨_,hv⟩:=fQ ht
   exact mM (aQ hw.2 sv (List.mem_of_getElem? hv))
  ·exact jm (aQ hw.1 r (List.mem_of_getElem? hi))
 refine calls_of_wp hf hb ?_
 refine wp_seq (Code.wp_mono (fun e a' w' hq=>?_) (ir hm a0 H0 [] _ _ β _ w start first))
 cases e with
 |normal=>
  obtain⟨β',st',hk,h'⟩:=hq
  have main:(Code.scope c).wp P (lift [] ⟨w,S,PP⟩ fn.ntmps (bR P fn R)) a' w':=by
   refine rC l (fun m a w'=>∃β k,μ k=m∧Rk k∧Hd [] ⟨w,S,PP⟩ fn.ntmps β ⟨frk k,memk k⟩ a w') hl ?_ ?_
   ·exact Code.wp_mono (fun e a2 w2 hq=>uV hq fun β2 _ hr h2=>⟨μ k0,β2,k0,rfl,hr,h2⟩) (ir hm c H L st' _ β' a' w' h' hk)
   ·rintro m a2 w2 ⟨β2,k,rfl,hr,h2⟩
    obtain⟨H',L',hp⟩:=pass k hr
    exact Code.wp_mono (fun e a3 w3 hq=>uV hq fun β3 hlt hr3 h3=>⟨μ (next k),hlt,β3,next k,rfl,hr3,h3⟩) (ir hm rest H' L' _ _ β2 a2 w2 h2 hp)
  exact Code.wp_mono (fun e a w hq=>vw hq) main
 |exit id=>obtain⟨_,_,hk,_⟩:=hq;exact hk.elim
 |goto l=>obtain⟨_,_,hk,_⟩:=hq;exact hk.elim
 |ret=>obtain⟨_,_,hk,_⟩:=hq;exact hk.elim
 |panic ch=>exact⟨hq.1,.inr ⟨ch,rfl,hq.2⟩⟩
 |outgrown=>obtain⟨_,_,hk,_⟩:=hq;exact hk.elim
end
end Sx
end Go.Proofs.YtnncigmpcdehnaaGreatDoor
