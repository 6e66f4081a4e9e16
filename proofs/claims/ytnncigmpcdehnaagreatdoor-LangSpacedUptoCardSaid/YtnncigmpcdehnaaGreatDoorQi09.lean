import Derived.Test.YtnncigmpcdehnaaGreatDoorQi08
import Derived.LaidEql
import Derived.Stop.Asserts
import Derived.RowKitTokens
import Derived.Lib.AppendStr
import Derived.Lib.UnsafeStr
import Derived.Lib.Builder
import Derived.StillTailTactics
open List renaming mem_singleton→VE,mem_filterMap→VF,mem_cons→VG,length_append→VH,getElem?_eq_some_iff→VJ,mem_cons_of_mem→VK,length_cons→VN,eq_nil_of_length_eq_zero→VQ,nodup_cons→VS,length_take→VV,length_nil→VW,length_pos_iff→VZ,flatMap_cons→Wd,drop_append_of_le_length→We,nil_append→Wg,append_nil→Wh,getElem?_eq_getElem→Wm,getElem?_map→Ws,append_assoc→Wt,not_mem_nil→Wu,mem_append→Ww,drop_zero→Wz,map_cons→WA
open Nat renaming le_refl→VI,le_trans→VL,add_zero→VU,zero_le→Wa,mul_one→Wj,add_mul→Wk,lt_of_lt_of_le→Wr,beq→Wy
open Go.Result renaming andThen→VM
open Go.Value renaming slice→VO,bool→VP,int→VR,string→Wc,ownBlock→Wi,tuple→Wp
open Go.Sem renaming run_bind→VT
open Go.IntKind renaming i64→VX,u8→Wq
open And renaming intro→VY
open Go.Instr renaming indexAt→Wb,makeFunc→Wx,loadAt→WB
open Option renaming map_eq_some_iff→Wl,some→Wn
open Eq renaming mp→Wo
namespace Go.Proofs.YtnncigmpcdehnaaGreatDoor
set_option maxRecDepth 100000
open Go.RowKit Go.Lib Go.Sort _root_.Go.Proofs.Tryz
set_option maxRecDepth 100000
theorem pz{t:Nat}{sv:Sx.SV}:∀{fr:List (Nat×Sx.SV)},Sx.look fr t=some sv→(t,sv)∈fr
 | [],h=>by cases h
 | (k,v)::r,h=>by
  rw[Sx.eQ]at h;split at h
  ·rename_i hk
   subst hk;rw[Sx.bS h];simp
  ·exact VK _ (pz h)
theorem DK(w:World)(l:Bs)(hl:l.length≤1100000):Calls prog 90 #[ab l,.bool true] w (Sx.eC w (.sl 9 1 (aj true l).length ((aj true l).map ab))):=
 (Mv w l true hl).mono fun _ _ ⟨_,_,he,hO,hA,hC⟩=>⟨_,he,hO,fun k hk=>hA k ((fb _ _ _).symm.trans hk),hC⟩
theorem OI(ws:List Bs)(d:Nat):AV (aP ws 0).val d=dN ws d:=by
 unfold AV dN aP;cases h:ws[0]? with
 |none=>rfl
 |some x=>
  show(if x=bj then d+1 else d)=_;by_cases hx:x=bj
  ·rw[if_pos hx,if_pos (by rw[hx])]
  ·rw[if_neg hx,if_neg (fun hh=>hx (Wn.inj hh))]
theorem tw{w w4:World}{S:List Nat}{p:Nat}(v:Value)(hb:aq w4 p 48 [.nilIface])(hc:ah S w w4)(hp:w.heap.size≤p):(w4.setCell ⟨p,0,none⟩ v).cell? ⟨p,0,none⟩=some v∧ah [p] w4 (w4.setCell ⟨p,0,none⟩ v)∧ah S w (w4.setCell ⟨p,0,none⟩ v):=by
 have h2:ah [p] w4 (w4.setCell ⟨p,0,none⟩ v):=(ah.refl [p] w4).setCell (.inl (by simp)) v;refine⟨(hb.oW 0 v).cell_of rfl,h2,((hc.mono (S':=p::S) fun k hk=>.inl (VK p hk)).trans (h2.mono fun k hk=>.inl (by rw[VE.1 hk];simp))).mono fun k hk=>?_⟩;rcases VG.1 hk with rfl|hk
 ·exact .inr hp
 ·exact .inl hk
def TH(l:Bs)(gc gd:Nat)(cf:CF)(d:Nat)(s:fN)(w w':World):Prop:=∃cf' i s',aq w' w.heap.size 48 [.nilIface]∧cY (aj true l) cf d=.ok cf' i∧oL w' gc cf' s'∧aq w' gd 3 [.int .i64 (dN (aj true l) d:Nat)]∧(cA gc gd s').Nodup∧(∀k∈cA gc gd s',k∈cA gc gd s∨w.heap.size < k)∧ah (cA gc gd s) w w'
def US(l:Bs)(gc gd:Nat)(cf:CF)(d:Nat)(s:fN)(w:World)(N:Nat)(w':World):Prop:=∃code p:Nat,aq w' w.heap.size 48 [.nilIface]∧cY (aj true l) cf d=.no code p∧w.heap.size < N∧aq w' N 105 [.int .i64 (code:Int),.int .i64 (p:Int)]∧ah (cA gc gd s) w w'
set_option maxHeartbeats 4000000 in
theorem JB(l:Bs)(hl:l.length≤1100000){w:World}{gc gd:Nat}{cf:CF}{d:Nat}{s:fN}(h:TK w gc gd cf d s)(hne:aj true l≠[]) :
  Calls prog 64 #[ab l,.pointer (some ⟨gc,0,none⟩),.pointer (some ⟨gd,0,none⟩)] w (yL l gc gd cf d s w):=by
 obtain⟨t,ht⟩:∃t:Value,t=ab l:=⟨_,rfl⟩;have HT:Hid (t=ab l):=hid ht;rw[←ht];clear ht;have hmf:∀(fn:Fn) (first cap:Array Value) (w:World),(Wx fn first cap).run prog w=.ok (.func fn first cap) w:=fun _ _ _ _=>rfl;have hlt:=h.at_.lt h.bd;have HH:=hid h;clear h;obtain⟨n,hn⟩:∃n,n=(aj true l).length:=⟨_,rfl⟩;obtain⟨xs,hxs⟩:∃xs,xs=(aj true l).map ab:=⟨_,rfl⟩;have HW:Hid (∀W,Calls prog 90 #[t,.bool true] W (Sx.eC W (.sl 9 1 n xs))):=hid fun W=>by rw[HT.out,hn,hxs];exact DK W l hl
 have HN:=hid hn;have HX:=hid hxs;clear hn hxs;go_enter_defers func64,ntmps64
 go_upto_region 3 with(go_at_call 90;refine(HW.out _).mono ?_;intro e w2 hp;obtain⟨sv,he,hacc⟩:=hp;obtain⟨A,cc,hsv,_,_⟩:=hacc.own.form;subst hsv;subst he)
 rename_i K1 hK1 K2 hK2;have h:=HH.out;obtain⟨w1,hw1⟩:∃w1,w1=w.alloc (.cells #[.nilIface] 48):=⟨_,rfl⟩;have C1:ah [] w w1:=by rw[hw1];exact(ah.refl [] w).alloc _
 have B0:aq w1 w.heap.size 48 [.nilIface]:=by rw[hw1];exact aq.new w 48 #[.nilIface]
 have z1:w1.heap.size=w.heap.size+1:=by rw[hw1];simp
 rw[←hw1]at hacc;obtain⟨w3,hw3⟩:∃w3,w3=w2.alloc (.cells #[.slice A n cc,.int .i64 0] 154):=⟨_,rfl⟩;have C3:ah [] w2 w3:=by rw[hw3];exact(ah.refl [] w2).alloc _
 have B3:aq w3 w2.heap.size 154 [.slice A n cc,.int .i64 0]:=by rw[hw3];exact aq.new w2 154 #[.slice A n cc,.int .i64 0]
 rw[←hw3];have C13:=hacc.aD.trans C3;have C03:=C1.trans C13;have hO3:=hacc.own.aD C3 (by simp);have z2:=hacc.aD.size;have hat:=h.at_.aD (gd:=gd) C03 (by simp);have hbd:=h.bd.aD C03 (by simp);have hA:∀k,A.map (·.block)=some k→w1.heap.size≤k∧k < w2.heap.size:=fun k hk=>⟨hacc.new k ((fb _ _ _).trans hk),hacc.own.lt k ((fb _ _ _).trans hk)⟩;have hlan:=h.vk.cW C03;have hwc:=yR true l;have hnl:=HN.out;have hpos:0 < n:=by rw[hnl];exact VZ.2 hne
 have hI:TZ w3 w2.heap.size gc gd A n cc 0 (aj true l) cf d s:=by
  refine⟨⟨B3,Mx (by rw[←HX.out];exact hO3) hnl.symm (ah.refl _ _) fun k hk=>?_,Wa _,by omega,hlan,fun k hk=>?_,by rw[gM];simp,fun x hx=>by have:=hwc.2 x hx;omega⟩,hat,hbd,?_,h.nQ,h.TU⟩
  ·rw[gM,VG,not_or]
   have h1:=hA k hk;exact⟨by omega,fun hr=>by have:=hlt k hr;omega⟩
  ·rw[gM]at hk
   rcases VG.1 hk with rfl|hk
   ·have:=h.vk.low;omega
   ·exact h.s9 k hk
  ·rw[gM,VS]
   exact⟨fun hr=>by have:=hlt _ hr;omega,h.nd⟩
 have hc0:w3.cell? ⟨w2.heap.size,0,none⟩=some (.slice A n cc):=B3.cell_of rfl;have hgt:decide ((0:Int) < (n:Int))=true:=decide_eq_true (by omega);have hB3:=B0.aD C13 (by simp);have hp0:w.heap.size∉Aw w2.heap.size gc gd s:=by rw[gM,VG,not_or];exact⟨by omega,fun hr=>by have:=hlt _ hr;omega⟩
 have HC:=hid ((QX hI).mono fun e w4 (hp:qI w2.heap.size gc gd A n cc (pG (aj true l) 0 cf d) _ _ w3 e w4)=>(show(e=.returned (.tuple #[])∧w4.cell? ⟨w.heap.size,0,none⟩=some .nilIface∧w4.frozen? ⟨w.heap.size,0,none⟩=false∧Hid (TH l gc gd cf d s w w4))∨∃N,e=.panicked [{ v:=.iface 103 (.pointer (some ⟨N,0,none⟩)),recovered:=false }]∧w4.cell? ⟨w.heap.size,0,none⟩=some .nilIface∧w4.frozen? ⟨w.heap.size,0,none⟩=false∧Hid (US l gc gd cf d s w N w4)from by
  have hline:cY (aj true l) cf d=pG (aj true l) 0 cf d:=by
   unfold cY;split
   ·rename_i h0;exact absurd h0 hne
   ·rfl
  have aD:∀{w4},ah (Aw w2.heap.size gc gd s) w3 w4→ah (cA gc gd s) w w4:=fun {w4} hc=>((C03.mono (by simp)).trans hc).mono fun k hk=>by
   rw[gM]at hk;rcases VG.1 hk with rfl|hk
   ·exact .inr (by omega)
   ·exact .inl hk
  rcases hp with⟨cf',i',s',hT,_,he,_,hcf,hb',hn',hf',hc⟩ | ⟨code,q,chain,hT,he,hf,hc⟩
  ·have hB4:=hB3.aD hc hp0
   rw[OI]at hb';rw[gM]at hn';refine .inl ⟨he,hB4.cell_of rfl,hB4.frozen 0,hid ⟨cf',i',s',hB4,hline.trans hT,hcf,hb',(VS.1 hn').2,fun k hk=>?_,aD hc⟩⟩;rcases hf' k (VK _ hk)with hx|hx
   ·rw[gM]at hx
    rcases VG.1 hx with rfl|hx
    ·exact .inr (by omega)
    ·exact .inl hx
   ·have:=C3.size;exact .inr (by omega)
  ·have hB4:=hB3.aD hc hp0
   obtain⟨N,rfl,h1,h2⟩:=hf;exact .inr ⟨N,he,hB4.cell_of rfl,hB4.frozen 0,hid ⟨code,q,hB4,hline.trans hT,by have:=C3.size;omega,h2,aD hc⟩⟩))
 have HLT:=hid hlt;clear hI hat hbd hO3 hA C1 C3 C13 C03 B0 B3 hlan hwc hnl h hlt z1 z2 hacc hw1 hw3 hne hB3 hp0;go_wp2_with (go_at_call 131;refine HC.out.mono ?_;rintro e w4 (⟨rfl,hcell,hfz,HO⟩ | ⟨N,rfl,hcell,hfz,HO⟩))
 ·have HL:=HLT.out
  have ho:=HO.out;refine leaves_cons (f:=130) (args:=#[.pointer (some ⟨w.heap.size,0,none⟩)]) (by simp) (by simp[go_sem]) ?_;refine(Be ⟨w.heap.size,0,none⟩ _).mono ?_;rintro e u' w'' ⟨rfl,rfl,rfl⟩;obtain⟨cf',i',s',hB4,hT,hcf,hb',hn',hf',hc⟩:=ho;obtain⟨h1,h2,h3⟩:=tw .nilIface hB4 hc (VI _);simp[Leaves,settle,results,results64,go_sem,h1];have hp:w.heap.size∉cA gc gd s':=fun hk=>by
   rcases hf' _ hk with hx|hx
   ·have:=HL _ hx;omega
   ·omega
  refine .inl ⟨cf',i',s',hT,rfl,hcf.aD (gd:=gd) h2 (fun k hk he=>hp (by rw[←VE.1 he];exact hk)),hb'.aD h2 (fun he=>hp (by rw[←VE.1 he];exact dK.2 (.inr (.inl rfl)))),hn',fun k hk=>?_,h3⟩;rcases hf' k hk with hx|hx
  ·exact .inl hx
  ·exact .inr (by omega)
 ·have ho:=HO.out
  refine leaves_cons (f:=130) (args:=#[.pointer (some ⟨w.heap.size,0,none⟩)]) (by simp) (by simp[go_sem]) ?_;refine(Hm ⟨w.heap.size,0,none⟩ N [] _ hcell hfz).mono ?_;rintro e u' w'' ⟨rfl,rfl,rfl⟩;obtain⟨code,q,hB4,hT,hN,hb,hc⟩:=ho;obtain⟨h1,h2,h3⟩:=tw (.iface 103 (.pointer (some ⟨N,0,none⟩))) hB4 hc (VI _);simp[Leaves,settle,results,results64,go_sem,h1];exact .inr ⟨code,q,N,hT,rfl,by omega,hb.aD h2 (fun he=>by have:=VE.1 he;omega),h3⟩
set_option maxHeartbeats 4000000 in
theorem JC(l:Bs)(hl:l.length≤1100000){w:World}{gc gd:Nat}{cf:CF}{d:Nat}{s:fN}(h:TK w gc gd cf d s)(hne:aj true l=[]) :
  Calls prog 64 #[ab l,.pointer (some ⟨gc,0,none⟩),.pointer (some ⟨gd,0,none⟩)] w (yL l gc gd cf d s w):=by
 obtain⟨t,ht⟩:∃t:Value,t=ab l:=⟨_,rfl⟩;have HT:Hid (t=ab l):=hid ht;rw[←ht];clear ht;have hmf:∀(fn:Fn) (first cap:Array Value) (w:World),(Wx fn first cap).run prog w=.ok (.func fn first cap) w:=fun _ _ _ _=>rfl;have hlt:=h.at_.lt h.bd;have HH:=hid h;clear h;have HW:Hid (∀W,Calls prog 90 #[t,.bool true] W (Sx.eC W (.sl 9 1 0 []))):=hid fun W=>by have:=DK W l hl;rw[hne]at this;rw[HT.out];exact this
 go_enter_defers func64,ntmps64
 go_upto_region 3 with(go_at_call 90;refine(HW.out _).mono ?_;intro e w2 hp;obtain⟨sv,he,hacc⟩:=hp;obtain⟨A,cc,hsv,_,_⟩:=hacc.own.form;subst hsv;subst he)
 rename_i K1 hK1 K2 hK2;have h:=HH.out;obtain⟨w1,hw1⟩:∃w1,w1=w.alloc (.cells #[.nilIface] 48):=⟨_,rfl⟩;have C1:ah [] w w1:=by rw[hw1];exact(ah.refl [] w).alloc _
 have B0:aq w1 w.heap.size 48 [.nilIface]:=by rw[hw1];exact aq.new w 48 #[.nilIface]
 rw[←hw1]at hacc;obtain⟨w3,hw3⟩:∃w3,w3=w2.alloc (.cells #[.slice A 0 cc,.int .i64 0] 154):=⟨_,rfl⟩;have C3:ah [] w2 w3:=by rw[hw3];exact(ah.refl [] w2).alloc _
 have B3:aq w3 w2.heap.size 154 [.slice A 0 cc,.int .i64 0]:=by rw[hw3];exact aq.new w2 154 #[.slice A 0 cc,.int .i64 0]
 rw[←hw3];have C13:=hacc.aD.trans C3;have C03:=C1.trans C13;have hB3:=B0.aD C13 (by simp);have HO:=hid (show TH l gc gd cf d s w w3 from⟨cf,0,s,hB3,by rw[hne];rfl,h.at_.aD (gd:=gd) C03 (by simp),by rw[hne];exact h.bd.aD C03 (by simp),h.nd,fun k hk=>.inl hk,C03.mono (by simp)⟩);have hc0:w3.cell? ⟨w2.heap.size,0,none⟩=some (.slice A 0 cc):=B3.cell_of rfl;have hcell:w3.cell? ⟨w.heap.size,0,none⟩=some .nilIface:=hB3.cell_of rfl;have hfz:w3.frozen? ⟨w.heap.size,0,none⟩=false:=hB3.frozen 0;have HLT:=hid hlt;clear C1 C3 C13 C03 B0 B3 h hlt hacc hw1 hw3 hB3 hne;go_wp2
 have HL:=HLT.out;have ho:=HO.out;refine leaves_cons (f:=130) (args:=#[.pointer (some ⟨w.heap.size,0,none⟩)]) (by simp) (by simp[go_sem]) ?_;refine(Be ⟨w.heap.size,0,none⟩ _).mono ?_;rintro e u' w'' ⟨rfl,rfl,rfl⟩;obtain⟨cf',i',s',hB4,hT,hcf,hb',hn',hf',hc⟩:=ho;obtain⟨h1,h2,h3⟩:=tw .nilIface hB4 hc (VI _);simp[Leaves,settle,results,results64,go_sem,h1];have hp:w.heap.size∉cA gc gd s':=fun hk=>by
  rcases hf' _ hk with hx|hx
  ·have:=HL _ hx;omega
  ·omega
 refine .inl ⟨cf',i',s',hT,rfl,hcf.aD (gd:=gd) h2 (fun k hk he=>hp (by rw[←VE.1 he];exact hk)),hb'.aD h2 (fun he=>hp (by rw[←VE.1 he];exact dK.2 (.inr (.inl rfl)))),hn',fun k hk=>?_,h3⟩;rcases hf' k hk with hx|hx
 ·exact .inl hx
 ·exact .inr (by omega)
theorem PE(l:Bs)(hl:l.length≤1100000){w:World}{gc gd:Nat}{cf:CF}{d:Nat}{s:fN}(h:TK w gc gd cf d s) :
  Calls prog 64 #[ab l,(pt gc 0),(pt gd 0)] w (yL l gc gd cf d s w):=by
 by_cases hne:aj true l=[]
 ·exact JC l hl h hne
 ·exact JB l hl h hne
set_option maxRecDepth 100000
open Go.RowKit Go.Extern.Stop Go.Stop Go.Extern _root_.Go.Proofs.Tryz
theorem RD(t:Value)(w:World) :
  Calls prog 63 #[.nilIface,t] w fun e w'=>e=.returned (.bool false)∧w'=w:=by
 go_enter func63,ntmps63
 go_wp2
 go_ret
 exact⟨rfl,rfl⟩
theorem Bq(t:Addr)(w:World):(ReflectliteValue.unpack (.iface 111 (.pointer (some t)))).run prog w
  =.ok (.agg #[(pt 9 111),(pt (w.heap.size) 0),.int .u64 150]) (w.alloc (.cells #[.pointer (some t)] 111)):=by kernel_rfl
theorem Lw(a:Addr)(w:World):(ReflectliteValue.methodAny (ReflectliteValue.valueError "reflectlite.Value.Type" 0) (fun t _ _ _=>ReflectliteType.toType t) #[.agg #[(pt 9 111),.pointer (some a),.int .u64 150]]).run prog w
  =.ok (.iface 242 (.agg #[(pt 9 111)])) w:=by kernel_rfl
theorem yE(h:Value)(w:World):(Go.method 430 242 (.agg #[h]) "Kind").run prog w=.ok (262,h) w:=by kernel_rfl
theorem Ly(w:World):((ReflectliteType.abiMethod fun t=>(fun a:Nat=>VR Wq (a:Int)) <$> Rtype.kind t) #[(pt 9 111)]).run prog w=.ok (.int .u8 22) w:=by kernel_rfl
theorem Lz(w:World):((ReflectliteType.abiMethod fun t=>(fun a:Nat=>VR Wq (a:Int)) <$> Rtype.kind t) #[(pt 9 103)]).run prog w=.ok (.int .u8 22) w:=by kernel_rfl
theorem UT(z:Sem Value)(f:TypeId→Addr→Nat→Nat→Sem Value)(v:Value) :
  ReflectliteValue.method z f #[v]=(do match ←ReflectliteValue.parts v with|none=>z|some (t,a,fl)=>f t a fl (fl%32)):=rfl
theorem xn(a:Addr)(w:World):(ReflectliteValue.parts (.agg #[(pt 9 111),.pointer (some a),.int .u64 150])).run prog w=.ok (some (111,a,150)) w:=by kernel_rfl
theorem Hv(a p:Addr)(W:World)(ha:W.cell? a=some (.pointer (some p))) :
  (ReflectliteValue.method (ReflectliteValue.valueError "reflectlite.Value.IsNil" 0) ReflectliteValue.isNil #[.agg #[.pointer (some ⟨9,111,none⟩),.pointer (some a),.int .u64 150]]).run prog W=.ok (.bool false) W:=by
 rw[UT];simp only[VT,xn,VM];simp[ReflectliteValue.isNil,loadVar,isAgg,underlying,underlying111,ha,VM]
theorem yF(h:Value)(w:World):(Go.method 430 242 (.agg #[h]) "Elem").run prog w=.ok (275,.agg #[h]) w:=by kernel_rfl
theorem oH(h:Value)(w:World):(Go.method 430 242 (.agg #[h]) "Implements").run prog w=.ok (276,.agg #[h]) w:=by kernel_rfl
theorem mN(h:Value)(w:World):(Go.method 430 242 (.agg #[h]) "AssignableTo").run prog w=.ok (273,.agg #[h]) w:=by kernel_rfl
theorem LA(w:World):(ReflectliteType.method ReflectliteType.elem #[.agg #[(pt 9 111)]]).run prog w=.ok (.iface 242 (.agg #[(pt 9 103)])) w:=by kernel_rfl
theorem uS(w:World):(ReflectliteType.relation "Implements" ReflectliteType.implements_ #[.agg #[(pt 9 103)],.iface 242 (.agg #[(pt 9 48)])]).run prog w=.ok (.bool true) w:=by kernel_rfl
theorem Dw(v:Value)(w:World):(ReflectliteType.typeOf #[.iface 103 v]).run prog w=.ok (.iface 242 (.agg #[(pt 9 103)])) w:=by kernel_rfl
theorem uT(w:World):(ReflectliteType.relation "AssignableTo" ReflectliteType.assignableTo #[.agg #[(pt 9 103)],.iface 242 (.agg #[(pt 9 103)])]).run prog w=.ok (.bool true) w:=by kernel_rfl
theorem Bt(e:Addr)(w:World):(ReflectliteValue.unpack (.iface 103 (.pointer (some e)))).run prog w
  =.ok (.agg #[(pt 9 103),(pt (w.heap.size) 0),.int .u64 150]) (w.alloc (.cells #[.pointer (some e)] 103)):=by kernel_rfl
theorem Dy(w:World):(Rtype.elem? 111).run prog w=.ok (some 103) w:=by kernel_rfl
theorem RF(p:Addr)(w:World):(ReflectliteValue.mk 103 p ReflectliteValue.flagAddr).run prog w=.ok (.agg #[(pt 9 103),.pointer (some p),.int .u64 406]) w:=by kernel_rfl
theorem Hw(a p:Addr)(W:World)(ha:W.cell? a=some (.pointer (some p))) :
  (ReflectliteValue.method (ReflectliteValue.valueError "reflectlite.Value.Elem" 0) ReflectliteValue.elem #[.agg #[.pointer (some ⟨9,111,none⟩),.pointer (some a),.int .u64 150]]).run prog W
   =.ok (.agg #[.pointer (some ⟨9,103,none⟩),.pointer (some p),.int .u64 406]) W:=by
 rw[UT];simp only[VT,xn,VM];simp[ReflectliteValue.elem,loadVar,isAgg,underlying,underlying111,ha,VM,Dy,RF]
theorem Vm(v x:Value):ReflectliteValue.set #[v,x]=(do
  let (some (dst,a,fl),some (src,b,_)):=(←ReflectliteValue.parts v,←ReflectliteValue.parts x)
   |unsupported (.noEntry "extern/(internal/reflectlite.Value).Set.zeroValue")
  if fl / ReflectliteValue.flagAddr%2==0 then unsupported (.noEntry "extern/(internal/reflectlite.Value).Set.unaddressable")
  let val ←loadVar src b
  if ←Rtype.directlyAssignable dst src then storeVar dst a val
  else if ←Rtype.implements dst src then
   if(←Rtype.kind src)==20 then
    match val with
    |.nilIface=>unsupported (.noEntry "extern/reflectlite: a nil value of one interface type handed on as a value of another")
    |_=>storeVar dst a val
   else storeVar dst a (.iface src val)
  else panicString ("reflectlite.Set: value of type "++(←Rtype.spelt src)++ " is not assignable to type "++(←Rtype.spelt dst))
  pure (.tuple #[])):=rfl
theorem Dx(a:Addr)(w:World):(ReflectliteValue.parts (.agg #[(pt 9 103),.pointer (some a),.int .u64 406])).run prog w=.ok (some (103,a,406)) w:=by kernel_rfl
theorem Hu(a:Addr)(w:World):(ReflectliteValue.parts (.agg #[(pt 9 103),.pointer (some a),.int .u64 150])).run prog w=.ok (some (103,a,150)) w:=by kernel_rfl
theorem Dz(w:World):(Rtype.directlyAssignable 103 103).run prog w=.ok true w:=by kernel_rfl
theorem Pb(ta b e:Addr)(old:Value)(W:World)(hb:W.cell? b=some (.pointer (some e)))(ht:W.cell? ta=some old)(hf:W.frozen? ta=false) :
  (ReflectliteValue.set #[.agg #[.pointer (some ⟨9,103,none⟩),.pointer (some ta),.int .u64 406],.agg #[.pointer (some ⟨9,103,none⟩),.pointer (some b),.int .u64 150]]).run prog W
   =.ok (.tuple #[]) (W.setCell ta (.pointer (some e))):=by
 rw[Vm];simp only[VT,Dx,Hu,VM];simp[ReflectliteValue.flagAddr,loadVar,isAgg,underlying,underlying103,hb,VM,Dz,storeVar,Value.cells,storeCells,Addr.add];rw[run_store prog W ta _ _ (by rfl)];simp[ht,hf]
set_option maxHeartbeats 4000000 in
theorem RE(e t:Addr)(old:Value)(w:World)(hg:w.cell? ⟨0,0,none⟩=some (.iface 242 (.agg #[.pointer (some ⟨9,48,none⟩)])))(ht0:w.cell? t=some old)(hf0:w.frozen? t=false) :
  Calls prog 63 #[.iface 103 (.pointer (some e)),.iface 111 (.pointer (some t))] w fun ev w'=>ev=.returned (.bool true)∧w'=((((w.alloc (.cells #[.pointer (some t)] 111)).alloc (.cells #[.pointer (some ⟨9,111,none⟩),.pointer (some ⟨w.heap.size,0,none⟩),.int .u64 150] 191)).alloc (.cells #[.pointer (some ⟨9,111,none⟩),.pointer (some ⟨w.heap.size,0,none⟩),.int .u64 150] 191)).alloc (.cells #[.pointer (some e)] 103)).setCell t (.pointer (some e)):=by
 have h6:=@run_callFunc_extern prog 126 _ (fun args=>ReflectliteValue.unpack (args.getD 0 (.tuple #[]))) func126 (by kernel_rfl) (by kernel_rfl) (by kernel_rfl) (by kernel_rfl);have h7:=@run_callFunc_extern prog 127 _ (ReflectliteValue.methodAny (ReflectliteValue.valueError "reflectlite.Value.Type" 0) (fun t _ _ _=>ReflectliteType.toType t)) func127 (by kernel_rfl) (by kernel_rfl) (by kernel_rfl) (by kernel_rfl);have h8:=@run_callFunc_extern prog 128 _ (ReflectliteValue.method (ReflectliteValue.valueError "reflectlite.Value.IsNil" 0) ReflectliteValue.isNil) func128 (by kernel_rfl) (by kernel_rfl) (by kernel_rfl) (by kernel_rfl);have Va:=@run_callFunc_extern prog 262 _ (ReflectliteType.abiMethod fun t=>do pure (.int .u8 (←Rtype.kind t))) func262 (by kernel_rfl) (by kernel_rfl) (by kernel_rfl) (by kernel_rfl);have h37:=@run_callFunc_extern prog 275 _ (ReflectliteType.method ReflectliteType.elem) func275 (by kernel_rfl) (by kernel_rfl) (by kernel_rfl) (by kernel_rfl);have h38:=@run_callFunc_extern prog 276 _ (ReflectliteType.relation "Implements" ReflectliteType.implements_) func276 (by kernel_rfl) (by kernel_rfl) (by kernel_rfl) (by kernel_rfl);have h10:=@run_callFunc_extern prog 139 _ ReflectliteType.typeOf func139 (by kernel_rfl) (by kernel_rfl) (by kernel_rfl) (by kernel_rfl);have h35:=@run_callFunc_extern prog 273 _ (ReflectliteType.relation "AssignableTo" ReflectliteType.assignableTo) func273 (by kernel_rfl) (by kernel_rfl) (by kernel_rfl) (by kernel_rfl);have h11:=@run_callFunc_extern prog 184 _ (ReflectliteValue.method (ReflectliteValue.valueError "reflectlite.Value.Elem" 0) ReflectliteValue.elem) func184 (by kernel_rfl) (by kernel_rfl) (by kernel_rfl) (by kernel_rfl);have h12:=@run_callFunc_extern prog 185 _ ReflectliteValue.set func185 (by kernel_rfl) (by kernel_rfl) (by kernel_rfl) (by kernel_rfl);have tO:=Dw;have mA:=mN;have a25:=uT;have v25:=Bt;have f6:=Bq;have f7:=Lw;have mK:=yE;have mE:=yF;have mI:=oH;have k27:=Ly;have k25:=Lz;have e27:=LA;have i25:=uS;have n8:=Hv ⟨w.heap.size,0,none⟩ t ((w.alloc (.cells #[.pointer (some t)] 111)).alloc (.cells #[.pointer (some ⟨9,111,none⟩),.pointer (some ⟨w.heap.size,0,none⟩),.int .u64 150] 191)) (by simp);have hlt:0 < w.heap.size:=by
  rcases Nat.eq_zero_or_pos w.heap.size with h0|h
  ·simp[World.cell?,h0]at hg
  ·exact h
 have hg2:((w.alloc (.cells #[.pointer (some t)] 111)).alloc (.cells #[.pointer (some ⟨9,111,none⟩),.pointer (some ⟨w.heap.size,0,none⟩),.int .u64 150] 191)).cell? ⟨0,0,none⟩=some (.iface 242 (.agg #[.pointer (some ⟨9,48,none⟩)])):=by rw[World.cell?_alloc_lt _ _ ⟨0,0,none⟩ (by simp),World.cell?_alloc_lt _ _ ⟨0,0,none⟩ hlt];exact hg
 have htl:t.block < w.heap.size:=by
  rcases Nat.lt_or_ge t.block w.heap.size with h|h
  ·exact h
  ·simp[World.cell?,Array.getElem?_eq_none h]at ht0
 have el:=Hw ⟨w.heap.size,0,none⟩ t (((w.alloc (.cells #[.pointer (some t)] 111)).alloc (.cells #[.pointer (some ⟨9,111,none⟩),.pointer (some ⟨w.heap.size,0,none⟩),.int .u64 150] 191)).alloc (.cells #[.pointer (some ⟨9,111,none⟩),.pointer (some ⟨w.heap.size,0,none⟩),.int .u64 150] 191)) (by rw[World.cell?_alloc_lt _ _ ⟨w.heap.size,0,none⟩ (by simp;omega)];simp)
 have st:=Pb t ⟨w.heap.size+1+1+1,0,none⟩ e old ((((w.alloc (.cells #[.pointer (some t)] 111)).alloc (.cells #[.pointer (some ⟨9,111,none⟩),.pointer (some ⟨w.heap.size,0,none⟩),.int .u64 150] 191)).alloc (.cells #[.pointer (some ⟨9,111,none⟩),.pointer (some ⟨w.heap.size,0,none⟩),.int .u64 150] 191)).alloc (.cells #[.pointer (some e)] 103))
  (by rw[World.cell?_alloc_at _ _ _ _ (by simp)];rfl)
  (by rw[World.cell?_alloc_lt _ _ t (by simp;omega),World.cell?_alloc_lt _ _ t (by simp;omega),World.cell?_alloc_lt _ _ t (by simp;omega),World.cell?_alloc_lt _ _ t htl];exact ht0)
  (by rw[World.frozen?_alloc_old _ _ t (by simp;omega),World.frozen?_alloc_old _ _ t (by simp;omega),World.frozen?_alloc_old _ _ t (by simp;omega),World.frozen?_alloc_old _ _ t (Nat.ne_of_lt htl)];exact hf0)
 go_enter func63,ntmps63
 go_wp2
 refine wp_loop_rounds 1 ?_;rw[rounds_succ];go_wp2
 go_ret
 exact⟨rfl,rfl⟩
open Go.RowKit Go.Lib Go.Sort _root_.Go.Proofs.Tryz
structure ku(w:World):Prop where
 vk:dD w
 et:w.cell? ⟨0,0,none⟩=some (.iface 242 (.agg #[(pt 9 48)]))
theorem ku.aD{S:List Nat}{w w':World}(h:ku w)(hc:ah S w w')(hS:∀k∈S,9≤k):ku w':=
 ⟨h.vk.aD hc hS,(hc.cell (p:=⟨0,0,none⟩) (Wr (show 0 < 9 by omega) h.vk.low) (fun hk=>by have:=hS 0 hk;omega)).trans h.et⟩
def aw(s:Bs):List Bs:=aU 10 s
theorem ML(w:World)(s:Bs)(hs:s.length≤1100000)(hl:dD w):Calls prog 62 #[ab s,.string ⟨#[10]⟩] w (Sx.eC w (.sl 9 1 (aw s).length ((aw s).map ab))):=by refine(xu s 10 (by omega) w hl).mono ?_;rintro e w' ⟨rfl,rfl⟩;have hc:=dV 10 s;refine⟨_,rfl,⟨by simp,.inr ⟨w.heap.size,0,_,strs (aU 10 s),rfl,aq.new w 9 (strs (aU 10 s)).toArray,VI _,by unfold maxLen;omega,by simp[strs],?_⟩⟩,fun k hk=>(by cases hk;exact VI _),(ah.refl [] w).alloc _⟩;rw[Wz,List.take_of_length_le (by simp[strs,aw])];rfl
theorem QG{b:Sx.aY}{mem:List Sx.Row}{l:Bs}{cf cf':CF}{d i:Nat}(m:Nat)(hm:m=mem.length)(hlan:ku b.w)(hS9:∀k∈b.S,9≤k)(hl:l.length≤1100000)(nQ:cf.ag.length≤1100000∧cf.ae.length≤1100000∧cf.rules.length≤1100000∧cf.af.length≤1100000∧cf.aa.length≤1100000)(hd:d≤1100000)
  (hr:vf (Sx.rowAt mem) none none 1 2 3 4 5 6 7 cf d) (hT:cY (aj true l) cf d=.ok cf' i) (W:World) (β:Sx.Env) (hS:Sx.dS b β W (Sx.rowAt mem) [1,2,3,4,5,6,7]) :
  Calls prog 64 (([.val (ab l),.ptr 1 0,.ptr 2 0]:List Sx.SV).map (Sx.SV.den β)).toArray W (Sx.br b β W (Sx.rowAt mem) m (UL none none [] 1 2 3 4 5 6 7 m cf' (dN (aj true l) d) .nilIface none)):=by
 subst hm;obtain⟨hat,hbd,hnd,hnew⟩:=KZ hS hr (by simp) (by decide);have hC:TK W (β 1) (β 2) cf d (jS β 3 4 5 6 7):=⟨hat,hbd,hnd,nQ,hd,hlan.vk.aD hS.aD hS9,fun k hk=>by
  rcases hnew k hk with hx|hx
  ·exact hS9 k hx
  ·exact VL hlan.vk.low hx⟩
 show Calls prog 64 #[ab l,.pointer (some ⟨β 1,0,none⟩),.pointer (some ⟨β 2,0,none⟩)] W _;refine(PE l hl hC).mono fun e w' hp=>?_;rcases hp with⟨cf2,i2,s',hT2,he,hcf,hb',hn',hf',hc⟩ | ⟨code,p,N,hT2,_⟩
 ·rw[hT]at hT2
  injection hT2 with h1 _;subst h1;exact .inl ⟨fun p hp=>(by cases hp),aH β mem.length cf' s',OO (X:=[]) hr (fun g hg=>(by cases hg)) (fun g hg=>(by cases hg)) he hcf hb' hn' (fun k hk=>(by cases hk)) (fun k hk=>by simpa using hf' k hk) (by simpa using hc)⟩
 ·rw[hT]at hT2;cases hT2
def TC(m:Nat)(code p:Nat):Sx.cn:=⟨[1,2,3,4,5,6,7],[],[1,2,3,4,5,6,7],[⟨105,.ai [.int .i64 (code:Int),.int .i64 (p:Int)]⟩],.jK 103 m 0,none⟩
theorem NB{b:Sx.aY}{mem:List Sx.Row}{l:Bs}{cf:CF}{d code p:Nat}(m:Nat)(hm:m=mem.length)(hlan:ku b.w)(hS9:∀k∈b.S,9≤k)(hl:l.length≤1100000)(nQ:cf.ag.length≤1100000∧cf.ae.length≤1100000∧cf.rules.length≤1100000∧cf.af.length≤1100000∧cf.aa.length≤1100000)(hd:d≤1100000)
  (hr:vf (Sx.rowAt mem) none none 1 2 3 4 5 6 7 cf d) (hT:cY (aj true l) cf d=.no code p) (W:World) (β:Sx.Env) (hS:Sx.dS b β W (Sx.rowAt mem) [1,2,3,4,5,6,7]) :
  Calls prog 64 (([.val (ab l),.ptr 1 0,.ptr 2 0]:List Sx.SV).map (Sx.SV.den β)).toArray W (Sx.br b β W (Sx.rowAt mem) m (TC m code p)):=by
 obtain⟨hat,hbd,hnd,hnew⟩:=KZ hS hr (by simp) (by decide);have hC:TK W (β 1) (β 2) cf d (jS β 3 4 5 6 7):=⟨hat,hbd,hnd,nQ,hd,hlan.vk.aD hS.aD hS9,fun k hk=>by
  rcases hnew k hk with hx|hx
  ·exact hS9 k hx
  ·exact VL hlan.vk.low hx⟩
 show Calls prog 64 #[ab l,.pointer (some ⟨β 1,0,none⟩),.pointer (some ⟨β 2,0,none⟩)] W _;refine(PE l hl hC).mono fun e w' hp=>?_;rcases hp with⟨cf2,i2,s',hT2,_⟩ | ⟨code2,p2,N,hT2,he,hN,hB,hc⟩
 ·rw[hT]at hT2;cases hT2
 ·rw[hT]at hT2
  injection hT2 with h1 h2;subst h1 h2;refine .inl ⟨fun p hp=>(by cases hp),⟨fun i=>if i=m then N else β.b i,β.a,β.n,β.c⟩,fun i hi=>⟨by show _=if i=m then N else β.b i;rw[if_neg (by omega)],rfl,rfl,rfl⟩,?_,fun q hq=>(by cases hq),fun k r hk=>?_,fun k r x hk hx=>?_,fun k k' r r' x hk hk' _ _=>?_,hc.mono fun k hk=>.inl ?_⟩
  ·rw[he]
   show _=Ending.returned (.iface 103 (.pointer (some ⟨if m=m then N else β.b m,0,none⟩)));rw[if_pos rfl]
  ·match k,hk with
   | 0,hk=>cases hk;show aq w' (if m+0=m then N else β.b (m+0)) 105 _;rw[VU,if_pos rfl];exact hB
  ·match k,hk with
   | 0,hk=>cases hk;have hx:some (if m+0=m then N else β.b (m+0))=some x:=hx;rw[VU,if_pos rfl]at hx;cases hx;exact .inr hN
  ·match k,k',hk,hk' with
   | 0,0,_,_=>rfl
  ·show k∈([]++[1,2,3,4,5,6,7]).filterMap (Sx.cg β (Sx.rowAt mem))
   have bk:∀{i:Nat} {r:Sx.Row} {k:Nat},Sx.rowAt mem i=some r→Sx.av β i r=some k→Sx.cg β (Sx.rowAt mem) i=some k:=fun {i r k} hi hk=>by unfold Sx.cg;rw[hi];exact hk
   rcases dK.1 hk with hx|hx|hx|hx|hx|hx|hx
   ·exact VF.2 ⟨1,by simp,bk hr.c (by rw[hx];exact uM)⟩
   ·exact VF.2 ⟨2,by simp,bk hr.d (by rw[hx];exact CT)⟩
   ·exact VF.2 ⟨3,by simp,bk hr.p hx⟩
   ·exact VF.2 ⟨4,by simp,bk hr.r hx⟩
   ·exact VF.2 ⟨5,by simp,bk hr.l hx⟩
   ·exact VF.2 ⟨6,by simp,bk hr.m hx⟩
   ·exact VF.2 ⟨7,by simp,bk hr.i hx⟩
theorem Pa{b:Sx.aY}{row:Nat→Option Sx.Row}{m k:Nat}(W:World)(β:Sx.Env)(_:Sx.dS b β W row []) :
  Calls prog 63 (([.val .nilIface,.jK 111 k 0]:List Sx.SV).map (Sx.SV.den β)).toArray W (Sx.br b β W row m ⟨[],[],[],[],.val (.bool false),none⟩):=
 (RD _ W).mono fun e w' ⟨he,hw⟩=>.inl ⟨fun p hp=>(by cases hp),β,Sx.dx (v:=.bool false) rfl rfl he (fun q hq=>by cases hq) (by rw[hw];exact ah.refl _ _)⟩
theorem Fl{b:Sx.aY}{row:Nat→Option Sx.Row}{m k N:Nat}(hlan:ku b.w)(hS9:∀k∈b.S,9≤k)(hk:row k=some ⟨103,.ai [.pointer none]⟩)(W:World)(β:Sx.Env)(hS:Sx.dS b β W row [k]) :
  Calls prog 63 (([.jK 103 N 0,.jK 111 k 0]:List Sx.SV).map (Sx.SV.den β)).toArray W (Sx.br b β W row m ⟨[k],[(k,⟨103,.cU [.ptr N 0]⟩)],[],[],.val (.bool true),none⟩):=by
 have hB:aq W (β k) 103 [.pointer none]:=hS.held k (by simp) _ hk;refine(RE ⟨β N,0,none⟩ ⟨β k,0,none⟩ (.pointer none) W (hlan.aD hS.aD hS9).et (hB.cell_of rfl) (hB.frozen 0)).mono fun e w' ⟨he,hw⟩=>.inl ⟨fun p hp=>(by cases hp),β,Sx.dx (v:=.bool true) rfl rfl he (fun q hq=>?_) ?_⟩
 ·have hq:q=(k,⟨103,.cU [.ptr N 0]⟩):=VE.1 hq
  subst hq;show aq w' (β k) 103 [.pointer (some ⟨β N,0,none⟩)];rw[hw];refine aq.oW (cs:=[.pointer none]) ?_ 0 _;exact(((hB.aD ((ah.refl [] W).alloc _) (by simp)).aD ((ah.refl [] _).alloc _) (by simp)).aD ((ah.refl [] _).alloc _) (by simp)).aD ((ah.refl [] _).alloc _) (by simp)
 ·have ht:Sx.cn.dE β row ⟨[k],[(k,⟨103,.cU [.ptr N 0]⟩)],[],[],.val (.bool true),none⟩=[β k]:=by
   have:Sx.cg β row k=some (β k):=by unfold Sx.cg;rw[hk];rfl
   show([k]++[]).filterMap (Sx.cg β row)=_;simp[this]
  rw[ht,hw];exact((((ah.refl _ W).alloc _).alloc _).alloc _ |>.alloc _).setCell (.inl (by simp)) _
open Go.RowKit Go.Lib Go.Sort
def jV(s:Bs)(b i:Nat):Bs:=(s.take i).drop b
theorem zw{s:Bs}{b i:Nat}{c:UInt8}(h:s[i]?=some c)(hb:b≤i):jV s b (i+1)=jV s b i++[c]:=by have hl:=(VJ.1 h).1;unfold jV;rw[List.take_add_one,h,We (by rw[VV];omega)];rfl
theorem xA(s:Bs)(i:Nat):jV s i i=[]:=by unfold jV;rw[List.drop_eq_nil_iff,VV];omega
theorem MR{s:Bs}{b i:Nat}(h:i≤s.length):(jV s b i).length=i - b:=by unfold jV;rw[List.length_drop,VV];omega
theorem nf{s:Bs}{b i:Nat}(h:i≤s.length)(hb:b≤i):jV s b i=[]↔¬b < i:=by rw[←List.length_eq_zero_iff,MR h];omega
theorem drop_at{s:Bs}{i:Nat}{c:UInt8}(h:s[i]?=some c):s.drop i=c::s.drop (i+1):=by obtain⟨h1,rfl⟩:=VJ.1 h;exact List.drop_eq_getElem_cons h1
def gy(s:Bs):Nat→List Bs×Nat
 | 0=>([],0)
 |i+1=>match decide (s[i]?=some 10)with
  |true=>((gy s i).1++[jV s (gy s i).2 i],i+1)
  |false=>gy s i
theorem xU(s:Bs):∀i,(gy s i).2≤i∧(gy s i).1.length≤i
 | 0=>⟨VI _,VI _⟩
 |i+1=>by
  have:=xU s i;rw[gy];cases decide (s[i]?=some 10)with
  |true=>exact⟨VI _,by show((gy s i).1++[_]).length≤_;rw[VH];show _+1≤_;omega⟩
  |false=>exact⟨by show(gy s i).2≤_;omega,by show(gy s i).1.length≤_;omega⟩
theorem KP{s:Bs}{b i:Nat}(hb:b≤i)(hi:i≤s.length):s.drop b=jV s b i++s.drop i:=by
 unfold jV
 conv=>lhs;rw[←List.take_append_drop i s]
 rw[We (by rw[VV];omega)]
theorem EC(s:Bs):∀i,i≤s.length→(gy s i).1++aU 10 (s.drop (gy s i).2)=aU 10 s∧(10:UInt8)∉jV s (gy s i).2 i
 | 0,_=>⟨by simp[gy],by simp[gy,jV]⟩
 |i+1,hi=>by
  obtain⟨h1,h2⟩:=EC s i (by omega);have hb:=(xU s i).1;obtain⟨c,hc⟩:∃c,s[i]?=some c:=⟨s[i],Wm (by omega)⟩;rw[gy];by_cases h10:c=10
  ·subst h10
   rw[decide_eq_true hc];refine⟨?_,by rw[xA];simp⟩;rw[KP hb (by omega),drop_at hc,gr 10 _ _ h2]at h1;show((gy s i).1++[jV s (gy s i).2 i])++aU 10 (s.drop (i+1))=_;rw[←h1];simp
  ·have hn:¬s[i]?=some 10:=fun h=>h10 (by rw[hc]at h;exact Wn.inj h)
   rw[decide_eq_false hn];refine⟨h1,?_⟩;show(10:UInt8)∉jV s (gy s i).2 (i+1);rw[zw hc hb,Ww];rintro(h|h)
   ·exact h2 h
   ·exact h10 (VE.1 h).symm
theorem NL(s:Bs):(gy s s.length).1++[s.drop (gy s s.length).2]=aw s:=by
 obtain⟨h1,h2⟩:=EC s s.length (VI _);have:jV s (gy s s.length).2 s.length=s.drop (gy s s.length).2:=by unfold jV;rw[List.take_length]
 rw[this]at h2;rw[ji 10 _ h2]at h1;exact h1
def fM(s:Bs):Nat→List Bs×Nat
 | 0=>([],0)
 |i+1=>match s[i]? with
  |none=>fM s i
  |some c=>match decide (c=32∨c=9)with
   |false=>fM s i
   |true=>match decide ((fM s i).2 < i)with
    |true=>((fM s i).1++[jV s (fM s i).2 i],i+1)
    |false=>((fM s i).1,i+1)
theorem sh(s:Bs):∀i,(fM s i).2≤i∧(fM s i).1.length≤i
 | 0=>⟨VI _,VI _⟩
 |i+1=>by
  have:=sh s i;rw[fM];cases s[i]? with
  |none=>exact⟨by show(fM s i).2≤_;omega,by show(fM s i).1.length≤_;omega⟩
  |some c=>
   simp only;cases decide (c=32∨c=9)with
   |false=>exact⟨by show(fM s i).2≤_;omega,by show(fM s i).1.length≤_;omega⟩
   |true=>
    simp only;cases decide ((fM s i).2 < i)with
    |true=>exact⟨VI _,by show((fM s i).1++[_]).length≤_;rw[VH];show _+1≤_;omega⟩
    |false=>exact⟨VI _,by show(fM s i).1.length≤_;omega⟩
theorem DJ(cm:Bool)(s:Bs):∀i,i≤s.length→(∀j < i,s[j]?=some 35→cm=false)→(fM s i).1++aG cm (jV s (fM s i).2 i) (s.drop i)=aj cm s
 | 0,_,_=>by simp[fM,jV,aj]
 |i+1,hi,hj=>by
  have h1:=DJ cm s i (by omega) (fun j h=>hj j (by omega));have hb:=(sh s i).1;obtain⟨c,hc⟩:∃c,s[i]?=some c:=⟨s[i],Wm (by omega)⟩;have hcm:¬(cm=true∧c=35):=fun⟨h,h'⟩=>by have:=hj i (by omega) (by rw[hc,h']);rw[h]at this;cases this
  rw[drop_at hc,aG,if_neg hcm]at h1;rw[fM,hc];simp only;by_cases hbl:c=32∨c=9
  ·rw[if_pos hbl]at h1
   rw[decide_eq_true hbl];simp only;by_cases hlt:(fM s i).2 < i
   ·rw[if_neg (fun h=>(nf (by omega) hb).1 h hlt)]at h1
    rw[decide_eq_true hlt];show((fM s i).1++[jV s (fM s i).2 i])++aG cm (jV s (i+1) (i+1)) _=_;rw[←h1,xA];simp
   ·rw[if_pos ((nf (by omega) hb).2 hlt)]at h1
    rw[decide_eq_false hlt];show(fM s i).1++aG cm (jV s (i+1) (i+1)) _=_;rw[←h1,xA]
  ·rw[if_neg hbl]at h1
   rw[decide_eq_false hbl];show(fM s i).1++aG cm (jV s (fM s i).2 (i+1)) _=_;rw[zw hc hb,h1]
def TM(s:Bs)(i:Nat):List Bs:=match decide ((fM s i).2 < i)with
 |true=>(fM s i).1++[jV s (fM s i).2 i]
 |false=>(fM s i).1
theorem Mr{cm:Bool}{s:Bs}{i:Nat}(hi:i≤s.length)(hj:∀j < i,s[j]?=some 35→cm=false)(he:i=s.length∨(cm=true∧s[i]?=some 35)):TM s i=aj cm s:=by
 have h1:=DJ cm s i hi hj;have hb:=(sh s i).1;have e:aG cm (jV s (fM s i).2 i) (s.drop i)=if jV s (fM s i).2 i=[] then [] else [jV s (fM s i).2 i]:=by
  rcases he with rfl|⟨h,hc⟩
  ·rw[List.drop_length];rfl
  ·rw[drop_at hc,aG,if_pos ⟨h,rfl⟩]
 rw[e]at h1;unfold TM;by_cases hlt:(fM s i).2 < i
 ·rw[if_neg (fun h=>(nf hi hb).1 h hlt)]at h1
  rw[decide_eq_true hlt];exact h1
 ·rw[if_pos ((nf hi hb).2 hlt),Wh]at h1
  rw[decide_eq_false hlt];exact h1
open Go.RowKit Go.Lib Go.Sort
def QW(c:UInt8):Bool:=decide (48≤c.toNat∧c.toNat≤57)
theorem EN{c:UInt8}(h:QW c=true):c=sig (c.toNat - 48)∧nB c=c.toNat - 48∧nB c < 10:=by
 have h:48≤c.toNat∧c.toNat≤57:=of_decide_eq_true h;have hd:nB c=c.toNat - 48:=by unfold nB; rw[if_pos (by omega)]
 refine⟨?_,hd,by omega⟩;apply UInt8.toNat_inj.1;rw[eZ (by omega),if_pos (by omega)];omega
theorem MO{d:Nat}(h:d < 10):QW (sig d)=true:=by unfold QW;rw[decide_eq_true_iff,eZ (by omega),if_pos h];omega
theorem KR(u:Nat):∀c∈ao 10 u,QW c=true:=fun c hc=>by obtain⟨d,hd,rfl⟩:=iW (by omega) u c hc;exact MO hd
theorem Ax{l r:Bs}(h:l≠[]):(l++r).head?=l.head?:=by
 cases l with
 |nil=>exact absurd rfl h
 |cons a l=>rfl
theorem GZ:∀(u:Nat),(ao 10 u).head?=some 48→u=0:=by
 intro u;induction u using Nat.strongRecOn with
 |_ u ih=>
  intro h;by_cases hu:u < 10
  ·rw[aX hu]at h
   have h:sig u=48:=Wn.inj h;have h2:=eZ (d:=u) (by omega);rw[h,if_pos hu]at h2;have:(48:UInt8).toNat=48:=rfl;omega
  ·rw[dB (by omega) hu,Ax (js _)]at h
   have:=ih (u / 10) (by omega) h;omega
theorem Gn(t:Bs)(c:UInt8):dM (t++[c])=10*dM t+nB c:=qf 10 t c
theorem GY{t:Bs}{c:UInt8}(ht:ao 10 (dM t)=t)(h0:dM t≠0)(hc:QW c=true):ao 10 (dM (t++[c]))=t++[c]:=by obtain⟨h1,h2,h3⟩:=EN hc;rw[Gn,dB (by omega) (by omega),show(10*dM t+nB c) / 10=dM t by omega,show(10*dM t+nB c)%10=nB c by omega,ht,h2,←h1]
theorem uK:∀(n:Nat) (s:Bs),s.length=n+1→(∀c∈s,QW c=true)→(s.head?=some 48→s=[48])→ao 10 (dM s)=s
 | 0,s,hl,hd,_=>by
  obtain⟨c,rfl⟩:=List.length_eq_one_iff.1 hl;obtain⟨h1,h2,h3⟩:=EN (hd c (by simp));have:dM [c]=nB c:=by show 10*0+nB c=_;omega
  rw[this,aX h3,h2,←h1]
 |n+1,s,hl,hd,hh=>by
  have hne:s≠[]:=fun h=>by rw[h]at hl;cases hl
  obtain⟨t,c,rfl⟩:∃t c,s=t++[c]:=⟨s.dropLast,s.getLast hne,(List.dropLast_concat_getLast hne).symm⟩;rw[VH,VN,VW]at hl;have htn:t≠[]:=fun h=>by rw[h]at hl;simp at hl
  have hz:t.head?≠some 48:=fun h=>by
   have h1:=hh ((Ax htn).trans h);have h2:(t++[c]).length=1:=by rw[h1];rfl
   have h3:=VZ.2 htn;rw[VH,VN,VW]at h2;omega
  have ih:=uK n t (by omega) (fun x hx=>hd x (by simp[hx])) (fun h=>absurd h hz);refine GY ih (fun h0=>hz ?_) (hd c (by simp));rw[←ih,h0,aX (by omega)];rfl
theorem Gp{most:Nat}{s:Bs}:bR most s=true↔dM s≤most∧s≠[]∧(∀c∈s,QW c=true)∧(s.head?=some 48→s=[48]):=by
 unfold bR;rw[Bool.and_eq_true,decide_eq_true_iff,decide_eq_true_iff];refine and_congr_right fun _=>⟨fun h=>⟨?_,?_,?_⟩,fun⟨h1,h2,h3⟩=>?_⟩
 ·rw[←h];exact js _
 ·rw[←h];exact KR _
 ·intro h0
  rw[←h]at h0;have:=GZ _ h0;rw[←h,this,aX (by omega)];rfl
 ·obtain⟨n,hn⟩:∃n,s.length=n+1:=⟨s.length - 1,by have:=VZ.2 h1; omega⟩
  exact uK n s hn h2 h3
open Go Go.RowKit Go.Lib Go.Sort
def Qo(A:Option Go.Addr)(n c:Nat)(st:RS):List Value:=[.slice A n c,.int .i64 (st.at_:Int),.int .i64 (st.e:Int)]
structure Pj(w:World)(S:List Nat)(g:Nat)(A:Option Go.Addr)(n c:Nat)(st:RS)(ws:List Bs):Prop where
 bY:aq w g 114 (Qo A n c st)
 rM:yP w S A n ws
 gS:g∈S
 le:st.at_≤n
 bd:n≤1100000
 eb:st.e≤1000
 sz:∀x∈ws,x.length≤100000000
theorem Pj.at{w W:World}{S:List Nat}{g:Nat}{A:Option Go.Addr}{n c:Nat}{st st':RS}{ws:List Bs}(h:Pj w S g A n c st ws)(hc:ah S w W)(hb:aq W g 114 (Qo A n c st'))(hl:st'.at_≤n)(he:st'.e≤1000):Pj W S g A n c st' ws:=
 ⟨hb,h.rM.aD hc,h.gS,hl,h.bd,he,h.sz⟩
def VC{α:Type}(g:Nat)(A:Option Go.Addr)(n c:Nat)(V:α→Value)(r:α×RS)(u:Sx.jy)(gl:List (Nat×TypeId×List Value)):Prop:=u=.val (V r.1)∧gl=[(g,114,Qo A n c r.2)]
theorem Nc{ws:List Bs}{st:RS}(h:Wy st.e 0=false):dJ ws st=([],st):=by unfold dJ;rw[h]
theorem Nb{ws:List Bs}{st:RS}(h:Wy st.e 0=true):dJ ws st=(match ws[st.at_]? with|some x=>(x,⟨st.at_+1,0⟩)|none=>([],⟨st.at_,200⟩)):=by unfold dJ;rw[h];rfl
set_option maxRecDepth 100000
open Go Go.RowKit Go.Lib Go.Sort _root_.Go.Proofs.Tryz
set_option maxRecDepth 100000
section
variable{P:Program}(w:World)
theorem rG(t u ty e:TypeId)(i:TypeInfo)(ht:P.underlying t=some (.slice e))(hu:P.underlying u=some .string)(hi:P.info? e=some i)(hz:i.zero=some (.int .u8 0))
  (hsize:i.size=1) (hby:i.bytes=1) (v:Value) (n:Nat) (xs:List Value) (hown:Own w e 1 v n xs) (s:ByteArray) (h63:n+s.size≤maxLen) (hbytes:n+s.size≤140737488355328) :
  ∃A' c' w',(Builtin.append_ #[t,u] ty #[v,.string s]).run P w=.ok (.slice A' (n+s.size) c') w'∧Own w' e 1 (.slice A' (n+s.size) c') (n+s.size) (xs++strCells s)∧ah v.ownBlock.toList w w'∧
   ((VO A' (n+s.size) c').ownBlock=v.ownBlock∨∃k,(VO A' (n+s.size) c').ownBlock=some k∧w.heap.size≤k):=by
 have hsmall:n+s.size≤9223372036854775807:=by simp only[maxLen]at h63;omega
 have hxl:xs.length=n:=by simpa using hown.1
 have hlen:(xs++strCells s).length=(n+s.size)*1:=by rw[VH,hxl,strCells_length,Wj]
 have grown:∀(old:Nat),old < n+s.size→∀(S:List Nat),
   Own (w.drew.alloc (.cells (xs.toArray++(strCells s).toArray++Builtin.zeroCells (VR .u8 0).cells (grownCap w (n+s.size) old e - (n+s.size))) e)) e 1
    (.slice (some ⟨w.heap.size,0,none⟩) (n+s.size) (grownCap w (n+s.size) old e)) (n+s.size) (xs++strCells s)∧
   ah S w (w.drew.alloc (.cells (xs.toArray++(strCells s).toArray++Builtin.zeroCells (VR .u8 0).cells (grownCap w (n+s.size) old e - (n+s.size))) e)):=by
  intro old ho S;have hge:=grownCap_ge w (n+s.size) old e;have hcm:grownCap w (n+s.size) old e≤maxLen:=grownCap_le_maxLen w (n+s.size) old e h63;refine⟨⟨hlen,.inr ⟨w.heap.size,0,_,_,rfl,aq.new w.drew e _,hge,hcm,?_,?_⟩⟩,(ah.refl S w).drew.alloc _⟩
  ·have hz1:(VR Wq 0).cells.size=1:=rfl
   simp only[Array.length_toList,Array.size_append,List.size_toArray,size_zeroCells,hz1,hxl,strCells_length];omega
  ·simp only[Array.toList_append,Wt,Wz]
   rw[←Wt,←hlen];exact List.take_left
 rcases hown.2 with⟨rfl,rfl⟩ | ⟨g,o,cap,L,rfl,hg,hnc,hcm,hcL,hxs⟩
 ·have hx:xs=[]:=VQ hxl
  subst hx;by_cases hm:s.size=0
  ·have hn:strCells s=[]:=VQ (by rw[strCells_length];exact hm)
   refine⟨none,0,w,?_,by rw[hm,hn];exact Own.nil w e 1,ah.refl _ _,.inl rfl⟩;have hf:=run_firstCells_string (P:=P) w 1 s;rw[hm]at hf;simp[Builtin.append_,run_underlying ht,run_underlying hu,sizeOf,typeInfo,hi,hsize,Builtin.lenOf,hm,hf]
  ·have hr:=run_append_nil_string (P:=P) w t u ty e i (.int .u8 0) ht hu hi hz s (by omega) (by omega) (by rw[hby];omega)
   have hgr:=grown 0 (by omega) (Wi (.slice none 0 0)).toList;simp only[Nat.zero_add,Wg,Array.empty_append]at hgr ⊢;have e1:(s.data.map fun b=>VR .u8 b.toNat)=(strCells s).toArray:=by apply Array.ext';simp[strCells]
   rw[e1]at hr;exact⟨_,_,_,hr,hgr.1,hgr.2,.inr ⟨_,rfl,VI _⟩⟩
 ·by_cases hroom:n+s.size≤cap
  ·have hst:=dW (P:=P) w (o+n) (strCells s) hg (by rw[strCells_length];omega) (strCells_oneCell s)
   have hf:=run_firstCells_string (P:=P) w 1 s;refine⟨some ⟨g,o,none⟩,cap,w.setRow g (splice L (o+n) (strCells s)).toArray,?_,⟨hlen,.inr ⟨g,o,cap,_,rfl,hg.row _,hroom,hcm,?_,?_⟩⟩,?_,.inl rfl⟩
   ·simp[Builtin.append_,run_underlying ht,run_underlying hu,sizeOf,typeInfo,hi,hsize,Builtin.lenOf,hroom,hf,Addr.add_lit,hst]
   ·rw[jG _ _ _ (by rw[strCells_length];omega)];exact hcL
   ·have h1:n+s.size=n+(strCells s).length:=by rw[strCells_length]
    rw[Wj,h1];exact qM L o n xs (strCells s) (by simpa using hxs) (by simpa using hown.1) (by rw[strCells_length];omega)
   ·exact(ah.refl _ _).setRow (.inl (by simp[Wi])) _
  ·have holds:∀j u,xs[j]?=some u→w.cell? ((⟨g,o,none⟩:Addr).add j)=some u:=hown.ja
   have hr:=run_append_grow_string (P:=P) w t u ty e i (.int .u8 0) ht hu hi hz ⟨g,o,none⟩ n cap xs (by rw[hsize];simpa using hxl) holds s (by omega) (by omega) (by rw[hby];exact growslice_fits (by omega) (by omega));have hgr:=grown cap (by omega) (Wi (.slice (some ⟨g,o,none⟩) n cap)).toList;exact⟨_,_,_,hr,hgr.1,hgr.2,.inr ⟨_,rfl,VI _⟩⟩
theorem nS{ops:Array Oper}{rest:List Oper}{o:Oper}{a:Act}{Q:Exit→Act→World→Prop}(hgd:o.guard=none)(s x:Operand)(t u:TypeId)
  (ho:o.op=.call { callee:=.builtin .append,args:=#[s,x],argTypes:=#[t,u] })
  (e:TypeId) (i:TypeInfo) (ht:P.underlying t=some (.slice e)) (hu:P.underlying u=some .string) (hi:P.info? e=some i) (hz:i.zero=some (.int .u8 0)) (hsize:i.size=1) (hby:i.bytes=1)
  (v:Value) (n:Nat) (xs:List Value) (hs:a.eval s=v) (hown:Own w e 1 v n xs) (l:ByteArray) (hx:a.eval x=.string l) (h63:n+l.size≤maxLen) (hbytes:n+l.size≤140737488355328)
  (h:∀A' c' w',Own w' e 1 (.slice A' (n+l.size) c') (n+l.size) (xs++strCells l)→ah v.ownBlock.toList w w'→
   ((VO A' (n+l.size) c').ownBlock=v.ownBlock∨∃k,(VO A' (n+l.size) c').ownBlock=some k∧w.heap.size≤k)→wpList P ops Q rest (a.put o.dst (.slice A' (n+l.size) c')) w'):wpList P ops Q (o::rest) a w:=
 wpList_plain hgd fun _ hK=>by obtain⟨A',c',w',hrun,h2,h3,h4⟩:=rG (P:=P) w t u o.type e i ht hu hi hz hsize hby v n xs hown l h63 hbytes;unfold Oper.wp execOp;simp only[ho,resolve,invoke,builtin,VT,Sem.run_pure,Result.andThen_ok,List.map_toArray,WA,List.map_nil,hs,hx,hrun];exact hK _ _ (h A' c' w' h2 h3 h4)
end
def Sm(p:Value)(A:Option Go.Addr)(n c:Nat)(e:Int):List Value:=[p,.slice A n c,.int .i64 e]
def pV(b:Bool)(g:Nat):Value:=.pointer (match b with
 |true=>some ⟨g,0,none⟩
 |false=>none)
def qc(l:Bs):List Value:=l.map fun b=>.int .u8 b.toNat
theorem OS(l:Bs):strCells ⟨l.toArray⟩=qc l:=by simp[strCells,qc]
structure Tx(w:World)(g:Nat)(p:Bool)(A:Option Go.Addr)(c:Nat)(tx:Bs)(e:Int):Prop where
 bY:aq w g 132 (Sm (pV p g) A tx.length c e)
 own:Own w 5 1 (.slice A tx.length c) tx.length (qc tx)
theorem FB{A:Option Go.Addr}{n c:Nat}:(VO A n c).ownBlock=A.map (·.block):=by cases A<;>rfl
theorem Tx.ne{w:World}{g:Nat}{p:Bool}{A:Option Go.Addr}{c:Nat}{tx:Bs}{e:Int}(h:Tx w g p A c tx e):(VO A tx.length c).ownBlock≠some g:=h.own.Ez h.bY (by decide)
def oS(g:Nat)(A:Option Go.Addr):List Nat:=g::(A.map (·.block)).toList
set_option maxHeartbeats 1100000 in
theorem KY(b:Nat)(w:World)(h0:w.cell? ⟨b,0,none⟩=some (.pointer (some ⟨b,0,none⟩))) :
  Calls prog 194 #[.pointer (some ⟨b,0,none⟩)] w fun e w'=>e=.returned (.tuple #[])∧w'=w:=by
 have hs:(prog.info? 130).map (·.size)=some 2:=by kernel_rfl
 obtain⟨j,hj,_⟩:=Wl.1 hs;go_enter func194,ntmps194
 go_wp2
 rw[Lib.run_neq_ptr_same w _ underlying128 hj];go_wp2
 go_end0
 exact⟨rfl,rfl⟩
set_option maxHeartbeats 1100000 in
theorem Hh(b:Nat)(w:World)(h0:w.cell? ⟨b,0,none⟩=some (.pointer none))(hsh:w.shape? b=some (132,3))(hfz:w.frozen? ⟨b,0,none⟩=false) :
  Calls prog 194 #[.pointer (some ⟨b,0,none⟩)] w fun e w'=>e=.returned (.tuple #[])∧w'=w.setCell ⟨b,0,none⟩ (.pointer (some ⟨b,0,none⟩)):=by
 have hs:(prog.info? 130).map (·.size)=some 2:=by kernel_rfl
 obtain⟨j,hj,hjs⟩:=Wl.1 hs;have hl:liesAt prog prog.depth 132 (3 / prog.cellsOf 132) 0 130 1=true:=by kernel_rfl
 go_enter func194,ntmps194
 go_wp2
 rw[Lib.run_to_unsafe w ⟨b,0,none⟩ underlying128 underlying188 hj (by rw[hjs];decide) hsh (Nat.zero_lt_succ 2)];simp only[VM];rw[Oper.upon_value];go_wp2
 rw[run_callFunc_extern func233 (by kernel_rfl) (by kernel_rfl) (by kernel_rfl) (e:=Extern.AbiNoEscape.same) (by kernel_rfl)];rw[Lib.run_noEscape];simp only[VM];rw[Oper.upon_value];go_wp2
 rw[Lib.run_from_unsafe w ⟨b,0,none⟩ underlying188 underlying128 hj hsh hl];simp only[VM];rw[Oper.upon_value];go_wp2
 go_end0
 exact⟨rfl,rfl⟩
theorem Tv{w:World}{g:Nat}{p:Bool}{A:Option Go.Addr}{c:Nat}{tx:Bs}{e:Int}(h:Tx w g p A c tx e) :
  Calls prog 194 #[.pointer (some ⟨g,0,none⟩)] w fun e' w'=>e'=.returned (.tuple #[])∧Tx w' g true A c tx e∧ah [g] w w':=by
 cases p with
 |false=>refine(Hh g w (h.bY.cell_of rfl) h.bY.shape (h.bY.frozen 0)).mono ?_;rintro e' w' ⟨rfl,rfl⟩;exact⟨rfl,⟨by simpa[Sm,pV]using h.bY.oW 0 (.pointer (some ⟨g,0,none⟩)),h.own.Mm h.ne _⟩,(ah.refl _ w).setCell (.inl (by simp)) _⟩
 |true=>refine(KY g w (h.bY.cell_of rfl)).mono ?_;rintro e' w' ⟨rfl,rfl⟩;exact⟨rfl,h,ah.refl _ _⟩
def lr(g:Nat)(A:Option Go.Addr)(r:Value)(tx:Bs)(e:Int)(w:World)(e':Ending)(w':World):Prop:=
 ∃A' c',e'=.returned r∧Tx w' g true A' c' tx e∧ah (oS g A) w w'∧∀k,A'.map (·.block)=some k→A.map (·.block)=some k∨w.heap.size≤k
theorem Kt:∃i,prog.info? 5=some i∧i.zero=some (.int .u8 0)∧i.size=1∧i.bytes=1:=info_parts (by kernel_rfl)
set_option maxHeartbeats 2000000 in
theorem Mu{w:World}{g:Nat}{p:Bool}{A:Option Go.Addr}{c:Nat}{tx:Bs}{e:Int}(s:Bs)(h:Tx w g p A c tx e)(hs:tx.length+s.length≤140737488355328) :
  Calls prog 141 #[.pointer (some ⟨g,0,none⟩),.string ⟨s.toArray⟩] w (lr g A (.tuple #[.int .i64 (s.length:Int),.nilIface]) (tx++s) e w):=by
 obtain⟨i0,hi,hz0,hz1,hz2⟩:=Kt;have hsz:(⟨s.toArray⟩:ByteArray).size=s.length:=by simp[ByteArray.size]
 have HC:=hid (Tv h);clear h;go_enter func141,ntmps141
 go_wp2_with (go_at_call 194;refine HC.out.mono ?_)
 rintro e1 w1 ⟨rfl,h1,hb1⟩;have c1:w1.cell? ⟨g,1,none⟩=some (.slice A tx.length c):=h1.bY.cell_of rfl;go_wp2_with (at_builtin;refine nS _ rfl _ _ 82 9 rfl 5 i0 underlying82 underlying9 hi hz0 hz1 hz2 _ _ _ rfl h1.own ⟨s.toArray⟩ rfl ?c3 ?c4 ?_)
 case c3=>rw[hsz];unfold maxLen;omega
 case c4=>rw[hsz];omega
 intro A' c' w2 hown' hchg hk;rw[OS]at hown';have hb2:aq w2 g 132 (Sm (pV true g) A tx.length c e):=h1.bY.aD hchg (by intro hm;exact h1.ne (by simpa using hm));have d1:w2.cell? ⟨g,1,none⟩=some (.slice A tx.length c):=hb2.cell_of rfl;have f1:w2.frozen? ⟨g,1,none⟩=false:=hb2.frozen 1;go_wp2
 go_ret2
 refine⟨A',c',by simp,⟨?_,?_⟩,?_,?_⟩
 ·have:=hb2.oW 1 (.slice A' (tx.length+s.length) c')
  simpa[Sm]using this
 ·rw[VH,show qc (tx++s)=qc tx++qc s by simp[qc]]
  exact hown'.Mm (hown'.Ez hb2 (by decide)) _
 ·have hb1':ah (oS g A) w w1:=hb1.mono fun k hk=>.inl (by simp at hk;simp[oS,hk])
  have h2':ah (oS g A) w1 w2:=hchg.mono fun k hk=>.inl (by unfold oS;rw[FB]at hk;exact VK _ hk);exact(hb1'.trans h2').setCell (.inl (by simp[oS])) _
 ·intro k hk'
  have hk2:(VO A' (tx.length+s.length) c').ownBlock=some k:=by rw[FB];exact hk'
  rcases hk with hh|⟨j,hj,hj2⟩
  ·rw[hk2]at hh
   exact .inl (by rw[FB]at hh;exact hh.symm)
  ·rw[hk2]at hj
   cases hj;exact .inr (VL hb1.size hj2)
open Go.RowKit Go.Lib Go.Sort
def ef(s:Nat×Nat):Bs:=if s.1=s.2 then ao 10 s.1 else ao 10 s.1++45::ao 10 s.2
def dw(n:Nat):Bs:=if n=6 then lC else if n=17 then mv else ao 10 n
def tb(p:Px):Bs:=tm p.v p.n p.k
def bA(m:Mt)(k:Nat):List Bs:=match k with
 | 0=>[wD,ef m.fE]
 | 1=>[lD,tb m.src]
 | 2=>[nJ,tb m.dst]
 | 3=>[fD,dw m.bE]
 | 4=>[gV,ef m.sp]
 |_=>[iT,ef m.dp]
def ma(m:Mt)(k:Nat):List Bs:=match m.asks.testBit k with
 |true=>bA m k
 |false=>[]
def fA(m:Mt):List Bs:=ma m 0++ma m 1++ma m 2++ma m 3++ma m 4++ma m 5
def iP(m:Mt):Bs:=if m.asks=0 then kZ else aE 32 (fA m)
def Gb(m:Mt):Bs:=match bp m with
 |true=>iP m
 |false=>[]
def cx(n:Int):Bs:=if n < 0 then 45::ao 10 n.natAbs else ao 10 n.toNat
def aS(act out:Int):List Bs:=if act=1 then [di] else if act=2 then [lA] else if act=3 then [oy,cx out] else if act=4 then [fZ] else []
def cO(k s:Bs):List Bs:=if s=[] then [] else [k,s]
def dv(r:Rl):List Bs:=[fY,r.name,Gb r.mt,wB]++aS r.act r.out++cO bK r.cK++cO ba r.bL
def dX(n:Int):List Bs:=[kp,cx n]
def eB(r:Rt):List Bs:=[di,tb r.pf,cx r.out]
def eF(m:Me):List Bs:=[bK,m.name,ao 10 m.num,ao 10 m.den,ao 10 m.nR]
def dA(m:Mi):List Bs:=[ba,m.name,cx m.out,cx m.room]
def gW(d:Int):List Bs:=bj::aS d 0
def ju(cf:CF):List (List Bs):=cf.ag.map dX++cf.ae.map eB++cf.af.map eF++cf.aa.map dA++cf.rules.map dv++[gW cf.aR]
def fL(ws:List Bs):Bs:=aE 32 ws++[10]
def cL(l:List (List Bs)):Bs:=l.flatMap fL
def ey(cf:CF):Bs:=cL (ju cf)
def aO(is:Bool)(code e:Int):Int:=match is with
 |true=>e
 |false=>match decide (e=0)with
  |true=>code
  |false=>e
def Ek(e:Int)(n:Int):Int:=aO (decide (n≥0)) 2 e
def xC(e:Int)(r:Rt):Int:=aO (decide (r.out≥0)) 2 (aO (gv r.pf.v r.pf.n r.pf.k) 151 e)
def xR(e:Int)(m:Me):Int:=aO (aJ m.name) 201 e
def ns(e:Int)(m:Mi):Int:=aO (decide (m.out≥0)&&decide (m.room≥0)) 2 (aO (aJ m.name) 201 e)
def jf(act out:Int):Bool:=(decide (1≤act)&&decide (act≤4))&&(decide (out≥0)&&(decide (out=0)||decide (act=3)))
def gi(s:Bs):Bool:=decide (s=[])||aJ s
def qO(e:Int)(r:Rl):Int:=aO (gi r.bL) 201 (aO (gi r.cK) 201 (aO (jf r.act r.out) 2 (aO (bp r.mt) 190 (aO (aJ r.name) 201 e))))
def KT(e:Int)(d:Int):Int:=aO (decide (d=1)||(decide (d=2)||decide (d=4))) 2 e
def rA(cf:CF):Int:=KT (cf.rules.foldl qO (cf.aa.foldl ns (cf.af.foldl xR (cf.ae.foldl xC (cf.ag.foldl Ek 0))))) cf.aR
def vz(cf:CF):Int:=aO (decide ((ey cf).length≤65536)) 4 (rA cf)
def gU(cf:CF):Bs×Int:=if vz cf=0 then(ey cf,0)else([],vz cf)
def vE(c:UInt8):Prop:=c≠32∧c≠9∧c≠35∧c≠10
def du(x:Bs):Prop:=x≠[]∧∀c∈x,vE c
theorem jg(cm:Bool)(r:Bs):∀(x cur:Bs),(∀c∈x,vE c)→aG cm cur (x++r)=aG cm (cur++x) r
 | [],cur,_=>by simp
 |c::x,cur,h=>by
  have hc:=h c (by simp);have e:aG cm cur (c::(x++r))=aG cm (cur++[c]) (x++r):=by
   rw[aG,if_neg (fun hh=>hc.2.2.1 hh.2),if_neg (fun hh=>by
    rcases hh with hh|hh
    ·exact hc.1 hh
    ·exact hc.2.1 hh)]
  rw[List.cons_append,e,jg cm r x (cur++[c]) (fun d hd=>h d (by simp[hd]))];simp
theorem xp(cm:Bool)(r cur:Bs)(hc:cur≠[]):aG cm cur (32::r)=cur::aG cm [] r:=by rw[aG,if_neg (fun hh=>absurd hh.2 (by decide)),if_pos (.inl rfl),if_neg hc]
theorem nT(cm:Bool):∀ws:List Bs,(∀x∈ws,du x)→aj cm (aE 32 ws)=ws
 | [],_=>by simp[aj,aE,aG]
 | [x],h=>by have hx:=h x (by simp);have:=jg cm [] x [] hx.2;simp only[Wh,Wg]at this;show aG cm [] x=[x];rw[this,aG,if_neg hx.1]
 |x::y::r,h=>by have hx:=h x (by simp);show aG cm [] (x++32::aE 32 (y::r))=_;rw[jg cm _ x [] hx.2,Wg,xp cm _ x hx.1];congr 1;exact nT cm (y::r) fun z hz=>h z (VK _ hz)
theorem NF:∀ws:List Bs,(∀x∈ws,∀c∈x,vE c)→(10:UInt8)∉aE 32 ws:=fun ws h hm=>by
 rcases fe hm with h1|⟨x,hx,h1⟩
 ·exact absurd h1 (by decide)
 ·exact(h x hx _ h1).2.2.2 rfl
theorem qZ:∀l:List (List Bs),(∀ws∈l,∀x∈ws,∀c∈x,vE c)→aw (cL l)=l.map (aE 32)++[[]]
 | [],_=>by simp[cL,aw,aU]
 |ws::l,h=>by
  have ih:=qZ l fun v hv=>h v (VK _ hv);have e:cL (ws::l)=aE 32 ws++10::cL l:=by simp[cL,fL]
  unfold aw at ih ⊢;rw[e,gr 10 _ _ (NF ws (h ws (by simp))),ih];rfl
theorem GH(c:UInt8)(x:Bs)(ws r:List Bs)(hw:ws≠[]):aE c (x::aE c ws::r)=aE c (x::(ws++r)):=by
 have aux:∀(ws r:List Bs),ws≠[]→aE c (aE c ws::r)=aE c (ws++r):=by
  intro ws;induction ws with
  |nil=>intro r h;exact absurd rfl h
  |cons a l ih=>
   intro r _;cases l with
   |nil=>rfl
   |cons b l=>
    have h1:=ih r (by simp);cases r with
    |nil=>simp[aE]
    |cons d r=>show(a++c::aE c (b::l))++c::aE c (d::r)=a++c::aE c (b::(l++d::r));have h1:aE c (b::l)++c::aE c (d::r)=aE c (b::(l++d::r)):=h1;rw[←h1];simp
 have h1:=aux ws r hw;obtain⟨a,l,rfl⟩:=List.exists_cons_of_ne_nil hw;show x++c::aE c (aE c (a::l)::r)=x++c::aE c (a::(l++r));rw[h1];rfl
set_option maxRecDepth 100000
open Go Go.RowKit Go.Lib Go.Sort _root_.Go.Proofs.Tryz
set_option maxRecDepth 100000
def gY(og:Option Nat)(cs:List Sx.SV):Sx.Row:=match og with
 |some g=>⟨132,.iC g cs⟩
 |none=>⟨132,.cU cs⟩
structure mP(row:Nat→Option Sx.Row)(i j:Nat)(og:Option Nat)(p:Bool)(tx:Bs)(e:Int):Prop where
 b:row i=some (gY og [.dQ p i 0,.own j,.val (.int .i64 e)])
 o:row j=some ⟨5,.own 1 tx.length (qc tx)⟩
theorem kF{β:Sx.Env}{W:World}{i:Nat}{og:Option Nat}{cs:List Sx.SV}:Sx.aT β W i (gY og cs)↔(∀g,og=some g→β i=g)∧aq W (β i) 132 (cs.map (Sx.SV.den β)):=by
 cases og with
 |none=>exact⟨fun h=>⟨fun g hg=>(by cases hg),h⟩,fun h=>h.2⟩
 |some g=>exact⟨fun h=>⟨fun g' hg=>by cases hg;exact h.1,h.2⟩,fun h=>⟨h.1 g rfl,h.2⟩⟩
theorem mW{β:Sx.Env}{i:Nat}{og:Option Nat}{cs:List Sx.SV}:Sx.av β i (gY og cs)=some (β i):=by cases og<;>rfl
theorem nY{b:Sx.aY}{β:Sx.Env}{W:World}{row:Nat→Option Sx.Row}{gh:List Nat}{i j:Nat}{og:Option Nat}{p:Bool}{tx:Bs}{e:Int}(hS:Sx.dS b β W row gh)(h:mP row i j og p tx e)(hi:i∈gh)(hj:j∈gh) :
  Tx W (β i) p (β.a j) (β.c j) tx e∧∀g,og=some g→β i=g:=by
 have h1:=kF.1 (hS.held i hi _ h.b);have h2:β.n j=tx.length∧Own W 5 1 (.slice (β.a j) tx.length (β.c j)) tx.length (qc tx):=hS.held j hj _ h.o;refine⟨⟨?_,h2.2⟩,h1.1⟩;have hb:=h1.2;have e1:([Sx.SV.dQ p i 0,.own j,.val (.int .i64 e)].map (Sx.SV.den β))=[pV p (β i),β.sl j,.int .i64 e]:=rfl;rw[e1]at hb;unfold Sx.Env.sl at hb;rw[h2.1]at hb;exact hb
def yU(X:List Nat)(i j m:Nat)(og:Option Nat)(tx:Bs)(e:Int)(v:Value):Sx.cn:=⟨i::j::X,[(i,gY og [.dQ true i 0,.own m,.val (.int .i64 e)])],[j],[⟨5,.own 1 tx.length (qc tx)⟩],.val v,none⟩
def Pt(β:Sx.Env)(m:Nat)(A:Option Go.Addr)(n c:Nat):Sx.Env:=⟨β.b,fun i=>if i=m then A else β.a i,fun i=>if i=m then n else β.n i,fun i=>if i=m then c else β.c i⟩
theorem rO{b:Sx.aY}{β:Sx.Env}{W w':World}{row:Nat→Option Sx.Row}{X:List Nat}{i j m:Nat}{og:Option Nat}{p:Bool}{tx tx':Bs}{e e':Int}{v:Value}{en:Ending}(h:mP row i j og p tx e)(_hi:i < m)(_hj:j < m)(hg:∀g,og=some g→β i=g)
  (hp:lr (β i) (β.a j) v tx' e' W en w'):Sx.br b β W row m (yU X i j m og tx' e' v) en w':=by
 obtain⟨A',c',he,ht,hc,hk⟩:=hp;refine .inl ⟨fun p hp=>(by cases hp),Pt β m A' tx'.length c',fun k hk=>⟨rfl,?_,?_,?_⟩,he,fun q hq=>?_,fun k r hr=>?_,fun k r x hr hx=>?_,fun k k' r r' x hr hr' _ _=>?_,hc.mono fun k hk=>.inl ?_⟩
 ·show β.a k=if k=m then A' else β.a k
  rw[if_neg (by omega)]
 ·show β.n k=if k=m then tx'.length else β.n k
  rw[if_neg (by omega)]
 ·show β.c k=if k=m then c' else β.c k
  rw[if_neg (by omega)]
 ·have hq:q=(i,gY og [.dQ true i 0,.own m,.val (.int .i64 e')]):=VE.1 hq
  subst hq;refine kF.2 ⟨hg,?_⟩;show aq w' (β i) 132 [pV true (β i),.slice (if m=m then A' else β.a m) (if m=m then tx'.length else β.n m) (if m=m then c' else β.c m),.int .i64 e'];rw[if_pos rfl,if_pos rfl,if_pos rfl];exact ht.bY
 ·match k,hr with
  | 0,hr=>cases hr;show(if m+0=m then tx'.length else β.n (m+0))=tx'.length∧Own w' 5 1 (.slice (if m+0=m then A' else β.a (m+0)) tx'.length (if m+0=m then c' else β.c (m+0))) tx'.length (qc tx');rw[VU,if_pos rfl,if_pos rfl,if_pos rfl];exact⟨rfl,ht.own⟩
 ·match k,hr with
  | 0,hr=>
   cases hr;have hx:(if m+0=m then A' else β.a (m+0)).map (·.block)=some x:=hx;rw[VU,if_pos rfl]at hx;rcases hk x hx with h1|h1
   ·refine .inl (VF.2 ⟨j,by simp[yU],?_⟩)
    unfold Sx.cg;rw[h.o];exact h1
   ·exact .inr h1
 ·match k,k',hr,hr' with
  | 0,0,_,_=>rfl
 ·show k∈([i]++[j]).filterMap (Sx.cg β row)
  rcases VG.1 hk with rfl|hk
  ·refine VF.2 ⟨i,by simp,?_⟩
   unfold Sx.cg;rw[h.b];exact mW
  ·refine VF.2 ⟨j,by simp,?_⟩
   unfold Sx.cg;rw[h.o];show(β.a j).map (·.block)=some k;simpa using hk
theorem MB{w:World}{g:Nat}{p:Bool}{A:Option Go.Addr}{c:Nat}{tx:Bs}{e:Int}(is:Bool)(code:Int)(h:Tx w g p A c tx e) :
  Calls prog 69 #[.pointer (some ⟨g,0,none⟩),.bool is,.int .i64 code] w fun e' w'=>e'=.returned (.tuple #[])∧Tx w' g p A c tx (aO is code e)∧ah [g] w w':=by
 have d1:w.cell? ⟨g,2,none⟩=some (.int .i64 e):=h.bY.cell_of rfl;have f1:w.frozen? ⟨g,2,none⟩=false:=h.bY.frozen 2;have hb2:=h.bY.oW 2 (.int .i64 code);have ho2:=h.own.Mm (p:=⟨g,2,none⟩) h.ne (.int .i64 code);have HH:=hid h;clear h;cases is with
 |true=>
  go_enter func69,ntmps69
  go_wp2
  go_end0
  exact⟨rfl,HH.out,ah.refl _ _⟩
 |false=>
  by_cases he:e=0
  ·have hw:aO false code e=code:=by unfold aO;rw[decide_eq_true he]
   have hb:(e==0)=true:=by rw[he];rfl
   rw[hw];go_enter func69,ntmps69
   go_wp2
   go_end0
   exact⟨rfl,⟨by simpa[Sm]using hb2,ho2⟩,(ah.refl _ w).setCell (.inl (by simp)) _⟩
  ·have hw:aO false code e=e:=by unfold aO;rw[decide_eq_false he]
   have hb:(e==0)=false:=beq_eq_false_iff_ne.2 he;rw[hw];go_enter func69,ntmps69
   go_wp2
   go_end0
   exact⟨rfl,HH.out,ah.refl _ _⟩
def jN(X:List Nat)(i j:Nat)(og:Option Nat)(p:Bool)(e:Int):Sx.cn:=⟨i::j::X,[(i,gY og [.dQ p i 0,.own j,.val (.int .i64 e)])],[],[],.val (.tuple #[]),none⟩
theorem qd{b:Sx.aY}{row:Nat→Option Sx.Row}{i j m:Nat}{og:Option Nat}{p:Bool}{tx:Bs}{e:Int}(is:Bool)(code:Int)(h:mP row i j og p tx e)(W:World)(β:Sx.Env)(hS:Sx.dS b β W row [i,j]) :
  Calls prog 69 (([.ptr i 0,.val (.bool is),.val (.int .i64 code)]:List Sx.SV).map (Sx.SV.den β)).toArray W (Sx.br b β W row m (jN [] i j og p (aO is code e))):=by
 obtain⟨ht,hg⟩:=nY hS h (by simp) (by simp);show Calls prog 69 #[.pointer (some ⟨β i,0,none⟩),.bool is,.int .i64 code] W _;refine(MB is code ht).mono fun en w' ⟨he,ht',hc⟩=>.inl ⟨fun p hp=>(by cases hp),β,Sx.dx (v:=.tuple #[]) rfl rfl he (fun q hq=>?_) ?_⟩
 ·have hq:q=(i,gY og [.dQ p i 0,.own j,.val (.int .i64 (aO is code e))]):=VE.1 hq
  subst hq;refine kF.2 ⟨hg,?_⟩;have h2:β.n j=tx.length:=(hS.held j (by simp) _ h.o).1;show aq w' (β i) 132 [pV p (β i),.slice (β.a j) (β.n j) (β.c j),.int .i64 (aO is code e)];rw[h2];exact ht'.bY
 ·refine hc.mono fun k hk=>.inl ?_
  show k∈([i]++[]).filterMap (Sx.cg β row);refine VF.2 ⟨i,by simp,?_⟩;unfold Sx.cg;rw[h.b,VE.1 hk];exact mW
theorem Tc{w:World}{g:Nat}{p:Bool}{A:Option Go.Addr}{c:Nat}{tx:Bs}{e:Int}(h:Tx w g p A c tx e):Calls prog 76 #[.pointer (some ⟨g,0,none⟩)] w fun e' w'=>e'=.returned (.int .i64 (tx.length:Int))∧w'=w:=by
 have d1:w.cell? ⟨g,1,none⟩=some (.slice A tx.length c):=h.bY.cell_of rfl;clear h;go_enter func76,ntmps76
 go_wp2
 go_ret
 exact⟨rfl,rfl⟩
theorem NU{P:Program}{e:TypeId}(hc:P.cellsOf e=1)(count o n:Nat)(hn:o+n≤count):liesAt P P.depth e count o e n=true:=by have hd:P.depth=(2*(P.types.size+Made.depth)+1)+1:=rfl;rw[hd];simp only[liesAt,Bool.or_eq_true];left;rw[hd];simp[rowAt,hc,sameLayout,Nat.mod_one];omega
theorem nF{P:Program}(w:World)(pt it ty e:TypeId)(hp:P.underlying pt=some (.pointer e))(hc:P.cellsOf e=1)(g o cells:Nat)(hsh:w.shape? g=some (e,cells))(l:List UInt8)(h0:l≠[])(hn:o+l.length≤cells)(h63:l.length≤9223372036854775807)
  (hcell:∀j x,l[j]?=some x→w.cell? ((⟨g,o,none⟩:Addr).add j)=some (.int .u8 x.toNat)) :
  (Builtin.unsafeString_ #[pt,it] ty #[.pointer (some ⟨g,o,none⟩),.int .i64 l.length]).run P w=.ok (.string ⟨l.toArray⟩) (w.freeze ⟨g,o,none⟩ l.length):=by
 have hl:l.length≠0:=by simpa using h0
 have hlb:=run_loadBytes (P:=P) w l ⟨g,o,none⟩ .empty hcell;have hlies:=NU (P:=P) hc (cells / P.cellsOf e) o l.length (by rw[hc]; simpa using hn);have h63':¬(9223372036854775807:Int) < (l.length:Int):=by omega
 have hdef:Builtin.unsafeString_ #[pt,it] ty #[.pointer (some ⟨g,o,none⟩),.int .i64 l.length]=
   (do
    let n ←asInt (.int .i64 l.length)
    if n < 0 then runtimePanic (.error "unsafe.String: len out of range")
    if n > VX.max then unsupported (.unsafePointer "String: a length above the largest int")
    if n=0 then pure (.string .empty)
    else if ←variablesAt ⟨g,o,none⟩ (←elemOf pt) n.toNat then do
     let s ←loadBytes ⟨g,o,none⟩ .empty n.toNat
     freeze ⟨g,o,none⟩ n.toNat
     pure (.string s)
    else unsupported (.unsafePointer "String: not so many bytes at ptr")):=rfl
 rw[hdef];have hmax:VX.max=9223372036854775807:=rfl;have hneg:¬(l.length:Int) < 0:=by omega
 simp[asInt,asIntOf,hmax,h63',hneg,hl,variablesAt,hsh,elemOf,run_underlying hp,hlies,hlb]
set_option maxHeartbeats 1100000 in
theorem IE{w:World}{g:Nat}{p:Bool}{A:Option Go.Addr}{c:Nat}{tx:Bs}{e:Int}(h:Tx w g p A c tx e)(h0:tx≠[]):Calls prog 77 #[.pointer (some ⟨g,0,none⟩)] w fun e' w'=>e'=.returned (ab tx)∧ah (oS g A) w w':=by
 have hl0:tx.length≠0:=by simpa using h0
 obtain⟨b,o,cap,L,hv,hb,hnc,hcm,hcl,htake⟩:∃b o cap L,VO A tx.length c=.slice (some ⟨b,o,none⟩) tx.length cap∧aq w b 5 L∧tx.length≤cap∧cap≤maxLen∧o+cap*1≤L.length∧(L.drop o).take (tx.length*1)=qc tx:=by
  rcases h.own.2 with⟨_,hz⟩ | ⟨b,o,cap,L,hv,r⟩
  ·exact absurd hz hl0
  ·exact⟨b,o,cap,L,hv,r⟩
 injection hv with hA _ hc;subst hA hc;have c1:w.drew.cell? ⟨g,1,none⟩=some (.slice (some ⟨b,o,none⟩) tx.length c):=h.bY.cell_of rfl;have hSD:(Builtin.unsafeSliceData_ #[82] 210 #[.slice (some ⟨b,o,none⟩) tx.length c]).run prog w.drew=.ok (.pointer (some ⟨b,o,none⟩)) w.drew:=run_unsafeSliceData_row _ _ _ _ _ _ (by omega);have hsh:w.drew.shape? b=some (5,L.length):=hb.shape;have hUS:(Builtin.unsafeString_ #[210,3] 9 #[.pointer (some ⟨b,o,none⟩),.int .i64 tx.length]).run prog w.drew=.ok (.string ⟨tx.toArray⟩) (w.drew.freeze ⟨b,o,none⟩ tx.length):=
  nF w.drew 210 3 9 5 underlying210 (by kernel_rfl) b o L.length hsh tx h0 (by omega) (by unfold maxLen at hcm;omega) fun j x hx=>by have:=h.own.ja j (.int .u8 x.toNat) (by simp[qc,hx]);exact this
 have hgb:ah (oS g (some ⟨b,o,none⟩)) w (w.drew.freeze ⟨b,o,none⟩ tx.length):=by have hf:=below_freeze (B:=0) (Below.drew (Below.refl 0 w)) (p:=⟨b,o,none⟩) (Wa _) tx.length;refine⟨hf.os,hf.tape,hf.output,hf.size,fun k hk hS=>?_⟩;have hne:k≠b:=fun hh=>hS (by simp[oS,hh]);unfold World.freeze;rw[if_neg hl0];show(w.heap.modify b _)[k]?=_;rw[Array.getElem?_modify,if_neg (fun hh=>hne hh.symm)]
 have mixed:prog.follows .mixedOrders=true:=by kernel_rfl
 clear h hb;go_enter func77,ntmps77
 go_wp2
 go_region_o
 all_goals (go_wp2;go_ret;exact⟨rfl,hgb⟩)
set_option maxRecDepth 100000
open Go Go.RowKit Go.Lib Go.Sort _root_.Go.Proofs.Tryz
theorem Aq{w:World}{A:Option Go.Addr}{n c:Nat}{xs:List (List UInt8)}(h:Own w 9 1 (.slice A n c) n (strs xs))(sep:UInt8)(hN:n≤140737488355328)(hlen:(aE sep xs).length≤140737488355328) :
  Calls prog 87 #[.slice A n c,.string ⟨#[sep]⟩] w (Rn w (ab (aE sep xs))):=by
 have hl:xs.length=n:=by have:=h.len;simpa[strs]using this
 by_cases h0:n=0
 ·subst h0
  have:xs=[]:=VQ hl;subst this;exact(Tryz.strings_Join_none A c ⟨#[sep]⟩ w).mono fun e w' ⟨h1,h2⟩=>⟨h1,by rw[h2];exact ah.refl _ _⟩
 ·obtain⟨g,o,c',hv,hnc,_,hg⟩:=h.some_ (by omega)
  injection hv with hA _ hc;subst hA hc;have hj:=Tryz.strings_Join g o c (xs.map fun l=>(⟨l.toArray⟩:ByteArray)) ⟨#[sep]⟩ w (fun j x hx=>by have:=h.ja j _ (DS hx);rwa [Lib.add_plain]at this) hg (by simpa[hl]using hN) (by simpa[hl]using hnc) (by rw[pU,show(⟨#[sep]⟩:ByteArray).data.toList=[sep]from rfl,mw];exact hlen);rw[pU,show(⟨#[sep]⟩:ByteArray).data.toList=[sep]from rfl,mw,List.length_map,hl]at hj;exact hj.mono fun e w' ⟨h1,h2⟩=>⟨h1,ah.df h2⟩
def DQ(g:Nat)(p:Bool)(tx:Bs)(e:Int):List Sx.Row:=[gY (some g) [.dQ p 0 0,.own 1,.val (.int .i64 e)],⟨5,.own 1 tx.length (qc tx)⟩]
def Ph(g:Nat)(tx:Bs)(e:Int)(l:List Sx.SV)(mem:List Sx.Row):Prop:=
 ∃k,l=[]∧mem[0]?=some (gY (some g) [.dQ true 0 0,.own k,.val (.int .i64 e)])∧mem[k]?=some ⟨5,.own 1 tx.length (qc tx)⟩
theorem lr.gw{g:Nat}{A:Option Go.Addr}{tx:Bs}{e:Int}{w:World}{en:Ending}{w':World}(h:Sx.cI ⟨w,oS g A,fun _ _=>False⟩ (Ph g tx e) en w'):lr g A (.tuple #[]) tx e w en w':=by
 rcases h with⟨β,l,mem,⟨k,rfl,h0,hk⟩,he,hR⟩ | ⟨_,_,hf,_⟩
 ·have r0:=kF.1 (hR.held 0 _ h0)
  have rk:β.n k=tx.length∧Own w' 5 1 (.slice (β.a k) tx.length (β.c k)) tx.length (qc tx):=hR.held k _ hk;have hg:β 0=g:=r0.1 g rfl;have hb:=r0.2;have e1:([Sx.SV.dQ true 0 0,.own k,.val (.int .i64 e)].map (Sx.SV.den β))=[pV true (β 0),β.sl k,.int .i64 e]:=rfl;rw[e1,hg]at hb;unfold Sx.Env.sl at hb;rw[rk.1]at hb;refine⟨β.a k,β.c k,he,⟨hb,rk.2⟩,hR.aD,fun x hx=>?_⟩;rcases hR.new k _ x hk hx with h1|h1
  ·rcases VG.1 h1 with rfl|h1
   ·exact absurd (by rw[FB];exact hx) (rk.2.Ez hb (show(5:Nat)≠132 by decide))
   ·exact .inl (by simpa using h1)
  ·exact .inr h1
 ·exact hf.elim
theorem DP{w:World}{f:FuncId}{fn:Func}{co:Code}{g:Nat}{p:Bool}{A:Option Go.Addr}{c:Nat}{tx tx':Bs}{e e':Int}(rest:List Value)(h:Tx w g p A c tx e)(H:List (Nat×Sx.Hint))(L:List Sx.Loop)
  (hm:prog.follows .mixedOrders=true) (hf:prog.funcs[f]?=some fn) (hb:fn.body=some co) (hn:(rest.length+1)≤fn.ntmps)
  (hx:Sx.lj prog fn.ntmps ⟨w,oS g A,fun _ _=>False⟩ co H L ⟨Sx.lB 0 (.ptr 0 0::rest.map .val),DQ g p tx e⟩ (Sx.eX prog fn (Ph g tx' e'))) :
  Calls prog f (.pointer (some ⟨g,0,none⟩)::rest).toArray w (lr g A (.tuple #[]) tx' e' w):=by
 have hrows:Sx.Rows ⟨w,oS g A,fun _ _=>False⟩ (Sx.cD [.mL g 132 [.dQ p 0 0,.own 1,.val (.int .i64 e)],.own 5 1 A tx.length c (qc tx)]) w (DQ g p tx e):=by
  refine Sx.fT (w:=w) (S:=oS g A) (PP:=fun _ _=>False) (G:=[.mL g 132 [.dQ p 0 0,.own 1,.val (.int .i64 e)],.own 5 1 A tx.length c (qc tx)]) (fun q hq=>?_) (fun q hq k hk=>?_) ?_
  ·rcases VG.1 hq with rfl|hq
   ·exact h.bY
   ·rw[VE.1 hq];exact h.own
  ·rcases VG.1 hq with rfl|hq
   ·cases hk;simp[oS]
   ·rw[VE.1 hq]at hk
    have hk:A.map (·.block)=some k:=hk;unfold oS;rw[hk];simp
  ·have:([Sx.jz.mL g 132 [.dQ p 0 0,.own 1,.val (.int .i64 e)],.own 5 1 A tx.length c (qc tx)].filterMap Sx.jz.block)=[g]++(A.map (·.block)).toList:=by
    cases A<;>rfl
   rw[this,List.singleton_append,VS];refine⟨fun hm=>h.ne ?_,?_⟩
   ·rw[FB];simpa using hm
   ·cases A<;>simp
 have:=Sx.bO (args:=.ptr 0 0::rest.map .val) hrows H L hm hf hb (by simpa using hn) (by
  have:∀l:List Value,Sx.eJ (Sx.zb 2) (l.map .val)=true:=fun l=>by
   induction l with
   |nil=>rfl
   |cons x l ih=>exact ih
  exact this rest) hx
 have ea:((.ptr 0 0::rest.map .val:List Sx.SV).map (Sx.SV.den (Sx.cD [.mL g 132 [.dQ p 0 0,.own 1,.val (.int .i64 e)],.own 5 1 A tx.length c (qc tx)])))=.pointer (some ⟨g,0,none⟩)::rest:=by rw[WA,List.map_map];have:(Sx.SV.den (Sx.cD [.mL g 132 [.dQ p 0 0,.own 1,.val (.int .i64 e)],.own 5 1 A tx.length c (qc tx)]) ∘ Sx.SV.val)=id:=rfl;rw[this,List.map_id];rfl
 rw[ea]at this;exact this.mono fun en w' hp=>lr.gw hp
theorem EG{w:World}{g:Nat}{p:Bool}{A B:Option Go.Addr}{c m cc:Nat}{tx:Bs}{e:Int}(ws:List Bs)(h:Tx w g p A c tx e)(hw:Own w 9 1 (.slice B m cc) m (strs ws))(hm:m≤1000000000)(hl:tx.length+(fL ws).length≤140737488355328) :
  Calls prog 70 #[.pointer (some ⟨g,0,none⟩),.slice B m cc] w (lr g A (.tuple #[]) (tx++fL ws) e w):=by
 have hS:∀k,(VO B m cc).ownBlock=some k→k∉oS g A:=fun k hk hm=>by
  rcases VG.1 hm with rfl|hm
  ·exact hw.Ez h.bY (by decide) hk
  ·exact hw.JL h.own (by decide) k hk (by rw[FB];simpa using hm)
 have hll:(fL ws).length=(aE 32 ws).length+1:=by simp[fL]
 have c8:=fun W (hW:ah (oS g A) w W)=>Aq (hw.aD hW hS) 32 (by omega) (by omega);have c9:=fun W=>rP (.tmp 8) (.const (.string ⟨#[10]⟩)) (aE 32 ws) [10] (by show(aE 32 ws).length+1≤_;omega) W;have c10:=fun W (β:Sx.Env) (hs:Sx.dS ⟨w,oS g A,fun _ _=>False⟩ β W (Sx.rowAt (DQ g p tx e)) [0,1])=>(show Calls prog 141 (([.ptr 0 0,.val (ab (fL ws))]:List Sx.SV).map (Sx.SV.den β)).toArray W (Sx.br ⟨w,oS g A,fun _ _=>False⟩ β W (Sx.rowAt (DQ g p tx e)) 2 (yU [] 0 1 2 (some g) (tx++fL ws) e (.tuple #[.int .i64 ((fL ws).length:Int),.nilIface])))from by obtain⟨ht,hg⟩:=nY (i:=0) (j:=1) (og:=some g) (p:=p) (tx:=tx) (e:=e) hs ⟨rfl,rfl⟩ (by simp) (by simp);show Calls prog 141 #[.pointer (some ⟨β 0,0,none⟩),ab (fL ws)] W _;exact(Mu (fL ws) ht hl).mono fun en w' hp=>rO (i:=0) (j:=1) (m:=2) (p:=p) (tx:=tx) (e:=e) ⟨rfl,rfl⟩ (by omega) (by omega) hg hp);have z0:Ph g (tx++fL ws) e [] [gY (some g) [.dQ true 0 0,.own 2,.val (.int .i64 e)],Sx.ak,⟨5,.own 1 (tx++fL ws).length (qc (tx++fL ws))⟩]:=⟨2,rfl,rfl,rfl⟩;refine DP [.slice B m cc] h [(8,.call (ab (aE 32 ws))),(9,.bin (ab (fL ws))),(10,.au (yU [] 0 1 2 (some g) (tx++fL ws) e (.tuple #[.int .i64 ((fL ws).length:Int),.nilIface])))] [] (by kernel_rfl) func70 rfl (dR rfl) ?_;exact Wo (by kernel_rfl) (Sx.t2 c8 c9 (VY c10 z0))
set_option maxRecDepth 100000
open Go Go.RowKit Go.Lib Go.Sort _root_.Go.Proofs.Tryz
set_option maxRecDepth 100000
theorem Ko(n:Int):Lib.itoa n=cx n:=by unfold Lib.itoa cx;rw[mD,mD]
theorem my(n:Int)(h0 : -9223372036854775808≤n)(h1:n≤9223372036854775807)(w:World)(hl:dD w):Calls prog 71 #[.int .i64 n] w (Rn w (ab (cx n))):=by refine(Tryz.strconv_Itoa n h0 h1 w hl.TN).mono ?_;rintro e w' ⟨rfl,k,os,rfl⟩;exact⟨by rw[Ko];rfl,((ah.refl [] w).drewN k).trans (gH ⟨⟨(w.drewN k).drawn,os⟩,rfl⟩)⟩
theorem kq(n:Nat):cx (n:Int)=ao 10 n:=by unfold cx;rw[if_neg (by omega)];rfl
theorem gP(u:Nat)(h:u < 100000):(ao 10 u).length≤5:=by
 have step:∀u:Nat,¬u < 10→(ao 10 u).length=(ao 10 (u / 10)).length+1:=fun u h=>by rw[dB (by omega) h]; simp
 have one:∀u:Nat,u < 10→(ao 10 u).length=1:=fun u h=>by rw[aX h];rfl
 by_cases a:u < 10
 ·rw[one u a];omega
 rw[step u a];by_cases b:u / 10 < 10
 ·rw[one _ b];omega
 rw[step _ b];by_cases c:u / 10 / 10 < 10
 ·rw[one _ c];omega
 rw[step _ c];by_cases d:u / 10 / 10 / 10 < 10
 ·rw[one _ d];omega
 rw[step _ d,one _ (by omega)];omega
theorem BZ(s:Nat×Nat)(h1:s.1≤65535)(h2:s.2≤65535)(w:World)(hl:dD w):Calls prog 85 #[ly s] w (Rn w (ab (ef s))):=by
 obtain⟨a,b⟩:=s;have h1:a≤65535:=h1;have h2:b≤65535:=h2;have c6:VR .i64 (VX.wrap (a:Int))=.int .i64 (a:Int):=iw (Fs (by omega) (by omega));have c7:=fun W (hW:ah [] w W)=>(show Calls prog 71 #[.int .i64 (a:Int)] W (Rn W (ab (ao 10 a)))from by rw[←kq];exact my (a:Int) (by omega) (by omega) W (hl.cW hW));have la:=gP a (by omega);have lb:=gP b (by omega);by_cases he:a=b
 ·have c12:VP ((a:Int) !=(b:Int))=.bool false:=xl (by rw[he];simp)
  have hr:ef (a,b)=ao 10 a:=by unfold ef;rw[if_pos he]
  rw[hr];have z0:Wc ⟨(ao 10 a).toArray⟩=ab (ao 10 a):=rfl;refine Sx.bX (args:=[ly (a,b)]) [(6,.is (.int .i64 (a:Int))),(7,.call (ab (ao 10 a))),bq 12 false] [] (by kernel_rfl) func85 rfl (dR rfl) ?_;exact Wo (by kernel_rfl) (Sx.t2 c6 c7 (VY c12 z0))
 ·have c12:VP ((a:Int) !=(b:Int))=.bool true:=Bk (by rw[bne_iff_ne];omega)
  have hr:ef (a,b)=ao 10 a++([45]++ao 10 b):=by unfold ef;rw[if_neg he];rfl
  rw[hr];have Bj:VR .i64 (VX.wrap (b:Int))=.int .i64 (b:Int):=iw (Fs (by omega) (by omega));have c17:=fun W (hW:ah [] w W)=>(show Calls prog 71 #[.int .i64 (b:Int)] W (Rn W (ab (ao 10 b)))from by rw[←kq];exact my (b:Int) (by omega) (by omega) W (hl.cW hW));have c18:=fun W=>rP (.const (.string ⟨#[45]⟩)) (.tmp 17) [45] (ao 10 b) (by show 1+(ao 10 b).length≤_;omega) W;have c19:=fun W=>rP (.tmp 13) (.tmp 18) (ao 10 a) ([45]++ao 10 b) (by simp only[VH,VN,VW];omega) W;have z0:Wc ⟨(ao 10 a++([45]++ao 10 b)).toArray⟩=ab (ao 10 a++([45]++ao 10 b)):=rfl;refine Sx.bX (args:=[ly (a,b)]) [(6,.is (.int .i64 (a:Int))),(7,.call (ab (ao 10 a))),bq 12 true,(16,.is (.int .i64 (b:Int))),(17,.call (ab (ao 10 b))),(18,.bin (ab ([45]++ao 10 b))),(19,.bin (ab (ao 10 a++([45]++ao 10 b))))] [] (by kernel_rfl) func85 rfl (dR rfl) ?_;exact Wo (by kernel_rfl) (Sx.t4 c6 c7 c12 Bj (Sx.t2 c17 c18 (VY c19 z0)))
theorem Nq(n:Nat)(h:n≤255)(w:World)(hl:dD w):Calls prog 86 #[.int .u8 (n:Int)] w (Rn w (ab (dw n))):=by
 by_cases h6:n=6
 ·have hr:dw n=lC:=by unfold dw;rw[if_pos h6]
  rw[hr];have c5:VP ((n:Int)==6)=.bool true:=Bk (by rw[h6];rfl);have z0:Wc ⟨#[116,99,112]⟩=ab lC:=rfl;refine Sx.bX (args:=[.int .u8 (n:Int)]) [bq 5 true] [] (by kernel_rfl) func86 rfl (dR rfl) ?_;exact Wo (by kernel_rfl) (VY c5 z0)
 ·have c5:VP ((n:Int)==6)=.bool false:=xl (by rw[beq_eq_false_iff_ne];omega)
  by_cases h17:n=17
  ·have hr:dw n=mv:=by unfold dw;rw[if_neg h6,if_pos h17]
   rw[hr];have c7:VP ((n:Int)==17)=.bool true:=Bk (by rw[h17];rfl);have z0:Wc ⟨#[117,100,112]⟩=ab mv:=rfl;refine Sx.bX (args:=[.int .u8 (n:Int)]) [bq 5 false,bq 7 true] [] (by kernel_rfl) func86 rfl (dR rfl) ?_;exact Wo (by kernel_rfl) (Sx.t2 c5 c7 z0)
  ·have hr:dw n=ao 10 n:=by unfold dw;rw[if_neg h6,if_neg h17]
   rw[hr];have c7:VP ((n:Int)==17)=.bool false:=xl (by rw[beq_eq_false_iff_ne];omega);have c9:VR .i64 (VX.wrap (n:Int))=.int .i64 (n:Int):=iw (Fs (by omega) (by omega));have c10:=fun W (hW:ah [] w W)=>(show Calls prog 71 #[.int .i64 (n:Int)] W (Rn W (ab (ao 10 n)))from by rw[←kq];exact my (n:Int) (by omega) (by omega) W (hl.cW hW));have z0:ab (ao 10 n)=ab (ao 10 n):=rfl;refine Sx.bX (args:=[.int .u8 (n:Int)]) [bq 5 false,bq 7 false,(9,.is (.int .i64 (n:Int))),(10,.call (ab (ao 10 n)))] [] (by kernel_rfl) func86 rfl (dR rfl) ?_;exact Wo (by kernel_rfl) (Sx.t4 c5 c7 c9 c10 z0)
open Go Go.RowKit Go.Lib Go.Sort
def lu(w:World)(S:List Nat)(size:Nat)(s:Value)(n:Nat)(xs:List Value):Prop:=
 xs.length=n*size∧∃A c,s=.slice A n c∧(0 < n→∃g o,A=some ⟨g,o,none⟩∧g∉S∧g < w.heap.size∧∀(j:Nat) (u:Value),xs[j]?=some u→w.cell? ⟨g,o+j,none⟩=some u)
theorem lu.mj{w:World}{S:List Nat}{T size n:Nat}{s:Value}{xs:List Value}(h:Own w T size s n xs)(hS:∀k,s.ownBlock=some k→k∉S):lu w S size s n xs:=by refine⟨h.len,?_⟩;obtain⟨A,c,rfl,_,_⟩:=h.form;refine⟨A,c,rfl,fun h0=>?_⟩;obtain⟨g,o,c',hv,_,_,hg⟩:=h.some_ h0;injection hv with h1 _ _;subst h1;exact⟨g,o,rfl,hS g rfl,hg,fun j u hu=>(Own.cell h hu).1⟩
theorem lu.aD{w w':World}{S:List Nat}{size n:Nat}{s:Value}{xs:List Value}(h:lu w S size s n xs)(hc:ah S w w'):lu w' S size s n xs:=by obtain⟨h1,A,c,h2,h3⟩:=h;refine⟨h1,A,c,h2,fun h0=>?_⟩;obtain⟨g,o,ha,hg,hl,hr⟩:=h3 h0;exact⟨g,o,ha,hg,Wr hl hc.size,fun j u hu=>(hc.cell (p:=⟨g,o+j,none⟩) hl hg).trans (hr j u hu)⟩
theorem lu.sub{w:World}{S S':List Nat}{size n:Nat}{s:Value}{xs:List Value}(h:lu w S size s n xs)(hs:∀k∈S',k∈S∨w.heap.size≤k):lu w S' size s n xs:=by
 obtain⟨h1,A,c,h2,h3⟩:=h;refine⟨h1,A,c,h2,fun h0=>?_⟩;obtain⟨g,o,ha,hg,hl,hr⟩:=h3 h0;exact⟨g,o,ha,fun hm=>by
  rcases hs g hm with h|h
  ·exact hg h
  ·omega,hl,hr⟩
theorem lu.form{w:World}{S:List Nat}{size n:Nat}{s:Value}{xs:List Value}(h:lu w S size s n xs):∃A c,s=.slice A n c:=let ⟨_,A,c,h,_⟩:=h;⟨A,c,h⟩
section
variable{P:Program}{w:World}{S:List Nat}{size n:Nat}{s:Value}
theorem oY{t e:TypeId}{inf:TypeInfo}(hu:P.underlying t=some (.slice e))(hi:P.info? e=some inf)(g o n c i:Nat)(h:i < n)(W:World) :
  (Wb t (.slice (some ⟨g,o,none⟩) n c) (.int .i64 (i:Int))).run P W=.ok (.pointer (some ⟨g,o+i*inf.size,none⟩)) W:=by
 have hb:(0:Int)≤(i:Int)∧(i:Int) < (n:Int):=by omega
 simp[Wb,run_underlying hu,asIntOf,h,sizeOf,typeInfo,hi,Addr.add_lit]
theorem lu.Ij{t e:TypeId}{inf:TypeInfo}{d:TypeDesc}{α:Type}{f:α→List Value}(hf:∀x,(f x).length=size){L:List α}(h:lu w S size s n (L.flatMap f))(hu:P.underlying t=some (.slice e))(hi:P.info? e=some inf)(hs:inf.size=size)(hd:P.underlying e=some d)(hr:d.isRow=true)(h0:0 < size){i:Nat}{x:α}(hx:L[i]?=some x) :
  ∃p,(∀W,ah S w W→(Wb t s (.int .i64 (i:Int))).run P W=.ok p W)∧∀W,ah S w W→(WB e p).run P W=.ok (.agg (f x).toArray) W:=by
 obtain⟨hl,A,c,rfl,h3⟩:=h;have hfl:∀l:List α,(l.flatMap f).length=l.length*size:=fun l=>by
  induction l with
  |nil=>simp
  |cons y r ih=>rw[Wd,VH,hf,ih,VN,Wk];omega
 have hn:L.length=n:=by rw[hfl]at hl;exact Nat.eq_of_mul_eq_mul_right h0 hl
 have hin:i < n:=by rw[←hn];exact(VJ.1 hx).1
 obtain⟨g,o,rfl,hg,hlt,hr2⟩:=h3 (by omega);refine⟨.pointer (some ⟨g,o+i*inf.size,none⟩),fun W _=>oY hu hi g o n c i hin W,fun W hW=>?_⟩;have flat:∀{l:List α} {i c:Nat} {x:α},l[i]?=some x→c < size→(l.flatMap f)[i*size+c]?=(f x)[c]?:=by
  intro l;induction l with
  |nil=>intro i c x h _;simp at h
  |cons y r ih=>
   intro i c x h hc;cases i with
   |zero=>
    have h:y=x:=by simpa using h
    subst h;rw[Wd,List.getElem?_append_left (by rw[hf];omega)];simp
   |succ i=>
    have e:(i+1)*size+c - size=i*size+c:=by rw[Wk]; omega
    rw[Wd,List.getElem?_append_right (by rw[hf,Wk];omega),hf,e];exact ih (by simpa using h) hc
 refine run_loadAt_mid (P:=P) W g (o+i*inf.size) e (f x) d (fun j u hu=>?_) hd hr (by rw[hi];simp[hs,hf]);have hj:j < size:=by rw[←hf x];exact(VJ.1 hu).1
 have:=hr2 (i*size+j) u (by rw[flat hx hj];exact hu);rw[hs,Nat.add_assoc];exact(hW.cell (p:=⟨g,o+(i*size+j),none⟩) hlt hg).trans this
theorem lu.RC{t e:TypeId}{inf:TypeInfo}{d:TypeDesc}{α:Type}{f:α→Value}{L:List α}(h:lu w S 1 s n (L.map f))(hu:P.underlying t=some (.slice e))(hi:P.info? e=some inf)(hs:inf.size=1)(hd:P.underlying e=some d)(hr:d.isRow=false){i:Nat}{x:α}(hx:L[i]?=some x) :
  ∃p,(∀W,ah S w W→(Wb t s (.int .i64 (i:Int))).run P W=.ok p W)∧∀W,ah S w W→(WB e p).run P W=.ok (f x) W:=by
 obtain⟨hl,A,c,rfl,h3⟩:=h;have hn:L.length=n:=by simpa using hl
 have hin:i < n:=by rw[←hn];exact(VJ.1 hx).1
 obtain⟨g,o,rfl,hg,hlt,hr2⟩:=h3 (by omega);refine⟨.pointer (some ⟨g,o+i*inf.size,none⟩),fun W _=>oY hu hi g o n c i hin W,fun W hW=>?_⟩;have:=hr2 i (f x) (by rw[Ws,hx];rfl);have hc:=(hW.cell (p:=⟨g,o+i,none⟩) hlt hg).trans this;rw[hs,Wj];have hagg:(isAgg e).run P W=.ok false W:=by unfold isAgg;rw[VT,run_underlying hd W];cases d<;>simp_all
 rw[Sx.oX];simp[loadVar,VT,hagg,load,Sem.run,hc]
end
set_option maxRecDepth 100000
open Go Go.RowKit Go.Lib Go.Sort _root_.Go.Proofs.Tryz
def tf(bt:Bool)(ws:List Bs):List Bs:=match bt with
 |true=>ws
 |false=>[]
theorem oV(xs:List Bs):(strs xs).length=xs.length:=by simp[strs]
def qb(gm gl:Nat)(A:Option Go.Addr)(mc:List Value)(ys:List Bs)(w:World)(e:Ending)(w':World):Prop:=
 ∃A' c',e=.returned (.tuple #[])∧aq w' gm 66 mc∧aq w' gl 70 [.slice A' ys.length c']∧Own w' 9 1 (.slice A' ys.length c') ys.length (strs ys)∧ah (gm::gl::(A.map (·.block)).toList) w w'∧∀k,A'.map (·.block)=some k→A.map (·.block)=some k∨w.heap.size≤k
structure RT(w:World)(gm gl:Nat)(A:Option Go.Addr)(c:Nat)(m:Mt)(xs ws:List Bs)(v:Value):Prop where
 bm:aq w gm 66 m.cells
 bl:aq w gl 70 [.slice A xs.length c]
 own:Own w 9 1 (.slice A xs.length c) xs.length (strs xs)
 wd:lu w (gm::gl::(A.map (·.block)).toList) 1 v ws.length (strs ws)
def RR(gm gl:Nat)(mc:List Value)(ys:List Bs)(l:List Sx.SV)(mem:List Sx.Row):Prop:=
 ∃k,l=[]∧mem[0]?=some ⟨66,.dj gm mc⟩∧mem[1]?=some ⟨70,.iC gl [.own k]⟩∧mem[k]?=some ⟨9,.own 1 ys.length (strs ys)⟩
theorem qb.gw{gm gl:Nat}{A:Option Go.Addr}{mc:List Value}{ys:List Bs}{w:World}{en:Ending}{w':World}(h:Sx.cI ⟨w,gm::gl::(A.map (·.block)).toList,fun _ _=>False⟩ (RR gm gl mc ys) en w'):qb gm gl A mc ys w en w':=by
 rcases h with⟨β,l,mem,⟨k,rfl,h0,h1,hk⟩,he,hR⟩ | ⟨_,_,hf,_⟩
 ·have r0:=hR.held 0 _ h0
  have r1:=hR.held 1 _ h1;have rk:β.n k=ys.length∧Own w' 9 1 (.slice (β.a k) ys.length (β.c k)) ys.length (strs ys):=hR.held k _ hk;have e0:β 0=gm:=r0.1;have e1:β 1=gl:=r1.1;have hb:=r1.2;have e2:([Sx.SV.own k].map (Sx.SV.den β))=[β.sl k]:=rfl;rw[e1,e2]at hb;unfold Sx.Env.sl at hb;rw[rk.1]at hb;refine⟨β.a k,β.c k,he,e0 ▸ r0.2,hb,rk.2,hR.aD,fun x hx=>?_⟩;rcases hR.new k _ x hk hx with h1|h1
  ·rcases VG.1 h1 with rfl|h1
   ·exact absurd (by rw[FB];exact hx) (rk.2.Ez (e0 ▸ r0.2) (show(9:Nat)≠66 by decide))
   ·rcases VG.1 h1 with rfl|h1
    ·exact absurd (by rw[FB];exact hx) (rk.2.Ez hb (show(9:Nat)≠70 by decide))
    ·exact .inl (by simpa using h1)
  ·exact .inr h1
 ·exact hf.elim
def Jq(gm gl:Nat)(mc:List Value)(xs:List Bs):List Sx.Row:=[⟨66,.dj gm mc⟩,⟨70,.iC gl [.own 2]⟩,⟨9,.own 1 xs.length (strs xs)⟩]
theorem Jp{w:World}{gm gl:Nat}{A:Option Go.Addr}{c:Nat}{m:Mt}{xs ws:List Bs}{v:Value}(h:RT w gm gl A c m xs ws v):Sx.Rows ⟨w,gm::gl::(A.map (·.block)).toList,fun _ _=>False⟩ (Sx.cD [.bY gm 66 m.cells,.mL gl 70 [.own 2],.own 9 1 A xs.length c (strs xs)]) w (Jq gm gl m.cells xs):=by
 refine Sx.fT (w:=w) (S:=gm::gl::(A.map (·.block)).toList) (PP:=fun _ _=>False) (G:=[.bY gm 66 m.cells,.mL gl 70 [.own 2],.own 9 1 A xs.length c (strs xs)]) (fun q hq=>?_) (fun q hq k hk=>?_) ?_
 ·simp only[VG,Wu,or_false]at hq
  rcases hq with rfl|rfl|rfl
  ·exact h.bm
  ·exact h.bl
  ·exact h.own
 ·simp only[VG,Wu,or_false]at hq
  rcases hq with rfl|rfl|rfl
  ·cases hk;simp
  ·cases hk;simp
  ·have hk:A.map (·.block)=some k:=hk
   rw[hk];simp
 ·have e:([Sx.jz.bY gm 66 m.cells,.mL gl 70 [.own 2],.own 9 1 A xs.length c (strs xs)].filterMap Sx.jz.block)=gm::gl::(A.map (·.block)).toList:=by cases A<;>rfl
  rw[e,VS,VS];have n1:gm∉(A.map (·.block)).toList:=fun hm=>h.own.Ez h.bm (by decide) (by rw[FB];simpa using hm);have n2:gl∉(A.map (·.block)).toList:=fun hm=>h.own.Ez h.bl (by decide) (by rw[FB];simpa using hm);refine⟨fun hm=>?_,n2,?_⟩
  ·rcases VG.1 hm with rfl|hm
   ·have:=h.bm.shape.symm.trans h.bl.shape
    simp at this
   ·exact n1 hm
  ·cases A<;>simp
theorem Qt{w:World}{gm gl:Nat}{A:Option Go.Addr}{c:Nat}{m:Mt}{xs ws:List Bs}{v:Value}(ask:Nat)(bt:Bool)(h:RT w gm gl A c m xs ws v)(hb:(bits .and .u8 (m.asks:Int) (ask:Int) !=0)=bt)(hl:xs.length+ws.length≤1000000000) :
  Calls prog 84 #[.int .u8 (ask:Int),v,.pointer (some ⟨gm,0,none⟩),.pointer (some ⟨gl,0,none⟩)] w (qb gm gl A m.cells (xs++tf bt ws) w):=by
 have hR:=Jp h;have c10:VP (bits .and .u8 (m.asks:Int) (ask:Int) !=0)=.bool bt:=bz hb;cases bt with
 |false=>
  have z0:RR gm gl m.cells (xs++[]) [] (Jq gm gl m.cells xs):=by rw[Wh];exact⟨2,rfl,rfl,rfl,rfl⟩
  refine(Sx.bO (args:=[.val (.int .u8 (ask:Int)),.val v,.ptr 0 0,.ptr 1 0]) hR [bq 10 false] [] (by kernel_rfl) func84 rfl (dR rfl) rfl ?_).mono fun en w' hp=>qb.gw hp;exact Wo (by kernel_rfl) (VY c10 z0)
 |true=>
  obtain⟨A2,c2,hv⟩:=h.wd.form;have c13:(∀W,ah (gm::gl::(A.map (·.block)).toList) w W→∃B d,v=.slice B ws.length d∧(0 < (strs ws).length→∃ad,B=some ad∧∀(j:Nat) (u:Value),(strs ws)[j]?=some u→W.cell? (ad.add j)=some u))∧(strs ws).length=ws.length*1∧(∀u∈strs ws,u.oneCell'=true)∧xs.length+ws.length≤maxLen∧(xs.length+ws.length)*16≤140737488355328:=by
   refine⟨fun W hW=>?_,by rw[oV,Wj],fun u hu=>?_,by unfold maxLen;omega,by omega⟩
   ·obtain⟨_,B,d,h2,h3⟩:=h.wd.aD hW
    refine⟨B,d,h2,fun h0=>?_⟩;obtain⟨g,o,rfl,_,_,hr⟩:=h3 (by rw[oV]at h0;exact h0);exact⟨_,rfl,fun j u hu=>by rw[Addr.add_lit];exact hr j u hu⟩
   ·obtain⟨l,_,rfl⟩:=List.mem_map.1 hu
    rfl
  have z0:RR gm gl m.cells (xs++ws) [] [⟨66,.dj gm m.cells⟩,⟨70,.iC gl [.own 3]⟩,Sx.ak,⟨9,.own 1 (xs.length+ws.length) (strs xs++strs ws)⟩]:=⟨3,rfl,rfl,rfl,by rw[VH,show strs (xs++ws)=strs xs++strs ws by simp[strs]];rfl⟩;refine(Sx.bO (args:=[.val (.int .u8 (ask:Int)),.val v,.ptr 0 0,.ptr 1 0]) hR [bq 10 true,(13,.app ws.length (strs ws))] [] (by kernel_rfl) func84 rfl (dR rfl) rfl ?_).mono fun en w' hp=>qb.gw hp;exact Wo (by kernel_rfl) (Sx.t2 c10 c13 z0)
def pg(j k m:Nat)(mc:List Value)(ys:List Bs):Sx.cn:=⟨[0,1,j,k],[(0,⟨66,.ai mc⟩),(1,⟨70,.cU [.own m]⟩)],[j],[⟨9,.own 1 ys.length (strs ys)⟩],.val (.tuple #[]),none⟩
theorem jY{b:Sx.aY}{row:Nat→Option Sx.Row}{j k mm:Nat}{m:Mt}{xs:List Bs}(x y:Bs)(ask:Nat)(bt:Bool)(r0:row 0=some ⟨66,.ai m.cells⟩)(r1:row 1=some ⟨70,.cU [.own j]⟩)(rj:row j=some ⟨9,.own 1 xs.length (strs xs)⟩)(rk:row k=some ⟨9,.ai [ab x,ab y]⟩)
  (hj:1 < j) (hk:j < k) (_hm:k < mm) (hb:(bits .and .u8 (m.asks:Int) (ask:Int) !=0)=bt) (hl:xs.length≤1000) (W:World) (β:Sx.Env) (hS:Sx.dS b β W row [0,1,j,k]) :
  Calls prog 84 (([.val (.int .u8 (ask:Int)),.lO k 0 2 2,.ptr 0 0,.ptr 1 0]:List Sx.SV).map (Sx.SV.den β)).toArray W (Sx.br b β W row mm (pg j k mm m.cells (xs++tf bt [x,y]))):=by
 have h0:aq W (β 0) 66 m.cells:=hS.held 0 (by simp) _ r0;have h1:aq W (β 1) 70 [β.sl j]:=hS.held 1 (by simp) _ r1;have h2:β.n j=xs.length∧Own W 9 1 (.slice (β.a j) xs.length (β.c j)) xs.length (strs xs):=hS.held j (by simp) _ rj;have h3:aq W (β k) 9 [ab x,ab y]:=hS.held k (by simp) _ rk;have hb1:aq W (β 1) 70 [.slice (β.a j) xs.length (β.c j)]:=by unfold Sx.Env.sl at h1;rw[h2.1]at h1;exact h1
 have nk:β k∉β 0::β 1::((β.a j).map (·.block)).toList:=fun hh=>by
  rcases VG.1 hh with hh|hh
  ·have:=hS.inj k (by simp) 0 (by simp) _ _ (β k) rk r0 rfl (by show some (β 0)=_;rw[hh])
   omega
  rcases VG.1 hh with hh|hh
  ·have:=hS.inj k (by simp) 1 (by simp) _ _ (β k) rk r1 rfl (by show some (β 1)=_;rw[hh])
   omega
  ·have:=hS.inj k (by simp) j (by simp) _ _ (β k) rk rj rfl (by show(β.a j).map (·.block)=some (β k);simpa using hh)
   omega
 have hH:RT W (β 0) (β 1) (β.a j) (β.c j) m xs [x,y] (.slice (some ⟨β k,0,none⟩) 2 2):=⟨h0,hb1,h2.2,⟨rfl,_,_,rfl,fun _=>⟨β k,0,rfl,nk,h3.lt,fun i u hu=>by have:=h3.cell_of (i:=i) (v:=u) hu;simpa using this⟩⟩⟩;show Calls prog 84 #[.int .u8 (ask:Int),.slice (some ⟨β k,0,none⟩) 2 2,.pointer (some ⟨β 0,0,none⟩),.pointer (some ⟨β 1,0,none⟩)] W _;refine(Qt ask bt hH hb (by simp only[VN,VW];omega)).mono fun en w' hp=>?_;generalize xs++tf bt [x,y]=ys at hp;obtain⟨A',c',he,b0,b1,ho,hc,hn⟩:=hp;refine .inl ⟨fun p hp=>(by cases hp),Pt β mm A' ys.length c',fun i hi=>⟨rfl,?_,?_,?_⟩,he,fun q hq=>?_,fun i r hr=>?_,fun i r x hr hx=>?_,fun i i' r r' x hr hr' _ _=>?_,hc.mono fun i hi=>.inl ?_⟩
 ·show β.a i=if i=mm then A' else β.a i
  rw[if_neg (by omega)]
 ·show β.n i=if i=mm then ys.length else β.n i
  rw[if_neg (by omega)]
 ·show β.c i=if i=mm then c' else β.c i
  rw[if_neg (by omega)]
 ·have hq:q=(0,⟨66,.ai m.cells⟩)∨q=(1,⟨70,.cU [.own mm]⟩):=by
   have:q∈[(0,(⟨66,.ai m.cells⟩:Sx.Row)),(1,⟨70,.cU [.own mm]⟩)]:=hq;simpa using this
  rcases hq with rfl|rfl
  ·exact b0
  ·show aq w' (β 1) 70 [.slice (if mm=mm then A' else β.a mm) (if mm=mm then ys.length else β.n mm) (if mm=mm then c' else β.c mm)]
   rw[if_pos rfl,if_pos rfl,if_pos rfl];exact b1
 ·match i,hr with
  | 0,hr=>cases hr;show(if mm+0=mm then ys.length else β.n (mm+0))=ys.length∧Own w' 9 1 (.slice (if mm+0=mm then A' else β.a (mm+0)) ys.length (if mm+0=mm then c' else β.c (mm+0))) ys.length (strs ys);rw[VU,if_pos rfl,if_pos rfl,if_pos rfl];exact⟨rfl,ho⟩
 ·match i,hr with
  | 0,hr=>
   cases hr;have hx:(if mm+0=mm then A' else β.a (mm+0)).map (·.block)=some x:=hx;rw[VU,if_pos rfl]at hx;rcases hn x hx with h1|h1
   ·refine .inl (VF.2 ⟨j,by simp[pg],?_⟩)
    unfold Sx.cg;rw[rj];exact h1
   ·exact .inr h1
 ·match i,i',hr,hr' with
  | 0,0,_,_=>rfl
 ·show i∈([0,1]++[j]).filterMap (Sx.cg β row)
  rcases VG.1 hi with rfl|hi
  ·refine VF.2 ⟨0,by simp,?_⟩
   unfold Sx.cg;rw[r0];rfl
  rcases VG.1 hi with rfl|hi
  ·refine VF.2 ⟨1,by simp,?_⟩
   unfold Sx.cg;rw[r1];rfl
  ·refine VF.2 ⟨j,by simp,?_⟩
   unfold Sx.cg;rw[rj];show(β.a j).map (·.block)=some i;simpa using hi
set_option maxRecDepth 100000
open Go Go.RowKit Go.Lib Go.Sort _root_.Go.Proofs.Tryz
set_option maxRecDepth 100000
theorem Nt:∀(a:Fin 256) (k:Fin 6),(bits .and .u8 (a.val:Int) ((2^k.val:Nat):Int) !=0)=a.val.testBit k.val:=by decide+kernel
theorem vT(m:Mt)(hm:m.Wf)(k:Nat)(hk:k < 6):(bits .and .u8 (m.asks:Int) ((2^k:Nat):Int) !=0)=m.asks.testBit k:=Nt ⟨m.asks,hm.asks⟩ ⟨k,hk⟩
theorem jR(s:Nat×Nat)(h1:s.1≤65535)(h2:s.2≤65535):(ef s).length≤11:=by
 have la:=gP s.1 (by omega);have lb:=gP s.2 (by omega);unfold ef;split
 ·omega
 ·simp only[VH,VN];omega
theorem vR(n:Nat)(h:n≤255):(dw n).length≤5:=by
 have la:=gP n (by omega);unfold dw;split
 ·decide
 split
 ·decide
 ·omega
theorem rU(p:Px):(tb p).length≤100000000:=by
 unfold tb tm;split
 ·rename_i h
  exact Fu (by unfold gv at h;simp only[Bool.and_eq_true,decide_eq_true_eq]at h;exact h.1.2)
 ·exact Wa _
theorem oz(c:UInt8)(N:Nat):∀xs:List Bs,(∀x∈xs,x.length≤N)→(aE c xs).length≤xs.length*(N+1)
 | [],_=>Wa _
 | [x],h=>by have:=h x (by simp);show x.length≤1*(N+1);omega
 |x::y::r,h=>by have:=h x (by simp);have ih:=oz c N (y::r) fun z hz=>h z (VK _ hz);show(x++c::aE c (y::r)).length≤_;simp only[VH,VN,Wk,Nat.one_mul]at ih ⊢;omega
theorem JN(_n:Nat)(y:List Bs)(hy:y.length≤12)(hx:∀x∈y,x.length≤100000000)(w W:World)(_:ah [] w W)(s:Value)(ho:Own W 9 1 s y.length (strs y)):Calls prog 87 #[s,.string ⟨#[32]⟩] W (Sx.eC W (.val (ab (aE 32 y)))):=by obtain⟨A,c,rfl,_,_⟩:=ho.form;have  :=oz 32 100000000 y hx;have h2:y.length*(100000000+1)≤12*(100000000+1):=Nat.mul_le_mul_right _ hy;exact Aq ho 32 (by omega) (by omega)
theorem Qy(m:Mt)(hm:m.Wf)(hc:bp m=false)(w:World):Calls prog 31 #[oO m] w (Rn w (.tuple #[ab [],.int .i64 190])):=by have c12:=fun W (_:ah [] w W)=>(show Calls prog 83 #[oO m] W (Rn W (.int .i64 190))from by have:=pw m hm W;rw[hc]at this;exact this);have z0:Wp #[.string ⟨#[]⟩,.int .i64 190]=.tuple #[ab [],.int .i64 190]:=rfl;refine Sx.bX (args:=[oO m]) [(12,.call (.int .i64 190))] [] (by kernel_rfl) func31 rfl (dR rfl) ?_;exact Wo (by kernel_rfl) (VY c12 z0)
theorem Qz(m:Mt)(hm:m.Wf)(hc:bp m=true)(ha:m.asks=0)(w:World):Calls prog 31 #[oO m] w (Rn w (.tuple #[ab kZ,.int .i64 0])):=by have c12:=fun W (_:ah [] w W)=>(show Calls prog 83 #[oO m] W (Rn W (.int .i64 0))from by have:=pw m hm W;rw[hc]at this;exact this);have c18:VP ((m.asks:Int)==0)=.bool true:=Bk (by rw[ha];rfl);have z0:Wp #[.string ⟨#[97,110,121]⟩,.int .i64 0]=.tuple #[ab kZ,.int .i64 0]:=rfl;refine Sx.bX (args:=[oO m]) [(12,.call (.int .i64 0)),bq 18 true] [] (by kernel_rfl) func31 rfl (dR rfl) ?_;exact Wo (by kernel_rfl) (Sx.t2 c12 c18 z0)
theorem SL(m:Mt)(hm:m.Wf)(hc:bp m=true)(ha:m.asks≠0)(w:World)(hl:dD w):Calls prog 31 #[oO m] w (Rn w (.tuple #[ab (aE 32 (fA m)),.int .i64 0])):=by
 have c12:=fun W (_:ah [] w W)=>(show Calls prog 83 #[oO m] W (Rn W (.int .i64 0))from by have:=pw m hm W;rw[hc]at this;exact this);have c18:VP ((m.asks:Int)==0)=.bool false:=xl (by rw[beq_eq_false_iff_ne];omega);have c23:=fun W (hW:ah [] w W)=>BT m.src.v m.src.n m.src.k hm.sn W (hl.cW hW);have Dp:=fun W (hW:ah [] w W)=>BT m.dst.v m.dst.n m.dst.k hm.dn W (hl.cW hW);have Ho:=fun W (hW:ah [] w W)=>BZ m.fE hm.fE.1 hm.fE.2 W (hl.cW hW);have c49:=fun W (hW:ah [] w W)=>Nq m.bE hm.pr W (hl.cW hW);have c55:=fun W (hW:ah [] w W)=>BZ m.sp hm.sp.1 hm.sp.2 W (hl.cW hW);have c61:=fun W (hW:ah [] w W)=>BZ m.dp hm.dp.1 hm.dp.2 W (hl.cW hW);have hb0:=vT m hm 0 (by omega);have hb1:=vT m hm 1 (by omega);have hb2:=vT m hm 2 (by omega);have hb3:=vT m hm 3 (by omega);have hb4:=vT m hm 4 (by omega);have hb5:=vT m hm 5 (by omega);obtain⟨t0,ht0⟩:∃t:Bs,t=ef m.fE:=⟨_,rfl⟩;obtain⟨t1,ht1⟩:∃t:Bs,t=tb m.src:=⟨_,rfl⟩;obtain⟨t2,ht2⟩:∃t:Bs,t=tb m.dst:=⟨_,rfl⟩;obtain⟨t3,ht3⟩:∃t:Bs,t=dw m.bE:=⟨_,rfl⟩;obtain⟨t4,ht4⟩:∃t:Bs,t=ef m.sp:=⟨_,rfl⟩;obtain⟨t5,ht5⟩:∃t:Bs,t=ef m.dp:=⟨_,rfl⟩;have l0:t0.length≤100000000:=by rw[ht0];exact VL (jR _ hm.fE.1 hm.fE.2) (by omega)
 have l1:t1.length≤100000000:=by rw[ht1];exact rU _
 have l2:t2.length≤100000000:=by rw[ht2];exact rU _
 have l3:t3.length≤100000000:=by rw[ht3];exact VL (vR _ hm.pr) (by omega)
 have l4:t4.length≤100000000:=by rw[ht4];exact VL (jR _ hm.sp.1 hm.sp.2) (by omega)
 have l5:t5.length≤100000000:=by rw[ht5];exact VL (jR _ hm.dp.1 hm.dp.2) (by omega)
 obtain⟨y0,hy0⟩:∃y,y=([]:List Bs)++tf (m.asks.testBit 0) [wD,t0]:=⟨_,rfl⟩;obtain⟨y1,hy1⟩:∃y,y=y0++tf (m.asks.testBit 1) [lD,t1]:=⟨_,rfl⟩;obtain⟨y2,hy2⟩:∃y,y=y1++tf (m.asks.testBit 2) [nJ,t2]:=⟨_,rfl⟩;obtain⟨y3,hy3⟩:∃y,y=y2++tf (m.asks.testBit 3) [fD,t3]:=⟨_,rfl⟩;obtain⟨y4,hy4⟩:∃y,y=y3++tf (m.asks.testBit 4) [gV,t4]:=⟨_,rfl⟩;obtain⟨y5,hy5⟩:∃y,y=y4++tf (m.asks.testBit 5) [iT,t5]:=⟨_,rfl⟩;have hy:y5=fA m:=by rw[hy5,hy4,hy3,hy2,hy1,hy0,ht0,ht1,ht2,ht3,ht4,ht5];rfl
 have bd:∀(x:List Bs) (b:Bool) (p q:Bs) (n:Nat),x.length≤n→(x++tf b [p,q]).length≤n+2:=fun x b p q n h=>by
  rw[VH];cases b
  ·show x.length+0≤_;omega
  ·show x.length+2≤_;omega
 have bx:∀(x:List Bs) (b:Bool) (p q:Bs),(∀z∈x,z.length≤100000000)→p.length≤100000000→q.length≤100000000→∀z∈x++tf b [p,q],z.length≤100000000:=fun x b p q h hp hq z hz=>by
  rcases Ww.1 hz with hz|hz
  ·exact h z hz
  ·cases b with
   |true=>
    have hz:z∈[p,q]:=hz;rcases VG.1 hz with rfl|hz
    ·exact hp
    ·rw[VE.1 hz];exact hq
   |false=>cases hz
 have n0:y0.length≤2:=by rw[hy0];exact bd _ _ _ _ 0 (VI 0)
 have x0:∀z∈y0,z.length≤100000000:=by rw[hy0];exact bx _ _ _ _ (by simp) (by decide) l0
 have n1:y1.length≤4:=by rw[hy1];exact bd _ _ _ _ 2 n0
 have x1:∀z∈y1,z.length≤100000000:=by rw[hy1];exact bx _ _ _ _ x0 (by decide) l1
 have n2:y2.length≤6:=by rw[hy2];exact bd _ _ _ _ 4 n1
 have x2:∀z∈y2,z.length≤100000000:=by rw[hy2];exact bx _ _ _ _ x1 (by decide) l2
 have n3:y3.length≤8:=by rw[hy3];exact bd _ _ _ _ 6 n2
 have x3:∀z∈y3,z.length≤100000000:=by rw[hy3];exact bx _ _ _ _ x2 (by decide) l3
 have n4:y4.length≤10:=by rw[hy4];exact bd _ _ _ _ 8 n3
 have x4:∀z∈y4,z.length≤100000000:=by rw[hy4];exact bx _ _ _ _ x3 (by decide) l4
 have n5:y5.length≤12:=by rw[hy5];exact bd _ _ _ _ 10 n4
 have x5:∀z∈y5,z.length≤100000000:=by rw[hy5];exact bx _ _ _ _ x4 (by decide) l5
 rw[←hy];have c37:=fun W β (hS:Sx.dS ⟨w,[],fun _ _=>False⟩ β W (Sx.rowAt [⟨66,.ai m.cells⟩,⟨70,.cU [.own 2]⟩,⟨9,.own 1 ([]:List Bs).length (strs ([]:List Bs))⟩,⟨9,.ai [ab wD,ab t0]⟩]) [0,1,2,3])=>(show Calls prog 84 (([.val (.int .u8 ((2^0:Nat):Int)),.lO 3 0 2 2,.ptr 0 0,.ptr 1 0]:List Sx.SV).map (Sx.SV.den β)).toArray W (Sx.br ⟨w,[],fun _ _=>False⟩ β W (Sx.rowAt [⟨66,.ai m.cells⟩,⟨70,.cU [.own 2]⟩,⟨9,.own 1 ([]:List Bs).length (strs ([]:List Bs))⟩,⟨9,.ai [ab wD,ab t0]⟩]) 4 (pg 2 3 4 m.cells y0))from by rw[hy0];exact jY wD t0 (2^0) (m.asks.testBit 0) rfl rfl rfl rfl (by omega) (by omega) (by omega) hb0 (Wa _) W β hS);have c41:=fun W β (hS:Sx.dS ⟨w,[],fun _ _=>False⟩ β W (Sx.rowAt [⟨66,.ai m.cells⟩,⟨70,.cU [.own 4]⟩,Sx.ak,⟨9,.ai [ab wD,ab t0]⟩,⟨9,.own 1 y0.length (strs y0)⟩,⟨9,.ai [ab lD,ab t1]⟩]) [0,1,4,5])=>(show Calls prog 84 (([.val (.int .u8 ((2^1:Nat):Int)),.lO 5 0 2 2,.ptr 0 0,.ptr 1 0]:List Sx.SV).map (Sx.SV.den β)).toArray W (Sx.br ⟨w,[],fun _ _=>False⟩ β W (Sx.rowAt [⟨66,.ai m.cells⟩,⟨70,.cU [.own 4]⟩,Sx.ak,⟨9,.ai [ab wD,ab t0]⟩,⟨9,.own 1 y0.length (strs y0)⟩,⟨9,.ai [ab lD,ab t1]⟩]) 6 (pg 4 5 6 m.cells y1))from by rw[hy1];exact jY lD t1 (2^1) (m.asks.testBit 1) rfl rfl rfl rfl (by omega) (by omega) (by omega) hb1 (VL n0 (by omega)) W β hS);have c45:=fun W β (hS:Sx.dS ⟨w,[],fun _ _=>False⟩ β W (Sx.rowAt [⟨66,.ai m.cells⟩,⟨70,.cU [.own 6]⟩,Sx.ak,⟨9,.ai [ab wD,ab t0]⟩,Sx.ak,⟨9,.ai [ab lD,ab t1]⟩,⟨9,.own 1 y1.length (strs y1)⟩,⟨9,.ai [ab nJ,ab t2]⟩]) [0,1,6,7])=>(show Calls prog 84 (([.val (.int .u8 ((2^2:Nat):Int)),.lO 7 0 2 2,.ptr 0 0,.ptr 1 0]:List Sx.SV).map (Sx.SV.den β)).toArray W (Sx.br ⟨w,[],fun _ _=>False⟩ β W (Sx.rowAt [⟨66,.ai m.cells⟩,⟨70,.cU [.own 6]⟩,Sx.ak,⟨9,.ai [ab wD,ab t0]⟩,Sx.ak,⟨9,.ai [ab lD,ab t1]⟩,⟨9,.own 1 y1.length (strs y1)⟩,⟨9,.ai [ab nJ,ab t2]⟩]) 8 (pg 6 7 8 m.cells y2))from by rw[hy2];exact jY nJ t2 (2^2) (m.asks.testBit 2) rfl rfl rfl rfl (by omega) (by omega) (by omega) hb2 (VL n1 (by omega)) W β hS);have c51:=fun W β (hS:Sx.dS ⟨w,[],fun _ _=>False⟩ β W (Sx.rowAt [⟨66,.ai m.cells⟩,⟨70,.cU [.own 8]⟩,Sx.ak,⟨9,.ai [ab wD,ab t0]⟩,Sx.ak,⟨9,.ai [ab lD,ab t1]⟩,Sx.ak,⟨9,.ai [ab nJ,ab t2]⟩,⟨9,.own 1 y2.length (strs y2)⟩,⟨9,.ai [ab fD,ab t3]⟩]) [0,1,8,9])=>(show Calls prog 84 (([.val (.int .u8 ((2^3:Nat):Int)),.lO 9 0 2 2,.ptr 0 0,.ptr 1 0]:List Sx.SV).map (Sx.SV.den β)).toArray W (Sx.br ⟨w,[],fun _ _=>False⟩ β W (Sx.rowAt [⟨66,.ai m.cells⟩,⟨70,.cU [.own 8]⟩,Sx.ak,⟨9,.ai [ab wD,ab t0]⟩,Sx.ak,⟨9,.ai [ab lD,ab t1]⟩,Sx.ak,⟨9,.ai [ab nJ,ab t2]⟩,⟨9,.own 1 y2.length (strs y2)⟩,⟨9,.ai [ab fD,ab t3]⟩]) 10 (pg 8 9 10 m.cells y3))from by rw[hy3];exact jY fD t3 (2^3) (m.asks.testBit 3) rfl rfl rfl rfl (by omega) (by omega) (by omega) hb3 (VL n2 (by omega)) W β hS);have c57:=fun W β (hS:Sx.dS ⟨w,[],fun _ _=>False⟩ β W (Sx.rowAt [⟨66,.ai m.cells⟩,⟨70,.cU [.own 10]⟩,Sx.ak,⟨9,.ai [ab wD,ab t0]⟩,Sx.ak,⟨9,.ai [ab lD,ab t1]⟩,Sx.ak,⟨9,.ai [ab nJ,ab t2]⟩,Sx.ak,⟨9,.ai [ab fD,ab t3]⟩,⟨9,.own 1 y3.length (strs y3)⟩,⟨9,.ai [ab gV,ab t4]⟩]) [0,1,10,11])=>(show Calls prog 84 (([.val (.int .u8 ((2^4:Nat):Int)),.lO 11 0 2 2,.ptr 0 0,.ptr 1 0]:List Sx.SV).map (Sx.SV.den β)).toArray W (Sx.br ⟨w,[],fun _ _=>False⟩ β W (Sx.rowAt [⟨66,.ai m.cells⟩,⟨70,.cU [.own 10]⟩,Sx.ak,⟨9,.ai [ab wD,ab t0]⟩,Sx.ak,⟨9,.ai [ab lD,ab t1]⟩,Sx.ak,⟨9,.ai [ab nJ,ab t2]⟩,Sx.ak,⟨9,.ai [ab fD,ab t3]⟩,⟨9,.own 1 y3.length (strs y3)⟩,⟨9,.ai [ab gV,ab t4]⟩]) 12 (pg 10 11 12 m.cells y4))from by rw[hy4];exact jY gV t4 (2^4) (m.asks.testBit 4) rfl rfl rfl rfl (by omega) (by omega) (by omega) hb4 (VL n3 (by omega)) W β hS);have c63:=fun W β (hS:Sx.dS ⟨w,[],fun _ _=>False⟩ β W (Sx.rowAt [⟨66,.ai m.cells⟩,⟨70,.cU [.own 12]⟩,Sx.ak,⟨9,.ai [ab wD,ab t0]⟩,Sx.ak,⟨9,.ai [ab lD,ab t1]⟩,Sx.ak,⟨9,.ai [ab nJ,ab t2]⟩,Sx.ak,⟨9,.ai [ab fD,ab t3]⟩,Sx.ak,⟨9,.ai [ab gV,ab t4]⟩,⟨9,.own 1 y4.length (strs y4)⟩,⟨9,.ai [ab iT,ab t5]⟩]) [0,1,12,13])=>(show Calls prog 84 (([.val (.int .u8 ((2^5:Nat):Int)),.lO 13 0 2 2,.ptr 0 0,.ptr 1 0]:List Sx.SV).map (Sx.SV.den β)).toArray W (Sx.br ⟨w,[],fun _ _=>False⟩ β W (Sx.rowAt [⟨66,.ai m.cells⟩,⟨70,.cU [.own 12]⟩,Sx.ak,⟨9,.ai [ab wD,ab t0]⟩,Sx.ak,⟨9,.ai [ab lD,ab t1]⟩,Sx.ak,⟨9,.ai [ab nJ,ab t2]⟩,Sx.ak,⟨9,.ai [ab fD,ab t3]⟩,Sx.ak,⟨9,.ai [ab gV,ab t4]⟩,⟨9,.own 1 y4.length (strs y4)⟩,⟨9,.ai [ab iT,ab t5]⟩]) 14 (pg 12 13 14 m.cells y5))from by rw[hy5];exact jY iT t5 (2^5) (m.asks.testBit 5) rfl rfl rfl rfl (by omega) (by omega) (by omega) hb5 (VL n4 (by omega)) W β hS);have c65:=fun W hW s ho=>JN 0 y5 n5 x5 w W hW s ho;have z0:Wp #[ab (aE 32 y5),.int .i64 0]=.tuple #[ab (aE 32 y5),.int .i64 0]:=rfl;rw[←ht0]at Ho;have c23:∀W,ah [] w W→Calls prog 72 #[rT m.src] W (Rn W (.tuple #[ab t1,.int .i64 (fH m.src.v m.src.n m.src.k)])):=by rw[ht1];exact c23
 have Dp:∀W,ah [] w W→Calls prog 72 #[rT m.dst] W (Rn W (.tuple #[ab t2,.int .i64 (fH m.dst.v m.dst.n m.dst.k)])):=by rw[ht2];exact Dp
 rw[←ht3]at c49;rw[←ht4]at c55;rw[←ht5]at c61;clear hy ht0 ht1 ht2 ht3 ht4 ht5 hy0 hy1 hy2 hy3 hy4 hy5;refine Sx.bX (args:=[oO m]) [(12,.call (.int .i64 0)),bq 18 false,(5,.tM [(0,9,1)]),(23,.call (.tuple #[ab t1,.int .i64 (fH m.src.v m.src.n m.src.k)])),(29,.call (.tuple #[ab t2,.int .i64 (fH m.dst.v m.dst.n m.dst.k)])),(35,.call (ab t0)),(49,.call (ab t3)),(55,.call (ab t4)),(61,.call (ab t5)),(37,.au (pg 2 3 4 m.cells y0)),(41,.au (pg 4 5 6 m.cells y1)),(45,.au (pg 6 7 8 m.cells y2)),(51,.au (pg 8 9 10 m.cells y3)),(57,.au (pg 10 11 12 m.cells y4)),(63,.au (pg 12 13 14 m.cells y5)),(65,.dc (.val (ab (aE 32 y5))))] [] (by kernel_rfl) func31 rfl (dR rfl) ?_;exact Wo (by kernel_rfl) (Sx.t8 c12 c18 c23 Dp Ho c37 c41 c45 (Sx.t4 c49 c51 c55 c57 (Sx.t2 c61 c63 (VY c65 z0))))
theorem xI(m:Mt)(hm:m.Wf)(w:World)(hl:dD w):Calls prog 31 #[oO m] w (Rn w (.tuple #[ab (Gb m),.int .i64 (if bp m=true then 0 else 190)])):=by
 unfold Gb;cases hc:bp m with
 |false=>exact Qy m hm hc w
 |true=>
  show Calls prog 31 #[oO m] w (Rn w (.tuple #[ab (iP m),.int .i64 0]));by_cases ha:m.asks=0
  ·rw[show iP m=kZ by unfold iP;rw[if_pos ha]]
   exact Qz m hm hc ha w
  ·rw[show iP m=aE 32 (fA m)by unfold iP;rw[if_neg ha]]
   exact SL m hm hc ha w hl
open Go Go.RowKit Go.Lib Go.Sort
theorem ID{xs:List Bs}{i:Nat}{x:Bs}(h:xs[i]?=some x):(strs xs)[i]?=some (ab x):=by unfold strs;rw[Ws,h];rfl
open Go Go.RowKit Go.Lib Go.Sort
def LP{α:Type}(n:Nat)(q:RA α):Prop:=∀st:RS,st.at_≤n→st.e≤1000→(q st).2.at_≤n∧(q st).2.e≤1000
theorem iM{n:Nat}{ws:List Bs}(h:ws.length=n):LP n (dJ ws):=fun st h1 h2=>by
 unfold dJ;cases Wy st.e 0 with
 |false=>exact⟨h1,h2⟩
 |true=>
  cases hx:ws[st.at_]? with
  |none=>exact⟨h1,(by decide:200≤1000)⟩
  |some x=>exact⟨by rw[←h];exact(VJ.1 hx).1,(by decide:0≤1000)⟩
theorem ql{n code:Nat}{st:RS}(hc:code≤1000)(h1:st.at_≤n)(h2:st.e≤1000):(jH code st).at_≤n∧(jH code st).e≤1000:=by
 unfold jH;cases Wy st.e 0 with
 |false=>exact⟨h1,h2⟩
 |true=>exact⟨by show st.at_ - 1≤n; omega,hc⟩
theorem xG{α:Type}{n code:Nat}{ok:Bool}{a:α}(hc:code≤1000):LP n (Co ok code a):=fun st h1 h2=>by
 cases ok with
 |true=>exact⟨h1,h2⟩
 |false=>exact ql hc h1 h2
theorem jW{α:Type}{n:Nat}{a:α}:LP n (oZ a):=fun _ h1 h2=>⟨h1,h2⟩
theorem fU{α β:Type}{n:Nat}{q:RA α}{f:α→RA β}(h:LP n q)(hf:∀a,LP n (f a)):LP n (iO q f):=fun st h1 h2=>by obtain⟨h3,h4⟩:=h st h1 h2;exact hf _ _ h3 h4
theorem Pj.next{w W:World}{S:List Nat}{g:Nat}{A:Option Go.Addr}{n c:Nat}{st:RS}{ws:List Bs}(h:Pj w S g A n c st ws)(hc:ah S w W)(hb:aq W g 114 (Qo A n c (dJ ws st).2)):Pj W S g A n c (dJ ws st).2 ws:=
 let ⟨h1,h2⟩:=iM h.rM.len st h.le h.eb
 h.at hc hb h1 h2
theorem Pj.low{w:World}{S:List Nat}{g:Nat}{A:Option Go.Addr}{n c:Nat}{st:RS}{ws:List Bs}(h:Pj w S g A n c st ws):Pj w [g] g A n c st ws:=
 ⟨h.bY,h.rM.sub (fun x hx=>by rw[VE.1 hx];exact h.gS),by simp,h.le,h.bd,h.eb,h.sz⟩
section
variable{w:World}{g:Nat}{A:Option Go.Addr}{n c:Nat}{st:RS}{ws:List Bs}
end
end Go.Proofs.YtnncigmpcdehnaaGreatDoor
