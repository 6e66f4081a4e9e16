import Derived.Test.YtnncigmpcdehnaaGreatDoorQf26
import Derived.LaidEql
import Derived.Stop.Asserts
import Derived.RowKitTokens
namespace Go.Proofs.YtnncigmpcdehnaaGreatDoor
set_option maxRecDepth 100000
open Go.RowKit Go.Lib Go.Sort _root_.Go.Proofs.Tryz
set_option maxRecDepth 100000
theorem qn{t:Nat}{sv:Sx.SV}:∀{fr:List (Nat×Sx.SV)},Sx.look fr t=some sv→(t,sv)∈fr
 | [],h=>by cases h
 | (k,v)::r,h=>by
  rw[Sx.fL]at h
  split at h
  ·rename_i hk
   subst hk
   rw[Sx.cg h]
   simp
  ·exact List.mem_cons_of_mem _ (qn h)
theorem D4(w:World)(l:Bs)(hl:l.length≤1000000):Calls prog 90 #[ab l,.bool true] w (Sx.fU w (.sl 9 1 (aK true l).length ((aK true l).map ab))):=
 (LN w l true hl).mono fun _ _ ⟨_,_,he,hO,hA,hC⟩=>⟨_,he,hO,fun k hk=>hA k ((fW _ _ _).symm.trans hk),hC⟩
theorem N7(ws:List Bs)(d:Nat):Bz (aV ws 0).val d=dN ws d:=by
 unfold Bz dN aV
 cases h:ws[0]? with
 |none=>rfl
 |some x=>
  show(if x=bL then d+1 else d)=_
  by_cases hx:x=bL
  ·rw[if_pos hx,if_pos (by rw[hx])]
  ·rw[if_neg hx,if_neg (fun hh=>hx (Option.some.inj hh))]
theorem uy{w w4:World}{S:List Nat}{p:Nat}(v:Value)(hb:au w4 p 48 [.nilIface])(hc:ai S w w4)(hp:w.heap.size≤p):(w4.setCell ⟨p,0,none⟩ v).cell? ⟨p,0,none⟩=some v∧ai [p] w4 (w4.setCell ⟨p,0,none⟩ v)∧ai S w (w4.setCell ⟨p,0,none⟩ v):=by
 have h2:ai [p] w4 (w4.setCell ⟨p,0,none⟩ v):=(ai.refl [p] w4).setCell (.inl (by simp)) v
 refine⟨(hb.pU 0 v).cell_of rfl,h2,((hc.mono (S':=p::S) fun k hk=>.inl (List.mem_cons_of_mem p hk)).trans (h2.mono fun k hk=>.inl (by rw[List.mem_singleton.1 hk];simp))).mono fun k hk=>?_⟩
 rcases List.mem_cons.1 hk with rfl|hk
 ·exact .inr hp
 ·exact .inl hk
def SC(l:Bs)(gc gd:Nat)(cf:CF)(d:Nat)(s:ey)(w w':World):Prop:=∃cf' i s',au w' w.heap.size 48 [.nilIface]∧ft (aK true l) cf d=.ok cf' i∧qS w' gc cf' s'∧au w' gd 3 [.int .i64 (dN (aK true l) d:Nat)]∧(cX gc gd s').Nodup∧(∀k∈cX gc gd s',k∈cX gc gd s∨w.heap.size < k)∧ai (cX gc gd s) w w'
def TC(l:Bs)(gc gd:Nat)(cf:CF)(d:Nat)(s:ey)(w:World)(N:Nat)(w':World):Prop:=∃code p:Nat,au w' w.heap.size 48 [.nilIface]∧ft (aK true l) cf d=.no code p∧w.heap.size < N∧au w' N 105 [.int .i64 (code:Int),.int .i64 (p:Int)]∧ai (cX gc gd s) w w'
set_option maxHeartbeats 4000000 in
theorem Jg(l:Bs)(hl:l.length≤1000000){w:World}{gc gd:Nat}{cf:CF}{d:Nat}{s:ey}(h:SF w gc gd cf d s)(hne:aK true l≠[]) :
  Calls prog 64 #[ab l,.pointer (some ⟨gc,0,none⟩),.pointer (some ⟨gd,0,none⟩)] w (zt l gc gd cf d s w):=by
 obtain⟨t,ht⟩:∃t:Value,t=ab l:=⟨_,rfl⟩
 have HT:Hid (t=ab l):=hid ht
 rw[←ht]
 clear ht
 have hmf:∀(fn:Fn) (first cap:Array Value) (w:World),(Instr.makeFunc fn first cap).run prog w=.ok (.func fn first cap) w:=fun _ _ _ _=>rfl
 have hlt:=h.at_.lt h.bd
 have HH:=hid h
 clear h
 obtain⟨n,hn⟩:∃n,n=(aK true l).length:=⟨_,rfl⟩
 obtain⟨xs,hxs⟩:∃xs,xs=(aK true l).map ab:=⟨_,rfl⟩
 have HW:Hid (∀W,Calls prog 90 #[t,.bool true] W (Sx.fU W (.sl 9 1 n xs))):=hid fun W=>by rw[HT.out,hn,hxs];exact D4 W l hl
 have HN:=hid hn
 have HX:=hid hxs
 clear hn hxs
 go_enter_defers func64,ntmps64
 go_upto_region 3 with(go_at_call 90;refine(HW.out _).mono ?_;intro e w2 hp;obtain⟨sv,he,hacc⟩:=hp;obtain⟨A,cc,hsv,_,_⟩:=hacc.own.form;subst hsv;subst he)
 rename_i K1 hK1 K2 hK2
 have h:=HH.out
 obtain⟨w1,hw1⟩:∃w1,w1=w.alloc (.cells #[.nilIface] 48):=⟨_,rfl⟩
 have C1:ai [] w w1:=by rw[hw1];exact(ai.refl [] w).alloc _
 have B0:au w1 w.heap.size 48 [.nilIface]:=by rw[hw1];exact au.new w 48 #[.nilIface]
 have z1:w1.heap.size=w.heap.size+1:=by rw[hw1];simp
 rw[←hw1]at hacc
 obtain⟨w3,hw3⟩:∃w3,w3=w2.alloc (.cells #[.slice A n cc,.int .i64 0] 154):=⟨_,rfl⟩
 have C3:ai [] w2 w3:=by rw[hw3];exact(ai.refl [] w2).alloc _
 have B3:au w3 w2.heap.size 154 [.slice A n cc,.int .i64 0]:=by rw[hw3];exact au.new w2 154 #[.slice A n cc,.int .i64 0]
 rw[←hw3]
 have C13:=hacc.aG.trans C3
 have C03:=C1.trans C13
 have hO3:=hacc.own.aG C3 (by simp)
 have z2:=hacc.aG.size
 have hat:=h.at_.aG (gd:=gd) C03 (by simp)
 have hbd:=h.bd.aG C03 (by simp)
 have hA:∀k,A.map (·.block)=some k→w1.heap.size≤k∧k < w2.heap.size:=fun k hk=>⟨hacc.new k ((fW _ _ _).trans hk),hacc.own.lt k ((fW _ _ _).trans hk)⟩
 have hlan:=h.u5.df C03
 have hwc:=zB true l
 have hnl:=HN.out
 have hpos:0 < n:=by
  rw[hnl]
  exact List.length_pos_iff.2 hne
 have hI:SU w3 w2.heap.size gc gd A n cc 0 (aK true l) cf d s:=by
  refine⟨⟨B3,LP (by rw[←HX.out];exact hO3) hnl.symm (ai.refl _ _) fun k hk=>?_,Nat.zero_le _,by omega,hlan,fun k hk=>?_,by rw[ja];simp,fun x hx=>by have:=hwc.2 x hx;omega⟩,hat,hbd,?_,h.xG,h.SP⟩
  ·rw[ja,List.mem_cons,not_or]
   have h1:=hA k hk
   exact⟨by omega,fun hr=>by have:=hlt k hr;omega⟩
  ·rw[ja]at hk
   rcases List.mem_cons.1 hk with rfl|hk
   ·have:=h.u5.low;omega
   ·exact h.s9 k hk
  ·rw[ja,List.nodup_cons]
   exact⟨fun hr=>by have:=hlt _ hr;omega,h.nd⟩
 have hc0:w3.cell? ⟨w2.heap.size,0,none⟩=some (.slice A n cc):=B3.cell_of rfl
 have hgt:decide ((0:Int) < (n:Int))=true:=decide_eq_true (by omega)
 have hB3:=B0.aG C13 (by simp)
 have hp0:w.heap.size∉A8 w2.heap.size gc gd s:=by
  rw[ja,List.mem_cons,not_or]
  exact⟨by omega,fun hr=>by have:=hlt _ hr;omega⟩
 have HC:=hid ((Qh hI).mono fun e w4 (hp:rO w2.heap.size gc gd A n cc (qx (aK true l) 0 cf d) _ _ w3 e w4)=>(show(e=.returned (.tuple #[])∧w4.cell? ⟨w.heap.size,0,none⟩=some .nilIface∧w4.frozen? ⟨w.heap.size,0,none⟩=false∧Hid (SC l gc gd cf d s w w4))∨∃N,e=.panicked [{ v:=.iface 103 (.pointer (some ⟨N,0,none⟩)),recovered:=false }]∧w4.cell? ⟨w.heap.size,0,none⟩=some .nilIface∧w4.frozen? ⟨w.heap.size,0,none⟩=false∧Hid (TC l gc gd cf d s w N w4)from by
  have hline:ft (aK true l) cf d=qx (aK true l) 0 cf d:=by
   unfold ft
   split
   ·rename_i h0;exact absurd h0 hne
   ·rfl
  have aG:∀{w4},ai (A8 w2.heap.size gc gd s) w3 w4→ai (cX gc gd s) w w4:=fun {w4} hc=>((C03.mono (by simp)).trans hc).mono fun k hk=>by
   rw[ja]at hk
   rcases List.mem_cons.1 hk with rfl|hk
   ·exact .inr (by omega)
   ·exact .inl hk
  rcases hp with⟨cf',i',s',hT,_,he,_,hcf,hb',hn',hf',hc⟩ | ⟨code,q,chain,hT,he,hf,hc⟩
  ·have hB4:=hB3.aG hc hp0
   rw[N7]at hb'
   rw[ja]at hn'
   refine .inl ⟨he,hB4.cell_of rfl,hB4.frozen 0,hid ⟨cf',i',s',hB4,hline.trans hT,hcf,hb',(List.nodup_cons.1 hn').2,fun k hk=>?_,aG hc⟩⟩
   rcases hf' k (List.mem_cons_of_mem _ hk)with hx|hx
   ·rw[ja]at hx
    rcases List.mem_cons.1 hx with rfl|hx
    ·exact .inr (by omega)
    ·exact .inl hx
   ·have:=C3.size;exact .inr (by omega)
  ·have hB4:=hB3.aG hc hp0
   obtain⟨N,rfl,h1,h2⟩:=hf
   exact .inr ⟨N,he,hB4.cell_of rfl,hB4.frozen 0,hid ⟨code,q,hB4,hline.trans hT,by have:=C3.size;omega,h2,aG hc⟩⟩))
 have HLT:=hid hlt
 clear hI hat hbd hO3 hA C1 C3 C13 C03 B0 B3 hlan hwc hnl h hlt z1 z2 hacc hw1 hw3 hne hB3 hp0
 go_wp2_with (go_at_call 131;refine HC.out.mono ?_;rintro e w4 (⟨rfl,hcell,hfz,HO⟩ | ⟨N,rfl,hcell,hfz,HO⟩))
 ·have HL:=HLT.out
  have ho:=HO.out
  refine leaves_cons (f:=130) (args:=#[.pointer (some ⟨w.heap.size,0,none⟩)]) (by simp) (by simp[go_sem]) ?_
  refine(BK ⟨w.heap.size,0,none⟩ _).mono ?_
  rintro e u' w'' ⟨rfl,rfl,rfl⟩
  obtain⟨cf',i',s',hB4,hT,hcf,hb',hn',hf',hc⟩:=ho
  obtain⟨h1,h2,h3⟩:=uy .nilIface hB4 hc (Nat.le_refl _)
  simp[Leaves,settle,results,results64,go_sem,h1]
  have hp:w.heap.size∉cX gc gd s':=fun hk=>by
   rcases hf' _ hk with hx|hx
   ·have:=HL _ hx;omega
   ·omega
  refine .inl ⟨cf',i',s',hT,rfl,hcf.aG (gd:=gd) h2 (fun k hk he=>hp (by rw[←List.mem_singleton.1 he];exact hk)),hb'.aG h2 (fun he=>hp (by rw[←List.mem_singleton.1 he];exact eA.2 (.inr (.inl rfl)))),hn',fun k hk=>?_,h3⟩
  rcases hf' k hk with hx|hx
  ·exact .inl hx
  ·exact .inr (by omega)
 ·have ho:=HO.out
  refine leaves_cons (f:=130) (args:=#[.pointer (some ⟨w.heap.size,0,none⟩)]) (by simp) (by simp[go_sem]) ?_
  refine(G9 ⟨w.heap.size,0,none⟩ N [] _ hcell hfz).mono ?_
  rintro e u' w'' ⟨rfl,rfl,rfl⟩
  obtain⟨code,q,hB4,hT,hN,hb,hc⟩:=ho
  obtain⟨h1,h2,h3⟩:=uy (.iface 103 (.pointer (some ⟨N,0,none⟩))) hB4 hc (Nat.le_refl _)
  simp[Leaves,settle,results,results64,go_sem,h1]
  exact .inr ⟨code,q,N,hT,rfl,by omega,hb.aG h2 (fun he=>by have:=List.mem_singleton.1 he;omega),h3⟩
set_option maxHeartbeats 4000000 in
theorem Jh(l:Bs)(hl:l.length≤1000000){w:World}{gc gd:Nat}{cf:CF}{d:Nat}{s:ey}(h:SF w gc gd cf d s)(hne:aK true l=[]) :
  Calls prog 64 #[ab l,.pointer (some ⟨gc,0,none⟩),.pointer (some ⟨gd,0,none⟩)] w (zt l gc gd cf d s w):=by
 obtain⟨t,ht⟩:∃t:Value,t=ab l:=⟨_,rfl⟩
 have HT:Hid (t=ab l):=hid ht
 rw[←ht]
 clear ht
 have hmf:∀(fn:Fn) (first cap:Array Value) (w:World),(Instr.makeFunc fn first cap).run prog w=.ok (.func fn first cap) w:=fun _ _ _ _=>rfl
 have hlt:=h.at_.lt h.bd
 have HH:=hid h
 clear h
 have HW:Hid (∀W,Calls prog 90 #[t,.bool true] W (Sx.fU W (.sl 9 1 0 []))):=hid fun W=>by
  have:=D4 W l hl
  rw[hne]at this
  rw[HT.out]
  exact this
 go_enter_defers func64,ntmps64
 go_upto_region 3 with(go_at_call 90;refine(HW.out _).mono ?_;intro e w2 hp;obtain⟨sv,he,hacc⟩:=hp;obtain⟨A,cc,hsv,_,_⟩:=hacc.own.form;subst hsv;subst he)
 rename_i K1 hK1 K2 hK2
 have h:=HH.out
 obtain⟨w1,hw1⟩:∃w1,w1=w.alloc (.cells #[.nilIface] 48):=⟨_,rfl⟩
 have C1:ai [] w w1:=by rw[hw1];exact(ai.refl [] w).alloc _
 have B0:au w1 w.heap.size 48 [.nilIface]:=by rw[hw1];exact au.new w 48 #[.nilIface]
 rw[←hw1]at hacc
 obtain⟨w3,hw3⟩:∃w3,w3=w2.alloc (.cells #[.slice A 0 cc,.int .i64 0] 154):=⟨_,rfl⟩
 have C3:ai [] w2 w3:=by rw[hw3];exact(ai.refl [] w2).alloc _
 have B3:au w3 w2.heap.size 154 [.slice A 0 cc,.int .i64 0]:=by rw[hw3];exact au.new w2 154 #[.slice A 0 cc,.int .i64 0]
 rw[←hw3]
 have C13:=hacc.aG.trans C3
 have C03:=C1.trans C13
 have hB3:=B0.aG C13 (by simp)
 have HO:=hid (show SC l gc gd cf d s w w3 from⟨cf,0,s,hB3,by rw[hne];rfl,h.at_.aG (gd:=gd) C03 (by simp),by rw[hne];exact h.bd.aG C03 (by simp),h.nd,fun k hk=>.inl hk,C03.mono (by simp)⟩)
 have hc0:w3.cell? ⟨w2.heap.size,0,none⟩=some (.slice A 0 cc):=B3.cell_of rfl
 have hcell:w3.cell? ⟨w.heap.size,0,none⟩=some .nilIface:=hB3.cell_of rfl
 have hfz:w3.frozen? ⟨w.heap.size,0,none⟩=false:=hB3.frozen 0
 have HLT:=hid hlt
 clear C1 C3 C13 C03 B0 B3 h hlt hacc hw1 hw3 hB3 hne
 go_wp2
 have HL:=HLT.out
 have ho:=HO.out
 refine leaves_cons (f:=130) (args:=#[.pointer (some ⟨w.heap.size,0,none⟩)]) (by simp) (by simp[go_sem]) ?_
 refine(BK ⟨w.heap.size,0,none⟩ _).mono ?_
 rintro e u' w'' ⟨rfl,rfl,rfl⟩
 obtain⟨cf',i',s',hB4,hT,hcf,hb',hn',hf',hc⟩:=ho
 obtain⟨h1,h2,h3⟩:=uy .nilIface hB4 hc (Nat.le_refl _)
 simp[Leaves,settle,results,results64,go_sem,h1]
 have hp:w.heap.size∉cX gc gd s':=fun hk=>by
  rcases hf' _ hk with hx|hx
  ·have:=HL _ hx;omega
  ·omega
 refine .inl ⟨cf',i',s',hT,rfl,hcf.aG (gd:=gd) h2 (fun k hk he=>hp (by rw[←List.mem_singleton.1 he];exact hk)),hb'.aG h2 (fun he=>hp (by rw[←List.mem_singleton.1 he];exact eA.2 (.inr (.inl rfl)))),hn',fun k hk=>?_,h3⟩
 rcases hf' k hk with hx|hx
 ·exact .inl hx
 ·exact .inr (by omega)
theorem OU(l:Bs)(hl:l.length≤1000000){w:World}{gc gd:Nat}{cf:CF}{d:Nat}{s:ey}(h:SF w gc gd cf d s) :
  Calls prog 64 #[ab l,(pt gc 0),(pt gd 0)] w (zt l gc gd cf d s w):=by
 by_cases hne:aK true l=[]
 ·exact Jh l hl h hne
 ·exact Jg l hl h hne
set_option maxRecDepth 100000
open Go.RowKit Go.Extern.Stop Go.Stop Go.Extern _root_.Go.Proofs.Tryz
theorem QH(t:Value)(w:World) :
  Calls prog 63 #[.nilIface,t] w fun e w'=>e=.returned (.bool false)∧w'=w:=by
 go_enter func63,ntmps63
 go_wp2
 go_ret
 exact⟨rfl,rfl⟩
theorem BU(t:Addr)(w:World):(ReflectliteValue.unpack (.iface 111 (.pointer (some t)))).run prog w
  =.ok (.agg #[(pt 9 111),(pt (w.heap.size) 0),.int .u64 150]) (w.alloc (.cells #[.pointer (some t)] 111)):=by kernel_rfl
theorem K7(a:Addr)(w:World):(ReflectliteValue.methodAny (ReflectliteValue.valueError "reflectlite.Value.Type" 0) (fun t _ _ _=>ReflectliteType.toType t) #[.agg #[(pt 9 111),.pointer (some a),.int .u64 150]]).run prog w
  =.ok (.iface 242 (.agg #[(pt 9 111)])) w:=by kernel_rfl
theorem zl(h:Value)(w:World):(Go.method 430 242 (.agg #[h]) "Kind").run prog w=.ok (262,h) w:=by kernel_rfl
theorem K9(w:World):((ReflectliteType.abiMethod fun t=>(fun a:Nat=>Value.int IntKind.u8 (a:Int)) <$> Rtype.kind t) #[(pt 9 111)]).run prog w=.ok (.int .u8 22) w:=by kernel_rfl
theorem La(w:World):((ReflectliteType.abiMethod fun t=>(fun a:Nat=>Value.int IntKind.u8 (a:Int)) <$> Rtype.kind t) #[(pt 9 103)]).run prog w=.ok (.int .u8 22) w:=by kernel_rfl
theorem TD(z:Sem Value)(f:TypeId→Addr→Nat→Nat→Sem Value)(v:Value) :
  ReflectliteValue.method z f #[v]=(do match ←ReflectliteValue.parts v with|none=>z|some (t,a,fl)=>f t a fl (fl%32)):=rfl
theorem xQ(a:Addr)(w:World):(ReflectliteValue.parts (.agg #[(pt 9 111),.pointer (some a),.int .u64 150])).run prog w=.ok (some (111,a,150)) w:=by kernel_rfl
theorem Hj(a p:Addr)(W:World)(ha:W.cell? a=some (.pointer (some p))) :
  (ReflectliteValue.method (ReflectliteValue.valueError "reflectlite.Value.IsNil" 0) ReflectliteValue.isNil #[.agg #[.pointer (some ⟨9,111,none⟩),.pointer (some a),.int .u64 150]]).run prog W=.ok (.bool false) W:=by
 rw[TD]
 simp only[Sem.run_bind,xQ,Result.andThen]
 simp[ReflectliteValue.isNil,loadVar,isAgg,underlying,underlying111,ha,Result.andThen]
theorem zn(h:Value)(w:World):(Go.method 430 242 (.agg #[h]) "Elem").run prog w=.ok (275,.agg #[h]) w:=by kernel_rfl
theorem pD(h:Value)(w:World):(Go.method 430 242 (.agg #[h]) "Implements").run prog w=.ok (276,.agg #[h]) w:=by kernel_rfl
theorem nO(h:Value)(w:World):(Go.method 430 242 (.agg #[h]) "AssignableTo").run prog w=.ok (273,.agg #[h]) w:=by kernel_rfl
theorem Lb(w:World):(ReflectliteType.method ReflectliteType.elem #[.agg #[(pt 9 111)]]).run prog w=.ok (.iface 242 (.agg #[(pt 9 103)])) w:=by kernel_rfl
theorem vS(w:World):(ReflectliteType.relation "Implements" ReflectliteType.implements_ #[.agg #[(pt 9 103)],.iface 242 (.agg #[(pt 9 48)])]).run prog w=.ok (.bool true) w:=by kernel_rfl
theorem DQ(v:Value)(w:World):(ReflectliteType.typeOf #[.iface 103 v]).run prog w=.ok (.iface 242 (.agg #[(pt 9 103)])) w:=by kernel_rfl
theorem vT(w:World):(ReflectliteType.relation "AssignableTo" ReflectliteType.assignableTo #[.agg #[(pt 9 103)],.iface 242 (.agg #[(pt 9 103)])]).run prog w=.ok (.bool true) w:=by kernel_rfl
theorem BV(e:Addr)(w:World):(ReflectliteValue.unpack (.iface 103 (.pointer (some e)))).run prog w
  =.ok (.agg #[(pt 9 103),(pt (w.heap.size) 0),.int .u64 150]) (w.alloc (.cells #[.pointer (some e)] 103)):=by kernel_rfl
theorem DS(w:World):(Rtype.elem? 111).run prog w=.ok (some 103) w:=by kernel_rfl
theorem QJ(p:Addr)(w:World):(ReflectliteValue.mk 103 p ReflectliteValue.flagAddr).run prog w=.ok (.agg #[(pt 9 103),.pointer (some p),.int .u64 406]) w:=by kernel_rfl
theorem Hk(a p:Addr)(W:World)(ha:W.cell? a=some (.pointer (some p))) :
  (ReflectliteValue.method (ReflectliteValue.valueError "reflectlite.Value.Elem" 0) ReflectliteValue.elem #[.agg #[.pointer (some ⟨9,111,none⟩),.pointer (some a),.int .u64 150]]).run prog W
   =.ok (.agg #[.pointer (some ⟨9,103,none⟩),.pointer (some p),.int .u64 406]) W:=by
 rw[TD]
 simp only[Sem.run_bind,xQ,Result.andThen]
 simp[ReflectliteValue.elem,loadVar,isAgg,underlying,underlying111,ha,Result.andThen,DS,QJ]
theorem TU(v x:Value):ReflectliteValue.set #[v,x]=(do
  let (some (dst,a,fl),some (src,b,_)):=(←ReflectliteValue.parts v,←ReflectliteValue.parts x)
   |unsupported (.noEntry "extern/(internal/reflectlite.Value).Set.zeroValue")
  if fl / ReflectliteValue.flagAddr%2==0 then unsupported (.noEntry "extern/(internal/reflectlite.Value).Set.unaddressable")
  let val ←loadVar src b
  if ←Rtype.directlyAssignable dst src then storeVar dst a val
  else if ←Rtype.implements dst src then
   if(←Rtype.kind src)==20 then
    match val with
    |.nilIface=>unsupported (.noEntry "extern/reflectlite: a nil value of one interface type handed on as a value of another")
    |_=>storeVar dst a val
   else storeVar dst a (.iface src val)
  else panicString ("reflectlite.Set: value of type "++(←Rtype.spelt src)++ " is not assignable to type "++(←Rtype.spelt dst))
  pure (.tuple #[])):=rfl
theorem DR(a:Addr)(w:World):(ReflectliteValue.parts (.agg #[(pt 9 103),.pointer (some a),.int .u64 406])).run prog w=.ok (some (103,a,406)) w:=by kernel_rfl
theorem Hi(a:Addr)(w:World):(ReflectliteValue.parts (.agg #[(pt 9 103),.pointer (some a),.int .u64 150])).run prog w=.ok (some (103,a,150)) w:=by kernel_rfl
theorem DT(w:World):(Rtype.directlyAssignable 103 103).run prog w=.ok true w:=by kernel_rfl
theorem Ov(ta b e:Addr)(old:Value)(W:World)(hb:W.cell? b=some (.pointer (some e)))(ht:W.cell? ta=some old)(hf:W.frozen? ta=false) :
  (ReflectliteValue.set #[.agg #[.pointer (some ⟨9,103,none⟩),.pointer (some ta),.int .u64 406],.agg #[.pointer (some ⟨9,103,none⟩),.pointer (some b),.int .u64 150]]).run prog W
   =.ok (.tuple #[]) (W.setCell ta (.pointer (some e))):=by
 rw[TU]
 simp only[Sem.run_bind,DR,Hi,Result.andThen]
 simp[ReflectliteValue.flagAddr,loadVar,isAgg,underlying,underlying103,hb,Result.andThen,DT,storeVar,Value.cells,storeCells,Addr.add]
 rw[run_store prog W ta _ _ (by rfl)]
 simp[ht,hf]
set_option maxHeartbeats 4000000 in
theorem QI(e t:Addr)(old:Value)(w:World)(hg:w.cell? ⟨0,0,none⟩=some (.iface 242 (.agg #[.pointer (some ⟨9,48,none⟩)])))(ht0:w.cell? t=some old)(hf0:w.frozen? t=false) :
  Calls prog 63 #[.iface 103 (.pointer (some e)),.iface 111 (.pointer (some t))] w fun ev w'=>ev=.returned (.bool true)∧w'=((((w.alloc (.cells #[.pointer (some t)] 111)).alloc (.cells #[.pointer (some ⟨9,111,none⟩),.pointer (some ⟨w.heap.size,0,none⟩),.int .u64 150] 191)).alloc (.cells #[.pointer (some ⟨9,111,none⟩),.pointer (some ⟨w.heap.size,0,none⟩),.int .u64 150] 191)).alloc (.cells #[.pointer (some e)] 103)).setCell t (.pointer (some e)):=by
 have h6:=@run_callFunc_extern prog 126 _ (fun args=>ReflectliteValue.unpack (args.getD 0 (.tuple #[]))) func126 (by kernel_rfl) (by kernel_rfl) (by kernel_rfl) (by kernel_rfl)
 have h7:=@run_callFunc_extern prog 127 _ (ReflectliteValue.methodAny (ReflectliteValue.valueError "reflectlite.Value.Type" 0) (fun t _ _ _=>ReflectliteType.toType t)) func127 (by kernel_rfl) (by kernel_rfl) (by kernel_rfl) (by kernel_rfl)
 have h8:=@run_callFunc_extern prog 128 _ (ReflectliteValue.method (ReflectliteValue.valueError "reflectlite.Value.IsNil" 0) ReflectliteValue.isNil) func128 (by kernel_rfl) (by kernel_rfl) (by kernel_rfl) (by kernel_rfl)
 have TJ:=@run_callFunc_extern prog 262 _ (ReflectliteType.abiMethod fun t=>do pure (.int .u8 (←Rtype.kind t))) func262 (by kernel_rfl) (by kernel_rfl) (by kernel_rfl) (by kernel_rfl)
 have h37:=@run_callFunc_extern prog 275 _ (ReflectliteType.method ReflectliteType.elem) func275 (by kernel_rfl) (by kernel_rfl) (by kernel_rfl) (by kernel_rfl)
 have h38:=@run_callFunc_extern prog 276 _ (ReflectliteType.relation "Implements" ReflectliteType.implements_) func276 (by kernel_rfl) (by kernel_rfl) (by kernel_rfl) (by kernel_rfl)
 have h10:=@run_callFunc_extern prog 139 _ ReflectliteType.typeOf func139 (by kernel_rfl) (by kernel_rfl) (by kernel_rfl) (by kernel_rfl)
 have h35:=@run_callFunc_extern prog 273 _ (ReflectliteType.relation "AssignableTo" ReflectliteType.assignableTo) func273 (by kernel_rfl) (by kernel_rfl) (by kernel_rfl) (by kernel_rfl)
 have h11:=@run_callFunc_extern prog 184 _ (ReflectliteValue.method (ReflectliteValue.valueError "reflectlite.Value.Elem" 0) ReflectliteValue.elem) func184 (by kernel_rfl) (by kernel_rfl) (by kernel_rfl) (by kernel_rfl)
 have h12:=@run_callFunc_extern prog 185 _ ReflectliteValue.set func185 (by kernel_rfl) (by kernel_rfl) (by kernel_rfl) (by kernel_rfl)
 have tO:=DQ
 have mA:=nO
 have a25:=vT
 have v25:=BV
 have f6:=BU
 have f7:=K7
 have mK:=zl
 have mE:=zn
 have mI:=pD
 have k27:=K9
 have k25:=La
 have e27:=Lb
 have i25:=vS
 have n8:=Hj ⟨w.heap.size,0,none⟩ t ((w.alloc (.cells #[.pointer (some t)] 111)).alloc (.cells #[.pointer (some ⟨9,111,none⟩),.pointer (some ⟨w.heap.size,0,none⟩),.int .u64 150] 191)) (by simp)
 have hlt:0 < w.heap.size:=by
  rcases Nat.eq_zero_or_pos w.heap.size with h0|h
  ·simp[World.cell?,h0]at hg
  ·exact h
 have hg2:((w.alloc (.cells #[.pointer (some t)] 111)).alloc (.cells #[.pointer (some ⟨9,111,none⟩),.pointer (some ⟨w.heap.size,0,none⟩),.int .u64 150] 191)).cell? ⟨0,0,none⟩=some (.iface 242 (.agg #[.pointer (some ⟨9,48,none⟩)])):=by
  rw[World.cell?_alloc_lt _ _ ⟨0,0,none⟩ (by simp),World.cell?_alloc_lt _ _ ⟨0,0,none⟩ hlt];exact hg
 have htl:t.block < w.heap.size:=by
  rcases Nat.lt_or_ge t.block w.heap.size with h|h
  ·exact h
  ·simp[World.cell?,Array.getElem?_eq_none h]at ht0
 have el:=Hk ⟨w.heap.size,0,none⟩ t (((w.alloc (.cells #[.pointer (some t)] 111)).alloc (.cells #[.pointer (some ⟨9,111,none⟩),.pointer (some ⟨w.heap.size,0,none⟩),.int .u64 150] 191)).alloc (.cells #[.pointer (some ⟨9,111,none⟩),.pointer (some ⟨w.heap.size,0,none⟩),.int .u64 150] 191)) (by rw[World.cell?_alloc_lt _ _ ⟨w.heap.size,0,none⟩ (by simp;omega)];simp)
 have st:=Ov t ⟨w.heap.size+1+1+1,0,none⟩ e old ((((w.alloc (.cells #[.pointer (some t)] 111)).alloc (.cells #[.pointer (some ⟨9,111,none⟩),.pointer (some ⟨w.heap.size,0,none⟩),.int .u64 150] 191)).alloc (.cells #[.pointer (some ⟨9,111,none⟩),.pointer (some ⟨w.heap.size,0,none⟩),.int .u64 150] 191)).alloc (.cells #[.pointer (some e)] 103))
  (by rw[World.cell?_alloc_at _ _ _ _ (by simp)];rfl)
  (by rw[World.cell?_alloc_lt _ _ t (by simp;omega),World.cell?_alloc_lt _ _ t (by simp;omega),World.cell?_alloc_lt _ _ t (by simp;omega),World.cell?_alloc_lt _ _ t htl];exact ht0)
  (by rw[World.frozen?_alloc_old _ _ t (by simp;omega),World.frozen?_alloc_old _ _ t (by simp;omega),World.frozen?_alloc_old _ _ t (by simp;omega),World.frozen?_alloc_old _ _ t (Nat.ne_of_lt htl)];exact hf0)
 go_enter func63,ntmps63
 go_wp2
 refine wp_loop_rounds 1 ?_
 rw[rounds_succ]
 go_wp2
 go_ret
 exact⟨rfl,rfl⟩
end Go.Proofs.YtnncigmpcdehnaaGreatDoor
