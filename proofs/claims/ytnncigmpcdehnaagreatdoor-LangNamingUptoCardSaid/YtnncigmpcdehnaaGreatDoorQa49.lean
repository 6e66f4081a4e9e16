import Derived.Test.YtnncigmpcdehnaaGreatDoorQa46
import Derived.Test.YtnncigmpcdehnaaGreatDoorQa18
import Derived.Shelf.Vars
import Derived.Stop.LaidErr
import Derived.Lib.LaidTab
import Derived.LaidMore
import Derived.Lay
import Derived.LaidByTextLater
import Derived.LaidHandle
namespace Go.Proofs.YtnncigmpcdehnaaGreatDoor
set_option maxRecDepth 100000
open Go Go.RowKit Go.Lib Go.Sort
def exText:Bs:=[112,111,114,116,32,51,10,112,111,114,116,32,52,10,114,111,117,116,101,32,49,48,46,48,46,48,46,48,47,56,32,51,10,109,101,116,101,114,32,109,32,53,32,50,32,57,10,109,105,114,114,111,114,32,99,32,52,32,49,54,10,114,117,108,101,32,97,32,112,114,111,116,111,32,116,99,112,32,100,112,111,114,116,32,56,48,45,57,48,32,45,62,32,111,117,116,32,52,32,109,101,116,101,114,32,109,32,109,105,114,114,111,114,32,99,10,114,117,108,101,32,98,32,97,110,121,32,45,62,32,100,114,111,112,10,100,101,102,97,117,108,116,32,114,111,117,116,101,10]
def bdText:Bs:=[112,111,114,116,32,49,10,109,101,116,101,114,32,49,120,32,49,32,49,32,49,10]
theorem dg1(u:Nat)(h:u < 10):digs 10 u=[sig u]:=digs_small h
theorem dg2(u:Nat)(h:¬u < 10)(h2:u / 10 < 10):digs 10 u=[sig (u / 10),sig (u%10)]:=by rw[digs_big (by omega) h,digs_small h2]; rfl
theorem it1(u:Nat)(h:u < 10):itoaT (u:Int)=[sig u]:=by rw[itoaT_nat,digs_small h]
theorem exPx_text:pxT exPx=[49,48,46,48,46,48,46,48,47,56]:=by
 have hk:okP exPx.v exPx.n exPx.k=true:=by decide
 unfold pxT ptxt
 rw[if_pos hk]
 show text4 (10*2^120)++47::digs 10 8=_
 unfold text4
 rw[show byteAt (10*2^120) 0=10 by decide,show byteAt (10*2^120) 1=0 by decide,show byteAt (10*2^120) 2=0 by decide,show byteAt (10*2^120) 3=0 by decide,dg2 10 (by omega) (by omega),dg1 0 (by omega),dg1 8 (by omega)]
 rfl
theorem exMt_ok:checkM exMt=true:=by decide
theorem exMt_text:pmT exMt=[112,114,111,116,111,32,116,99,112,32,100,112,111,114,116,32,56,48,45,57,48]:=by
 unfold pmT
 rw[exMt_ok]
 show matchT exMt=_
 unfold matchT
 rw[if_neg (by decide)]
 have e:matchWs exMt=[kProto,protoT 6,kDport,spanT (80,90)]:=rfl
 rw[e]
 have e1:protoT 6=kTcp:=rfl
 have e2:spanT (80,90)=[56,48,45,57,48]:=by
  unfold spanT
  rw[if_neg (by decide)]
  show digs 10 80++45::digs 10 90=_
  rw[dg2 80 (by omega) (by omega),dg2 90 (by omega) (by omega)];rfl
 rw[e1,e2];rfl
theorem exCf_text:cfText exCf=exText:=by
 have i1:itoaT 3=[51]:=it1 3 (by omega)
 have i2:itoaT 4=[52]:=it1 4 (by omega)
 have i3:itoaT 16=[49,54]:=by
  have h:itoaT 16=digs 10 16:=itoaT_nat 16
  rw[h,dg2 16 (by omega) (by omega)];rfl
 have l0:portWs 3=[kPort,[51]]:=by unfold portWs;rw[i1]
 have l1:portWs 4=[kPort,[52]]:=by unfold portWs;rw[i2]
 have l2:routeWs ⟨exPx,3⟩=[kRoute,[49,48,46,48,46,48,46,48,47,56],[51]]:=by
  show [kRoute,pxT exPx,itoaT 3]=_
  rw[exPx_text,i1]
 have l3:meterWs ⟨[109],5,2,9⟩=[kMeter,[109],[53],[50],[57]]:=by
  show [kMeter,[109],digs 10 5,digs 10 2,digs 10 9]=_
  rw[dg1 5 (by omega),dg1 2 (by omega),dg1 9 (by omega)];rfl
 have l4:mirrorWs ⟨[99],4,16⟩=[kMirror,[99],[52],[49,54]]:=by
  show [kMirror,[99],itoaT 4,itoaT 16]=_
  rw[i2,i3]
 have l5:ruleWs ⟨[97],exMt,3,4,[109],[99]⟩=[kRule,[97],[112,114,111,116,111,32,116,99,112,32,100,112,111,114,116,32,56,48,45,57,48],kTo,kOut,[52],kMeter,[109],kMirror,[99]]:=by
  unfold ruleWs
  rw[exMt_text,show actWs 3 4=[kOut,[52]] by unfold actWs;rw[if_neg (by decide),if_neg (by decide),if_pos rfl,i2]]
  rfl
 have l6:ruleWs ⟨[98],mt0,2,0,[],[]⟩=[kRule,[98],kAny,kTo,kDrop]:=rfl
 have l7:dfltWs 1=[kDefault,kRoute]:=rfl
 have e:cfLines exCf=[portWs 3,portWs 4,routeWs ⟨exPx,3⟩,meterWs ⟨[109],5,2,9⟩,mirrorWs ⟨[99],4,16⟩,ruleWs ⟨[97],exMt,3,4,[109],[99]⟩,ruleWs ⟨[98],mt0,2,0,[],[]⟩,dfltWs 1]:=rfl
 unfold cfText
 rw[e,l0,l1,l2,l3,l4,l5,l6,l7]
 rfl
theorem exCf_err:cfErr exCf=0:=by decide
theorem exCf_in:CfIn exCf:=by
 refine⟨fun n hn=>?_,fun r hr=>?_,fun m hm=>?_,fun m hm=>?_,fun r hr=>?_⟩
 ·simp[exCf]at hn;omega
 ·simp[exCf]at hr;subst hr;decide
 ·simp[exCf]at hm;subst hm;decide
 ·simp[exCf]at hm;subst hm;decide
 ·simp[exCf]at hr
  rcases hr with rfl|rfl
  ·exact⟨⟨by decide,by decide,by decide,by decide,by decide,by decide,by decide,by decide,by decide⟩,by decide⟩
  ·exact⟨⟨by decide,by decide,by decide,by decide,by decide,by decide,by decide,by decide,by decide⟩,by decide⟩
theorem exCf_ok:CfOk exCf:=(cfOk_iff exCf_in).1 exCf_err
theorem exCf_print:printW exCf=(exText,0):=by
 have h:endE exCf=0:=by
  unfold endE
  rw[exCf_text,exCf_err]
  decide
 unfold printW
 rw[if_pos h,exCf_text]
theorem ex_read(hU:RdU):readW exText=.ok exCf:=by
 unfold readW
 rw[if_neg (by decide),←exCf_text]
 exact back_W hU exCf_ok
theorem bd_read:readW bdText=.no 201 2:=by
 unfold readW
 rw[if_neg (by decide)]
 have e:linesW bdText=[[112,111,114,116,32,49],[109,101,116,101,114,32,49,120,32,49,32,49,32,49],[]]:=rfl
 rw[e]
 have w1:wordsW true [112,111,114,116,32,49]=portWs 1:=by
  have i1:itoaT 1=[49]:=it1 1 (by omega)
  show _=[kPort,itoaT 1]
  rw[i1];rfl
 rw[readL_line (by rw[w1];exact port_line (by decide) (by decide) cf0 0)]
 rw[readL]
 rfl
theorem mt0_wf:mt0.Wf:=mt0_good.1
theorem exMt_wf:exMt.Wf:=⟨by decide,by decide,by decide,by decide,by decide,by decide,by decide,by decide,by decide⟩
theorem exCf_wf:CfWf exCf:=by
 refine⟨fun n hn=>?_,fun r hr=>?_,fun r hr=>?_,fun m hm=>?_,fun m hm=>?_,by unfold I64;decide⟩
 ·simp[exCf]at hn;unfold I64;omega
 ·simp[exCf]at hr;subst hr;exact⟨by decide,by unfold I64;decide,by unfold I64;decide⟩
 ·simp[exCf]at hr
  rcases hr with rfl|rfl
  ·exact⟨by decide,exMt_wf,by unfold I64;decide,by unfold I64;decide,by decide,by decide⟩
  ·exact⟨by decide,mt0_wf,by unfold I64;decide,by unfold I64;decide,by decide,by decide⟩
 ·simp[exCf]at hm;subst hm;exact⟨by decide,by decide,by decide,by decide⟩
 ·simp[exCf]at hm;subst hm;exact⟨by decide,by unfold I64;decide,by unfold I64;decide⟩
theorem exCf_few:CfFew exCf:=⟨by decide,by decide,by decide,by decide,by decide⟩
theorem cfA_den{β:Sx.Env}{m:Nat}{cf:CF}{s:Sls}:(Sx.SV.rowv (cfA m cf)).den (cfEnv β m cf s)=.agg (cfCells cf s).toArray:=by
 show Value.agg ([(cfEnv β m cf s).sl m,(cfEnv β m cf s).sl (m+1),(cfEnv β m cf s).sl (m+2),(cfEnv β m cf s).sl (m+3),(cfEnv β m cf s).sl (m+4),.int .i64 cf.dflt]:List Value).toArray=_
 simp[Sx.Env.sl,cfEnv,cfCells]
def cfNew(_m:Nat)(cf:CF)(ret:Sx.SV):Sx.GCall:=⟨[],[],[],rowsC cf,ret,none⟩
theorem example_call{b:Sx.Base}{row:Nat→Option Sx.Row}{m:Nat}(W:World)(β:Sx.Env)(_:Sx.See b β W row []):Calls Tryz.prog 67 (([]:List Sx.SV).map (Sx.SV.den β)).toArray W (Sx.gPost b β W row m (cfNew m exCf (.rowv (cfA m exCf)))):=by
 refine(example_w W).mono fun en w' hp=>?_
 rcases hp with⟨β',l,mem,⟨k0,k1,k2,k3,k4,rfl,q0,q1,q2,q3,q4⟩,he,hR⟩ | ⟨_,_,hf,_⟩
 ·obtain⟨ho,hn,n0,n1,n2,n3,n4⟩:=cfIx_own hR ⟨q0,q1,q2,q3,q4⟩ rfl
  refine .inl ⟨fun p hp=>(by cases hp),cfEnv β m exCf (slsOf5 β' k0 k1 k2 k3 k4),conf_gret ho hn ?_ hR.chg⟩
  rw[cfA_den,he]
  show Ending.returned (.agg ([β'.sl k0,β'.sl k1,β'.sl k2,β'.sl k3,β'.sl k4,.int .i64 exCf.dflt]:List Value).toArray)=_
  unfold Sx.Env.sl
  rw[n0,n1,n2,n3,n4]
  rfl
 ·exact hf.elim
theorem lread_ok{b:Sx.Base}{row:Nat→Option Sx.Row}{m:Nat}{s:Bs}{cf:CF}(hlan:LanE b.w)(h9:∀k∈b.S,9≤k)(hs:readW s=.ok cf)(W:World)(β:Sx.Env)(hS:Sx.See b β W row []):Calls Tryz.prog 22 (([.val (strV s)]:List Sx.SV).map (Sx.SV.den β)).toArray W (Sx.gPost b β W row m (cfNew m cf (.tups [.row (cfA m cf),.a (.v .nilIface)]))):=by
 refine(lread_N W (hlan.chg hS.chg h9) s).mono fun en w' hp=>?_
 rw[hs]at hp
 rcases hp with⟨β',l,mem,⟨k0,k1,k2,k3,k4,rfl,q0,q1,q2,q3,q4⟩,he,hR⟩ | ⟨_,_,hf,_⟩
 ·obtain⟨ho,hn,n0,n1,n2,n3,n4⟩:=cfIx_own hR ⟨q0,q1,q2,q3,q4⟩ rfl
  refine .inl ⟨fun p hp=>(by cases hp),cfEnv β m cf (slsOf5 β' k0 k1 k2 k3 k4),conf_gret ho hn ?_ hR.chg⟩
  have hd:=cfA_den (β:=β) (m:=m) (cf:=cf) (s:=slsOf5 β' k0 k1 k2 k3 k4)
  rw[he]
  show Ending.returned (.tuple #[.agg ([β'.sl k0,β'.sl k1,β'.sl k2,β'.sl k3,β'.sl k4,.int .i64 cf.dflt]:List Value).toArray,.nilIface])=.returned (.tuple #[(Sx.SV.rowv (cfA m cf)).den (cfEnv β m cf (slsOf5 β' k0 k1 k2 k3 k4)),.nilIface])
  rw[hd]
  unfold Sx.Env.sl
  rw[n0,n1,n2,n3,n4]
  rfl
 ·exact hf.elim
def badN(m:Nat)(code line:Nat):Sx.GCall:=⟨[],[],[],[⟨105,.vals (ftC code line)⟩],.tups [.row (nilCf.map .v),.ifc 103 m 0],none⟩
theorem new_one{β:Sx.Env}{W w':World}{row:Nat→Option Sx.Row}{m k:Nat}{X:List Nat}{T:TypeId}{cs:List Value}{ret:Sx.SV}{e:Ending}(hb:Blk w' k T cs)(hn:W.heap.size≤k)(hret:e=.returned (ret.den (β.upd m k)))(hc:Chg [] W w'):Sx.GRet β W row m ⟨X,[],[],[⟨T,.vals cs⟩],ret,none⟩ e w' (β.upd m k):=by
 refine⟨fun i hi=>⟨?_,rfl,rfl,rfl⟩,hret,fun q hq=>(by cases hq),fun i r hr=>?_,fun i r x hr hx=>?_,fun i i' r r' x hr hr' _ _=>?_,hc⟩
 ·show β i=if i=m then k else β i
  rw[if_neg (by omega)]
 ·match i,hr with
  | 0,hr=>
   cases hr
   show Blk w' (if m+0=m then k else β (m+0)) T cs
   rw[Nat.add_zero,if_pos rfl]
   exact hb
 ·match i,hr with
  | 0,hr=>
   cases hr
   have hx:some (if m+0=m then k else β (m+0))=some x:=hx
   rw[Nat.add_zero,if_pos rfl]at hx
   cases hx
   exact .inr hn
 ·match i,i',hr,hr' with
  | 0,0,_,_=>rfl
theorem nilCf_den(β:Sx.Env):(nilCf.map Sx.Atom.v).map (Sx.Atom.den β)=nilCf:=by rw[List.map_map];exact List.map_id _
theorem lread_no{b:Sx.Base}{row:Nat→Option Sx.Row}{m:Nat}{s:Bs}{code line:Nat}(hlan:LanE b.w)(h9:∀k∈b.S,9≤k)(hs:readW s=.no code line)(W:World)(β:Sx.Env)(hS:Sx.See b β W row []):Calls Tryz.prog 22 (([.val (strV s)]:List Sx.SV).map (Sx.SV.den β)).toArray W (Sx.gPost b β W row m (badN m code line)):=by
 refine(lread_N W (hlan.chg hS.chg h9) s).mono fun en w' hp=>?_
 rw[hs]at hp
 rcases hp with⟨β',l,mem,⟨j,rfl,hj⟩,he,hR⟩ | ⟨_,_,hf,_⟩
 ·have r:=hR.held j _ hj
  have hn:=hR.new j _ (β' j) hj rfl
  refine .inl ⟨fun p hp=>(by cases hp),β.upd m (β' j),new_one r ?_ ?_ hR.chg⟩
  ·rcases hn with h|h
   ·cases h
   ·exact h
  ·rw[he]
   show Ending.returned (.tuple #[.agg nilCf.toArray,.iface 103 (.pointer (some ⟨β' j,0,none⟩))])=.returned (.tuple #[.agg ((nilCf.map Sx.Atom.v).map (Sx.Atom.den _)).toArray,.iface 103 (.pointer (some ⟨if m=m then β' j else β m,0,none⟩))])
   rw[nilCf_den,if_pos rfl]
 ·exact hf.elim
def seeCf(m:Nat):List Nat:=[m,m+1,m+2,m+3,m+4]
theorem print_call{b:Sx.Base}{mem:List Sx.Row}{i m:Nat}{cf:CF}(hlan:Lan b.w)(h9:∀k∈b.S,9≤k)(h:CfIx mem i (i+1) (i+2) (i+3) (i+4) cf)(hw:CfWf cf)(hf:CfFew cf)(hB:(cfText cf).length≤140737488355328)(W:World)(β:Sx.Env)(hS:Sx.See b β W (Sx.rowAt mem) (seeCf i)) :
  Calls Tryz.prog 28 (([.rowv (cfA i cf)]:List Sx.SV).map (Sx.SV.den β)).toArray W (Sx.gPost b β W (Sx.rowAt mem) m ⟨seeCf i,[],[],[],.val (.tuple #[strV (printW cf).1,.int .i64 (printW cf).2]),none⟩):=by
 obtain⟨hr,hd⟩:=cfIx_see hS h (fun k hk=>hk)
 show Calls Tryz.prog 28 #[(Sx.SV.rowv (cfA i cf)).den β] W _
 rw[hd]
 exact(print_N (hlan.chg hS.chg h9) cf _ hr hw hf hB).mono fun en w' ⟨he,hc⟩=>.inl ⟨fun p hp=>(by cases hp),β,Sx.gret_vals (v:=.tuple #[strV (printW cf).1,.int .i64 (printW cf).2]) rfl rfl he (fun q hq=>by cases hq) hc⟩
theorem same_call{b:Sx.Base}{mem:List Sx.Row}{i j m:Nat}{c d:CF}(hi:CfIx mem i (i+1) (i+2) (i+3) (i+4) c)(hj:CfIx mem j (j+1) (j+2) (j+3) (j+4) d)(wc:CfWf c)(wd:CfWf d)(fc:CfFew c)(W:World)(β:Sx.Env)(hS:Sx.See b β W (Sx.rowAt mem) (seeCf i++seeCf j)) :
  Calls Tryz.prog 25 (([.rowv (cfA i c),.rowv (cfA j d)]:List Sx.SV).map (Sx.SV.den β)).toArray W (Sx.gPost b β W (Sx.rowAt mem) m ⟨seeCf i++seeCf j,[],[],[],.val (.bool (sameB c d)),none⟩):=by
 obtain⟨hr,hd⟩:=cfIx_see hS hi (fun k hk=>List.mem_append_left _ hk)
 obtain⟨hr2,hd2⟩:=cfIx_see hS hj (fun k hk=>List.mem_append_right _ hk)
 show Calls Tryz.prog 25 #[(Sx.SV.rowv (cfA i c)).den β,(Sx.SV.rowv (cfA j d)).den β] W _
 rw[hd,hd2]
 exact(same_N c d _ _ hr hr2 wc wd fc).mono fun en w' ⟨he,hc⟩=>.inl ⟨fun p hp=>(by cases hp),β,Sx.gret_vals (v:=.bool (sameB c d)) rfl rfl he (fun q hq=>by cases hq) hc⟩
def FtR(code line:Nat)(l:List Sx.SV)(mem:List Sx.Row):Prop:=∃k,l=[.ifc 103 k 0]∧mem[k]?=some ⟨105,.vals (ftC code line)⟩
theorem badly_w(w:World)(hlan:LanE w):Calls Tryz.prog 68 #[] w (Sx.anyPost (pB w) (FtR 201 2)):=by
 have c4:=fun W β (hS:Sx.See (pB w) β W (Sx.rowAt []) [])=>lread_no (m:=0) hlan (fun k hk=>by cases hk) bd_read W β hS
 have z0:FtR 201 2 [.ifc 103 0 0] [⟨105,.vals (ftC 201 2)⟩,⟨46,.svs (nilCf.map .val)⟩]:=⟨0,rfl,rfl⟩
 refine Sx.calls_any (args:=[]) (no_rows w) [(4,.callG (badN 0 201 2))] [] (by kernel_rfl) Tryz.func68 rfl (Nat.le_of_ble_eq_true rfl) rfl ?_
 exact Eq.mp (by kernel_rfl) (And.intro c4 z0)
theorem badly_call{b:Sx.Base}{row:Nat→Option Sx.Row}{m:Nat}(hlan:LanE b.w)(h9:∀k∈b.S,9≤k)(W:World)(β:Sx.Env)(hS:Sx.See b β W row []):Calls Tryz.prog 68 (([]:List Sx.SV).map (Sx.SV.den β)).toArray W (Sx.gPost b β W row m ⟨[],[],[],[⟨105,.vals (ftC 201 2)⟩],.ifc 103 m 0,none⟩):=by
 refine(badly_w W (hlan.chg hS.chg h9)).mono fun en w' hp=>?_
 rcases hp with⟨β',l,mem,⟨j,rfl,hj⟩,he,hR⟩ | ⟨_,_,hf,_⟩
 ·have r:=hR.held j _ hj
  have hn:=hR.new j _ (β' j) hj rfl
  refine .inl ⟨fun p hp=>(by cases hp),β.upd m (β' j),new_one r ?_ ?_ hR.chg⟩
  ·rcases hn with h|h
   ·cases h
   ·exact h
  ·rw[he]
   show Ending.returned (.iface 103 (.pointer (some ⟨β' j,0,none⟩)))=.returned (.iface 103 (.pointer (some ⟨if m=m then β' j else β m,0,none⟩)))
   rw[if_pos rfl]
 ·exact hf.elim
theorem awake_N(w:World)(hlan:LanE w):Calls Tryz.prog 26 #[] w fun e w'=>e=.returned (.bool true)∧Chg [] w w':=by
 have no9:∀k∈([]:List Nat),9≤k:=fun k hk=>by cases hk
 have c8:=fun W β (hS:Sx.See (pB w) β W (Sx.rowAt []) [])=>example_call (m:=0) W β hS
 have c9:=fun W β (hS:Sx.See (pB w) β W (Sx.rowAt (rowsC exCf)) (seeCf 0))=>(show Calls Tryz.prog 28 (([.rowv (cfA 0 exCf)]:List Sx.SV).map (Sx.SV.den β)).toArray W (Sx.gPost (pB w) β W (Sx.rowAt (rowsC exCf)) 5 ⟨seeCf 0,[],[],[],.val (.tuple #[strV exText,.int .i64 0]),none⟩)from by
  have:=print_call (m:=5) hlan.lan no9 (i:=0) ⟨rfl,rfl,rfl,rfl,rfl⟩ exCf_wf exCf_few (by rw[exCf_text];decide) W β hS
  rw[exCf_print]at this
  exact this)
 have c13:=fun W β (hS:Sx.See (pB w) β W (Sx.rowAt (rowsC exCf)) [])=>lread_ok (m:=5) hlan no9 (ex_read (rdU_of hlan.lan)) W β hS
 obtain⟨R10,hR10⟩:∃R10:List Sx.Row,R10=rowsC exCf++(rowsC exCf++[⟨46,.svs [.own 5,.own 6,.own 7,.own 8,.own 9,.val (.int .i64 1)]⟩]):=⟨_,rfl⟩
 have c17:=fun W β (hS:Sx.See (pB w) β W (Sx.rowAt R10) [])=>badly_call (m:=11) hlan no9 W β hS
 have c18:=fun W β (hS:Sx.See (pB w) β W (Sx.rowAt (R10++[⟨105,.vals (ftC 201 2)⟩])) [11])=>told_call (m:=12) (j:=11) (code:=201) (place:=2) hlan no9 (by rw[hR10];rfl) W β hS
 have c33:=fun W β (hS:Sx.See (pB w) β W (Sx.rowAt (R10++[⟨105,.vals (ftC 201 2)⟩])) [])=>example_call (m:=12) W β hS
 have c34:=fun W β (hS:Sx.See (pB w) β W (Sx.rowAt (R10++(⟨105,.vals (ftC 201 2)⟩::rowsC exCf))) (seeCf 5++seeCf 12))=>(show Calls Tryz.prog 25 (([.rowv (cfA 5 exCf),.rowv (cfA 12 exCf)]:List Sx.SV).map (Sx.SV.den β)).toArray W (Sx.gPost (pB w) β W (Sx.rowAt (R10++(⟨105,.vals (ftC 201 2)⟩::rowsC exCf))) 17 ⟨seeCf 5++seeCf 12,[],[],[],.val (.bool true),none⟩)from by
  have:=same_call (m:=17) (i:=5) (j:=12) (c:=exCf) (d:=exCf) (mem:=R10++(⟨105,.vals (ftC 201 2)⟩::rowsC exCf)) (by rw[hR10];exact⟨rfl,rfl,rfl,rfl,rfl⟩) (by rw[hR10];exact⟨rfl,rfl,rfl,rfl,rfl⟩) exCf_wf exCf_wf exCf_few W β hS
  rw[show sameB exCf exCf=true from(sameB_iff _ _).2 rfl]at this
  exact this)
 subst hR10
 have z0:Value.bool true=.bool true:=rfl
 have z1:Value.bool true=.bool true:=rfl
 refine Sx.calls_is (args:=[]) [(8,.callG (cfNew 0 exCf (.rowv (cfA 0 exCf)))),(9,.callG ⟨seeCf 0,[],[],[],.val (.tuple #[strV exText,.int .i64 0]),none⟩),(13,.callG (cfNew 5 exCf (.tups [.row (cfA 5 exCf),.a (.v .nilIface)]))),(17,.callG ⟨[],[],[],[⟨105,.vals (ftC 201 2)⟩],.ifc 103 11 0,none⟩),(18,.callG (toldG 11 201 2)),(33,.callG (cfNew 12 exCf (.rowv (cfA 12 exCf)))),(34,.callG ⟨seeCf 5++seeCf 12,[],[],[],.val (.bool true),none⟩),(600004,.ix)] [] (by kernel_rfl) Tryz.func26 rfl (Nat.le_of_ble_eq_true rfl) ?_
 exact Eq.mp (by kernel_rfl) (Sx.t8 c8 c9 c13 c17 c18 (Sx.t2 c33 c34 z0) c33 c34 z1)
theorem gT(k:Int)(c:UInt8)(h:k≤(c.toNat:Int)):Value.bool (decide (k≤(c.toNat:Int)))=.bool true:=bzt (decide_eq_true h)
theorem gF(k:Int)(c:UInt8)(h:¬k≤(c.toNat:Int)):Value.bool (decide (k≤(c.toNat:Int)))=.bool false:=bzf (decide_eq_false h)
theorem lT(k:Int)(c:UInt8)(h:(c.toNat:Int)≤k):Value.bool (decide ((c.toNat:Int)≤k))=.bool true:=bzt (decide_eq_true h)
theorem lF(k:Int)(c:UInt8)(h:¬(c.toNat:Int)≤k):Value.bool (decide ((c.toNat:Int)≤k))=.bool false:=bzf (decide_eq_false h)
def nmFr(l:List UInt8)(i:Nat):List (Nat×Sx.SV):=[(0,.val (.string ⟨l.toArray⟩)),(3,.val (.int .i64 (i:Int)))]
def nmFo(l:List UInt8):List (Nat×Sx.SV):=[(0,.val (.string ⟨l.toArray⟩))]
def nmR(l:List UInt8)(i:Nat):Prop:=i≤l.length∧∀j c,j < i→l[j]?=some c→nmC j c=true
theorem nmR_up{l:List UInt8}{i:Nat}{c:UInt8}(h:nmR l i)(hg:l[i]?=some c)(hc:nmC i c=true):nmR l (i+1):=by
 have hlt:i < l.length:=(List.getElem?_eq_some_iff.1 hg).1
 refine⟨hlt,fun j c' hj hjc=>?_⟩
 by_cases he:j=i
 ·subst he
  rw[hg]at hjc
  injection hjc with hjc
  rw[←hjc];exact hc
 ·exact h.2 j c' (by omega) hjc
theorem rname_lp(l:List UInt8)(T:Value)(w:World)(hs:l.length≤16)(hb:1≤l.length)(hT:T=.bool (nameB l))(i:Nat)(hi:nmR l i):∃H' L',Sx.ex Tryz.prog 54 w (Sx.bodyOf Tryz.f34 0) H' L' ⟨nmFr l i,[]⟩
  (Sx.loopK (nmR l) (nmFr l) (fun _=>[]) (fun i=>i+1) (fun i=>l.length+2 - i) (fun(_:Unit)=>∀c j,l[j]?=some c→nmC j c=true) (fun _=>nmFo l) (fun _=>[]) (fun _=>()) (Sx.outId (Sx.bodyOf Tryz.f34 0) - 1) (Sx.atEnd Tryz.prog Tryz.f34 (fun u=>u=T) .ret) i):=by
 have c17:=len_i l
 have hi0:=hi.1
 by_cases h:i < l.length
 ·have c18:Value.bool (decide ((i:Int) < (l.length:Int)))=.bool true:=bzt (decide_eq_true (by omega))
  obtain⟨c,hc⟩:∃c,l[i]?=some c:=⟨_,List.getElem?_eq_getElem h⟩
  have c23:=u8_at l i c hc
  have c20:Value.int .i64 (IntKind.i64.wrap ((i:Int)+1))=.int .i64 ((i+1:Nat):Int):=iw (w64 (by omega) (by omega))
  have h1:l.length+2 - (i+1) < l.length+2 - i:=by omega
  have h2:nmFr l (i+1)=nmFr l (i+1):=rfl
  have z3:([]:List Sx.Row)=[]:=rfl
  rcases(show(97≤c.toNat∧c.toNat≤122∧c.toNat≠95)∨(48≤c.toNat∧c.toNat≤57∧i=0)∨(c.toNat < 48∧c.toNat=45∧i=0)∨(c.toNat < 48∧c.toNat≠45∧i=0)∨(57 < c.toNat∧c.toNat < 97∧c.toNat=95∧i=0)∨(57 < c.toNat∧c.toNat < 97∧c.toNat≠95∧i=0)∨(122 < c.toNat∧i=0)∨(48≤c.toNat∧c.toNat≤57∧0 < i)∨(c.toNat < 48∧c.toNat=45∧0 < i)∨(c.toNat < 48∧c.toNat≠45∧0 < i)∨(57 < c.toNat∧c.toNat < 97∧c.toNat=95∧0 < i)∨(57 < c.toNat∧c.toNat < 97∧c.toNat≠95∧0 < i)∨(122 < c.toNat∧0 < i)by omega)with hk|hk|hk|hk|hk|hk|hk|hk|hk|hk|hk|hk|hk
  ·skip
   have c25:=gT 97 c (by omega)
   have c28:=lT 122 c (by omega)
   have c31:=gT 48 c (by omega)
   have c34:=lF 57 c (by omega)
   have c38:Value.bool ((c.toNat:Int)==45)=.bool false:=bzf (by rw[beq_eq_false_iff_ne];omega)
   have c42:Value.bool ((c.toNat:Int)==95)=.bool false:=bzf (by rw[beq_eq_false_iff_ne];omega)
   have h0:nmR l (i+1):=nmR_up hi hc (nm_yes1 rfl (by omega) (by omega))
   refine⟨[(17,.is (.int .i64 (l.length:Int))),(18,.is (.bool true)),(23,.bin (u8 c)),(25,.is (.bool true)),(28,.is (.bool true)),(31,.is (.bool true)),(34,.is (.bool false)),(38,.is (.bool false)),(42,.is (.bool false)),(20,.is (.int .i64 ((i+1:Nat):Int)))],[],?_⟩
   exact Eq.mp (by kernel_rfl) (Sx.t8 c17 c18 c23 c25 c28 c31 c34 c38 (Sx.t4 c42 c20 h0 h1 (And.intro h2 z3)))
  ·skip
   have c25:=gF 97 c (by omega)
   have c31:=gT 48 c (by omega)
   have c34:=lT 57 c (by omega)
   have c48:Value.bool ((i:Int)==0)=.bool true:=bzt (by rw[beq_iff_eq];omega)
   have z0:Value.bool false=T:=by rw[hT,nameB_no hc (nm_no rfl (by omega) (by omega))]
   refine⟨[(17,.is (.int .i64 (l.length:Int))),(18,.is (.bool true)),(23,.bin (u8 c)),(25,.is (.bool false)),(31,.is (.bool true)),(34,.is (.bool true)),(48,.is (.bool true))],[],?_⟩
   exact Eq.mp (by kernel_rfl) (Sx.t4 c17 c18 c23 c25 (Sx.t2 c31 c34 (And.intro c48 z0)))
  ·skip
   have c25:=gF 97 c (by omega)
   have c31:=gF 48 c (by omega)
   have c38:Value.bool ((c.toNat:Int)==45)=.bool true:=bzt (by rw[beq_iff_eq];omega)
   have c48:Value.bool ((i:Int)==0)=.bool true:=bzt (by rw[beq_iff_eq];omega)
   have z0:Value.bool false=T:=by rw[hT,nameB_no hc (nm_no rfl (by omega) (by omega))]
   refine⟨[(17,.is (.int .i64 (l.length:Int))),(18,.is (.bool true)),(23,.bin (u8 c)),(25,.is (.bool false)),(31,.is (.bool false)),(38,.is (.bool true)),(48,.is (.bool true))],[],?_⟩
   exact Eq.mp (by kernel_rfl) (Sx.t4 c17 c18 c23 c25 (Sx.t2 c31 c38 (And.intro c48 z0)))
  ·skip
   have c25:=gF 97 c (by omega)
   have c31:=gF 48 c (by omega)
   have c38:Value.bool ((c.toNat:Int)==45)=.bool false:=bzf (by rw[beq_eq_false_iff_ne];omega)
   have c42:Value.bool ((c.toNat:Int)==95)=.bool false:=bzf (by rw[beq_eq_false_iff_ne];omega)
   have c48:Value.bool ((i:Int)==0)=.bool true:=bzt (by rw[beq_iff_eq];omega)
   have z0:Value.bool false=T:=by rw[hT,nameB_no hc (nm_no rfl (by omega) (by omega))]
   refine⟨[(17,.is (.int .i64 (l.length:Int))),(18,.is (.bool true)),(23,.bin (u8 c)),(25,.is (.bool false)),(31,.is (.bool false)),(38,.is (.bool false)),(42,.is (.bool false)),(48,.is (.bool true))],[],?_⟩
   exact Eq.mp (by kernel_rfl) (Sx.t8 c17 c18 c23 c25 c31 c38 c42 c48 z0)
  ·skip
   have c25:=gF 97 c (by omega)
   have c31:=gT 48 c (by omega)
   have c34:=lF 57 c (by omega)
   have c38:Value.bool ((c.toNat:Int)==45)=.bool false:=bzf (by rw[beq_eq_false_iff_ne];omega)
   have c42:Value.bool ((c.toNat:Int)==95)=.bool true:=bzt (by rw[beq_iff_eq];omega)
   have c48:Value.bool ((i:Int)==0)=.bool true:=bzt (by rw[beq_iff_eq];omega)
   have z0:Value.bool false=T:=by rw[hT,nameB_no hc (nm_no rfl (by omega) (by omega))]
   refine⟨[(17,.is (.int .i64 (l.length:Int))),(18,.is (.bool true)),(23,.bin (u8 c)),(25,.is (.bool false)),(31,.is (.bool true)),(34,.is (.bool false)),(38,.is (.bool false)),(42,.is (.bool true)),(48,.is (.bool true))],[],?_⟩
   exact Eq.mp (by kernel_rfl) (Sx.t8 c17 c18 c23 c25 c31 c34 c38 c42 (And.intro c48 z0))
  ·skip
   have c25:=gF 97 c (by omega)
   have c31:=gT 48 c (by omega)
   have c34:=lF 57 c (by omega)
   have c38:Value.bool ((c.toNat:Int)==45)=.bool false:=bzf (by rw[beq_eq_false_iff_ne];omega)
   have c42:Value.bool ((c.toNat:Int)==95)=.bool false:=bzf (by rw[beq_eq_false_iff_ne];omega)
   have c48:Value.bool ((i:Int)==0)=.bool true:=bzt (by rw[beq_iff_eq];omega)
   have z0:Value.bool false=T:=by rw[hT,nameB_no hc (nm_no rfl (by omega) (by omega))]
   refine⟨[(17,.is (.int .i64 (l.length:Int))),(18,.is (.bool true)),(23,.bin (u8 c)),(25,.is (.bool false)),(31,.is (.bool true)),(34,.is (.bool false)),(38,.is (.bool false)),(42,.is (.bool false)),(48,.is (.bool true))],[],?_⟩
   exact Eq.mp (by kernel_rfl) (Sx.t8 c17 c18 c23 c25 c31 c34 c38 c42 (And.intro c48 z0))
  ·skip
   have c25:=gT 97 c (by omega)
   have c28:=lF 122 c (by omega)
   have c31:=gT 48 c (by omega)
   have c34:=lF 57 c (by omega)
   have c38:Value.bool ((c.toNat:Int)==45)=.bool false:=bzf (by rw[beq_eq_false_iff_ne];omega)
   have c42:Value.bool ((c.toNat:Int)==95)=.bool false:=bzf (by rw[beq_eq_false_iff_ne];omega)
   have c48:Value.bool ((i:Int)==0)=.bool true:=bzt (by rw[beq_iff_eq];omega)
   have z0:Value.bool false=T:=by rw[hT,nameB_no hc (nm_no rfl (by omega) (by omega))]
   refine⟨[(17,.is (.int .i64 (l.length:Int))),(18,.is (.bool true)),(23,.bin (u8 c)),(25,.is (.bool true)),(28,.is (.bool false)),(31,.is (.bool true)),(34,.is (.bool false)),(38,.is (.bool false)),(42,.is (.bool false)),(48,.is (.bool true))],[],?_⟩
   exact Eq.mp (by kernel_rfl) (Sx.t8 c17 c18 c23 c25 c28 c31 c34 c38 (Sx.t2 c42 c48 z0))
  ·skip
   have c25:=gF 97 c (by omega)
   have c31:=gT 48 c (by omega)
   have c34:=lT 57 c (by omega)
   have c48:Value.bool ((i:Int)==0)=.bool false:=bzf (by rw[beq_eq_false_iff_ne];omega)
   have h0:nmR l (i+1):=nmR_up hi hc (nm_yes2 rfl (by omega) (by omega))
   refine⟨[(17,.is (.int .i64 (l.length:Int))),(18,.is (.bool true)),(23,.bin (u8 c)),(25,.is (.bool false)),(31,.is (.bool true)),(34,.is (.bool true)),(48,.is (.bool false)),(20,.is (.int .i64 ((i+1:Nat):Int)))],[],?_⟩
   exact Eq.mp (by kernel_rfl) (Sx.t8 c17 c18 c23 c25 c31 c34 c48 c20 (Sx.t2 h0 h1 (And.intro h2 z3)))
  ·skip
   have c25:=gF 97 c (by omega)
   have c31:=gF 48 c (by omega)
   have c38:Value.bool ((c.toNat:Int)==45)=.bool true:=bzt (by rw[beq_iff_eq];omega)
   have c48:Value.bool ((i:Int)==0)=.bool false:=bzf (by rw[beq_eq_false_iff_ne];omega)
   have h0:nmR l (i+1):=nmR_up hi hc (nm_yes2 rfl (by omega) (by omega))
   refine⟨[(17,.is (.int .i64 (l.length:Int))),(18,.is (.bool true)),(23,.bin (u8 c)),(25,.is (.bool false)),(31,.is (.bool false)),(38,.is (.bool true)),(48,.is (.bool false)),(20,.is (.int .i64 ((i+1:Nat):Int)))],[],?_⟩
   exact Eq.mp (by kernel_rfl) (Sx.t8 c17 c18 c23 c25 c31 c38 c48 c20 (Sx.t2 h0 h1 (And.intro h2 z3)))
  ·skip
   have c25:=gF 97 c (by omega)
   have c31:=gF 48 c (by omega)
   have c38:Value.bool ((c.toNat:Int)==45)=.bool false:=bzf (by rw[beq_eq_false_iff_ne];omega)
   have c42:Value.bool ((c.toNat:Int)==95)=.bool false:=bzf (by rw[beq_eq_false_iff_ne];omega)
   have c48:Value.bool ((i:Int)==0)=.bool false:=bzf (by rw[beq_eq_false_iff_ne];omega)
   have z0:Value.bool false=T:=by rw[hT,nameB_no hc (nm_no rfl (by omega) (by omega))]
   refine⟨[(17,.is (.int .i64 (l.length:Int))),(18,.is (.bool true)),(23,.bin (u8 c)),(25,.is (.bool false)),(31,.is (.bool false)),(38,.is (.bool false)),(42,.is (.bool false)),(48,.is (.bool false))],[],?_⟩
   exact Eq.mp (by kernel_rfl) (Sx.t8 c17 c18 c23 c25 c31 c38 c42 c48 z0)
  ·skip
   have c25:=gF 97 c (by omega)
   have c31:=gT 48 c (by omega)
   have c34:=lF 57 c (by omega)
   have c38:Value.bool ((c.toNat:Int)==45)=.bool false:=bzf (by rw[beq_eq_false_iff_ne];omega)
   have c42:Value.bool ((c.toNat:Int)==95)=.bool true:=bzt (by rw[beq_iff_eq];omega)
   have c48:Value.bool ((i:Int)==0)=.bool false:=bzf (by rw[beq_eq_false_iff_ne];omega)
   have h0:nmR l (i+1):=nmR_up hi hc (nm_yes2 rfl (by omega) (by omega))
   refine⟨[(17,.is (.int .i64 (l.length:Int))),(18,.is (.bool true)),(23,.bin (u8 c)),(25,.is (.bool false)),(31,.is (.bool true)),(34,.is (.bool false)),(38,.is (.bool false)),(42,.is (.bool true)),(48,.is (.bool false)),(20,.is (.int .i64 ((i+1:Nat):Int)))],[],?_⟩
   exact Eq.mp (by kernel_rfl) (Sx.t8 c17 c18 c23 c25 c31 c34 c38 c42 (Sx.t4 c48 c20 h0 h1 (And.intro h2 z3)))
  ·skip
   have c25:=gF 97 c (by omega)
   have c31:=gT 48 c (by omega)
   have c34:=lF 57 c (by omega)
   have c38:Value.bool ((c.toNat:Int)==45)=.bool false:=bzf (by rw[beq_eq_false_iff_ne];omega)
   have c42:Value.bool ((c.toNat:Int)==95)=.bool false:=bzf (by rw[beq_eq_false_iff_ne];omega)
   have c48:Value.bool ((i:Int)==0)=.bool false:=bzf (by rw[beq_eq_false_iff_ne];omega)
   have z0:Value.bool false=T:=by rw[hT,nameB_no hc (nm_no rfl (by omega) (by omega))]
   refine⟨[(17,.is (.int .i64 (l.length:Int))),(18,.is (.bool true)),(23,.bin (u8 c)),(25,.is (.bool false)),(31,.is (.bool true)),(34,.is (.bool false)),(38,.is (.bool false)),(42,.is (.bool false)),(48,.is (.bool false))],[],?_⟩
   exact Eq.mp (by kernel_rfl) (Sx.t8 c17 c18 c23 c25 c31 c34 c38 c42 (And.intro c48 z0))
  ·skip
   have c25:=gT 97 c (by omega)
   have c28:=lF 122 c (by omega)
   have c31:=gT 48 c (by omega)
   have c34:=lF 57 c (by omega)
   have c38:Value.bool ((c.toNat:Int)==45)=.bool false:=bzf (by rw[beq_eq_false_iff_ne];omega)
   have c42:Value.bool ((c.toNat:Int)==95)=.bool false:=bzf (by rw[beq_eq_false_iff_ne];omega)
   have c48:Value.bool ((i:Int)==0)=.bool false:=bzf (by rw[beq_eq_false_iff_ne];omega)
   have z0:Value.bool false=T:=by rw[hT,nameB_no hc (nm_no rfl (by omega) (by omega))]
   refine⟨[(17,.is (.int .i64 (l.length:Int))),(18,.is (.bool true)),(23,.bin (u8 c)),(25,.is (.bool true)),(28,.is (.bool false)),(31,.is (.bool true)),(34,.is (.bool false)),(38,.is (.bool false)),(42,.is (.bool false)),(48,.is (.bool false))],[],?_⟩
   exact Eq.mp (by kernel_rfl) (Sx.t8 c17 c18 c23 c25 c28 c31 c34 c38 (Sx.t2 c42 c48 z0))
 ·have c18:Value.bool (decide ((i:Int) < (l.length:Int)))=.bool false:=bzf (decide_eq_false (by omega))
  have h0:∀c j,l[j]?=some c→nmC j c=true:=fun c j hj=>hi.2 j c (by have:=(List.getElem?_eq_some_iff.1 hj).1;omega) hj
  have h1:nmFo l=nmFo l:=rfl
  have z2:([]:List Sx.Row)=[]:=rfl
  refine⟨[(17,.is (.int .i64 (l.length:Int))),(18,.is (.bool false))],[],?_⟩
  exact Eq.mp (by kernel_rfl) (Sx.t4 c17 c18 h0 h1 z2)
def nmLoops(l:List UInt8):List Sx.Loop:=[.mk Nat 0 (nmR l) (nmFr l) (fun _=>[]) (fun i=>i+1) (fun i=>l.length+2 - i) Unit (fun _=>∀c j,l[j]?=some c→nmC j c=true) (fun _=>nmFo l) (fun _=>[]) (fun _=>())]
theorem rname_N(l:List UInt8)(w:World):Calls Tryz.prog 34 #[.string ⟨l.toArray⟩] w fun e w'=>e=.returned (.bool (nameB l))∧Chg [] w w':=by
 have c8:=len_i l
 have c12:=len_i l
 by_cases h1:l.length < 1
 ·have c9:Value.bool (decide ((l.length:Int) < 1))=.bool true:=bzt (decide_eq_true (by omega))
  have z0:Value.bool false=.bool (nameB l):=by unfold nameB;rw[decide_eq_false (by omega)];rfl
  refine Sx.calls_is (args:=[.string ⟨l.toArray⟩]) [(8,.is (.int .i64 (l.length:Int))),(9,.is (.bool true))] [] (by kernel_rfl) Tryz.func34 rfl (Nat.le_of_ble_eq_true rfl) ?_
  exact Eq.mp (by kernel_rfl) (Sx.t2 c8 c9 z0)
 have c9:Value.bool (decide ((l.length:Int) < 1))=.bool false:=bzf (decide_eq_false (by omega))
 by_cases h16:16 < l.length
 ·have c13:Value.bool (decide ((16:Int) < (l.length:Int)))=.bool true:=bzt (decide_eq_true (by omega))
  have z0:Value.bool false=.bool (nameB l):=by unfold nameB;rw[decide_eq_false (show ¬l.length≤16 by omega)];simp
  refine Sx.calls_is (args:=[.string ⟨l.toArray⟩]) [(8,.is (.int .i64 (l.length:Int))),(9,.is (.bool false)),(12,.is (.int .i64 (l.length:Int))),(13,.is (.bool true))] [] (by kernel_rfl) Tryz.func34 rfl (Nat.le_of_ble_eq_true rfl) ?_
  exact Eq.mp (by kernel_rfl) (Sx.t4 c8 c9 c12 c13 z0)
 have c13:Value.bool (decide ((16:Int) < (l.length:Int)))=.bool false:=bzf (decide_eq_false (by omega))
 have e1:nmFr l 0=nmFr l 0∧([]:List Sx.Row)=[]:=⟨rfl,rfl⟩
 have rd2:=rname_lp l (.bool (nameB l)) w (by omega) (by omega) rfl
 have z5f:Unit→(∀c j,l[j]?=some c→nmC j c=true)→Value.bool true=.bool (nameB l):=fun _ h=>by rw[nameB_yes (by omega) (by omega) (fun i c hi=>h c i hi)]
 have h0:nmR l 0:=⟨Nat.zero_le _,fun j c hj=>absurd hj (Nat.not_lt_zero _)⟩
 refine Sx.calls_is (args:=[.string ⟨l.toArray⟩]) [(8,.is (.int .i64 (l.length:Int))),(9,.is (.bool false)),(12,.is (.int .i64 (l.length:Int))),(13,.is (.bool false))] (nmLoops l) (by kernel_rfl) Tryz.func34 rfl (Nat.le_of_ble_eq_true rfl) ?_
 exact Eq.mp (by kernel_rfl) (Sx.t4 c8 c9 c12 c13 (Sx.t2 h0 e1 (And.intro rd2 (fun(x3:Unit) (hx4:∀(c:UInt8) (j:Nat),l[j]?=Option.some c→nmC j c=true)=>(z5f x3 hx4)))))
theorem naming_b(l:List UInt8)(w:World)(hlan:LanE w)(b:Bool)(hb:nameB l=b):Calls Tryz.prog 8 #[.string ⟨l.toArray⟩] w fun e w'=>e=.returned (.bool true)∧Chg [] w w':=by
 have hl:∀W,Chg [] w W→LanE W:=fun W hW=>hlan.chg hW (fun k hk=>by cases hk)
 have c4:=fun W (_:Chg [] w W)=>(show Calls Tryz.prog 33 #[.string ⟨l.toArray⟩] W fun e w'=>e=.returned (.bool b)∧Chg [] W w' from hb ▸ name_N l W)
 have c6:=fun W (_:Chg [] w W)=>(show Calls Tryz.prog 34 #[.string ⟨l.toArray⟩] W fun e w'=>e=.returned (.bool b)∧Chg [] W w' from hb ▸ rname_N l W)
 have c9:=fun W (hW:Chg [] w W)=>awake_N W (hl W hW)
 have z0:Value.bool true=.bool true:=rfl
 cases b with
 |false=>
  refine Sx.calls_is (args:=[.string ⟨l.toArray⟩]) [(4,.call (.bool false)),(6,.call (.bool false)),(9,.call (.bool true))] [] (by kernel_rfl) Tryz.func8 rfl (Nat.le_of_ble_eq_true rfl) ?_
  exact Eq.mp (by kernel_rfl) (Sx.t2 c4 c6 (And.intro c9 z0))
 |true=>
  refine Sx.calls_is (args:=[.string ⟨l.toArray⟩]) [(4,.call (.bool true)),(6,.call (.bool true)),(9,.call (.bool true))] [] (by kernel_rfl) Tryz.func8 rfl (Nat.le_of_ble_eq_true rfl) ?_
  exact Eq.mp (by kernel_rfl) (Sx.t2 c4 c6 (And.intro c9 z0))
theorem naming_W(s:ByteArray)(w:World)(hlan:LanE w):Calls Tryz.prog 8 #[.string s] w fun e w'=>e=.returned (.bool true)∧Chg [] w w':=by
 have e:s=⟨s.data.toList.toArray⟩:=by rw[Array.toArray_toList]
 rw[e]
 exact naming_b _ w hlan _ rfl
set_option maxRecDepth 100000
open Go.ChangeShapes Go.WideShapes
theorem iface_head{P:Program}{W:World}{n nm:String}{d:DataW Unit}{r:List (String×DataW Unit)}{g ti:Nat}{ms:Array (String×TypeId)}(h:laidMet P ((n,.iface nm d)::r) W)(hg:P.globalNamed n=some g)(ht:(P.globals[g]?).map (·.type)=some ti)(hi:P.underlying ti=some (.interface ms)) :
  ∃te pe,W.cell? ⟨g,0,none⟩=some (.iface te pe):=by
 obtain⟨ps,⟨g0,t0,cs0,f0,p0,q0,hg0,ht0,hv0,hd0,_,e0⟩,_,hrows⟩:=h
 obtain rfl:=Option.some.inj (hg.symm.trans hg0)
 obtain rfl:=Option.some.inj (ht.symm.trans ht0)
 obtain⟨l0⟩:=cs0
 obtain⟨f1,u,v,e,_,_⟩:=iface_of_trod hi hd0
 refine⟨u,v,?_⟩
 simp only at e
 subst e
 simpa using World.var?_cell hg0 hv0 0
def laidL:List (String×DataW Unit):=Rows.langReadsRow.laid
def tab64:List Int:=[0,1,56,2,57,49,28,3,61,58,42,50,38,29,17,4,62,47,59,36,45,43,51,22,53,39,33,30,24,18,12,5,63,55,48,27,60,41,37,16,46,35,44,21,52,32,23,11,54,26,40,15,34,20,31,10,25,14,19,9,13,8,7,6]
theorem g1_size:1 < Tryz.prog.globals.size:=of_decide_eq_true (by kernel_rfl)
theorem g8_size:8 < Tryz.prog.globals.size:=of_decide_eq_true (by kernel_rfl)
theorem zero8:(((begin Tryz.prog (fun _ _=>0) default).world.heap[8]?).bind Obj.row?).isSome=true:=by kernel_rfl
theorem et_global:Tryz.prog.globalNamed "errors.errorType"=some 0:=by kernel_rfl
theorem rt_type:(Tryz.prog.cutTypes.find? (·.1== "internal/reflectlite.rtype")).map (·.2)=some 242:=by kernel_rfl
theorem types_size:Tryz.prog.types.size=330:=by kernel_rfl
theorem oneRow:((List.range 330).filter fun t=>Tryz.prog.rowNamed t [101,114,114,111,114])=[48]:=by kernel_rfl
theorem handle_of_laid{W:World}(h:handlesMet Tryz.prog [("errors.errorType",Rows.laid_errors_errorType)] W):W.cell? ⟨0,0,none⟩=some (.iface 242 (.agg #[.pointer (some ⟨9,48,none⟩)])):=by
 obtain⟨name,u,ty,e1,e2,e3,e4,e5⟩:=h _ (List.mem_singleton.2 rfl)
 have en:name=[101,114,114,111,114]:=(Option.some.inj e1).symm
 subst en
 obtain rfl:=Option.some.inj (rt_type.symm.trans e2)
 have hm:ty∈(List.range 330).filter fun t=>Tryz.prog.rowNamed t [101,114,114,111,114]:=List.mem_filter.2 ⟨List.mem_range.2 (by rw[←types_size];exact e3),e4⟩
 rw[oneRow]at hm
 obtain rfl:=List.mem_singleton.1 hm
 have hh:typeHandle Tryz.prog 48=.pointer (some ⟨9,48,none⟩):=by kernel_rfl
 rw[hh]at e5
 simpa using World.var?_cell et_global e5 0
theorem lane_of{W:World}(hL:laidMetH Tryz.prog laidL W)(hS:W.ShapedOpen Tryz.prog):LanE W:=by
 have h':laidMet Tryz.prog (("math/bits.deBruijn32tab",Rows.laid_math_bits_deBruijn32tab)::("math/bits.deBruijn64tab",Rows.laid_math_bits_deBruijn64tab)::("internal/strconv.uint64pow10",Rows.laid_internal_strconv_uint64pow10)::("unicode/utf8.acceptRanges",Rows.laid_unicode_utf8_acceptRanges)::("strconv.ErrRange",Rows.laid_strconv_ErrRange)::("strconv.ErrSyntax",Rows.laid_strconv_ErrSyntax)::("unicode/utf8.first",Rows.laid_unicode_utf8_first)::[]) W∧handlesMet Tryz.prog [("errors.errorType",Rows.laid_errors_errorType)] W:=hL
 obtain⟨t0,th⟩:=h'
 have t1:=laidMet.tail t0
 have t2:=laidMet.tail t1
 have t3:=laidMet.tail t2
 have t4:=laidMet.tail t3
 have t5:=laidMet.tail t4
 have h8:Lib.TabIs Tryz.prog W "math/bits.deBruijn64tab" .u8 tab64:=
  Lib.tabIs_of_head (show Tryz.prog.globalNamed "math/bits.deBruijn64tab"=some 8 by kernel_rfl) (show(Tryz.prog.globals[8]?).map (·.type)=some 304 by kernel_rfl) Tryz.underlying304 Tryz.underlying5 (by kernel_rfl) (by kernel_rfl) t1
 have h2:Lib.TabIs Tryz.prog W "internal/strconv.uint64pow10" .u64 Lib.pow10Tab:=
  Lib.tabIs_of_head (show Tryz.prog.globalNamed "internal/strconv.uint64pow10"=some 2 by kernel_rfl) (show(Tryz.prog.globals[2]?).map (·.type)=some 285 by kernel_rfl) Tryz.underlying285 Tryz.underlying89 (by kernel_rfl) (by kernel_rfl) t2
 obtain⟨te2,pe2,h4⟩:=iface_head t4 (show Tryz.prog.globalNamed "strconv.ErrRange"=some 4 by kernel_rfl) (show(Tryz.prog.globals[4]?).map (·.type)=some 48 by kernel_rfl) Tryz.underlying48
 obtain⟨te1,pe1,h3⟩:=iface_head t5 (show Tryz.prog.globalNamed "strconv.ErrSyntax"=some 3 by kernel_rfl) (show(Tryz.prog.globals[3]?).map (·.type)=some 48 by kernel_rfl) Tryz.underlying48
 have h1:=cell_of_shapedOpen_int (P:=Tryz.prog) (g:=1) (t:=3) (zero:=#[.int .i64 0]) hS g1_size (by kernel_rfl) rfl (by kernel_rfl) (by kernel_rfl) Tryz.underlying3
 have hlow:9≤W.heap.size:=by
  obtain⟨⟨z,t⟩,hz⟩:=Option.isSome_iff_exists.1 zero8
  obtain⟨cs,hh,_⟩:=hS.1 8 z t g8_size hz
  have:8 < W.heap.size:=by
   rcases Nat.lt_or_ge 8 W.heap.size with h|h
   ·exact h
   ·rw[Array.getElem?_eq_none h]at hh;cases hh
  omega
 exact⟨⟨h1,⟨_,h3,.inr ⟨_,_,rfl⟩⟩,⟨_,h4,.inr ⟨_,_,rfl⟩⟩,h2,h8.cell (by kernel_rfl) 15 (by decide),hlow⟩,handle_of_laid th⟩
noncomputable def laidStart(os:Os):World:=
 let w0:=World.holding Tryz.prog os ⟨#[],#[],[]⟩
 { w0 with heap:=w0.heap.modify 0 fun
   |.cells _ t frozen=>.cells #[.iface 242 (.agg #[.pointer (some ⟨9,48,none⟩)])] t frozen
   |o=>o }
def laidP:List (String×DataW Unit):=laidL.filter fun x=>x.2.handleName?.isNone
noncomputable def laidWorld(os:Os):World:=(laidStart os).layVars Tryz.prog laidP
theorem laidP_met(os:Os):laidMet Tryz.prog laidP (laidWorld os):=by
 have e1:(laidP.filter fun x=>(laidP.map (·.1)).contains x.1)=laidP:=List.filter_eq_self.2 fun x hx=>List.contains_iff_mem.2 (List.mem_map.2 ⟨x,hx,rfl⟩)
 have e2:(laidP.filter fun x=>!(laidP.map (·.1)).contains x.1)=[]:=List.filter_eq_nil_iff.2 fun x hx=>by rw[List.contains_iff_mem.2 (List.mem_map.2 ⟨x,hx,rfl⟩)];simp
 exact laidMet_layVars (w0:=laidStart os) (laidP.map (·.1)) [] (by rw[e1];rfl) (by rw[e1];kernel_rfl) (by rw[e1];kernel_rfl) (by rw[e2];exact LaidIn.none)
theorem laid_met(os:Os)(args:Array Value):laidMetH Tryz.prog laidL ((laidWorld os).forCall (fun _ _=>0) ⟨#[],args,[]⟩).memory:=
 laidMetH_of_parts ((laidP_met os).of_heap (by simp[World.memory,World.forCall,Input.heap])) (by kernel_rfl)
end Go.Proofs.YtnncigmpcdehnaaGreatDoor
