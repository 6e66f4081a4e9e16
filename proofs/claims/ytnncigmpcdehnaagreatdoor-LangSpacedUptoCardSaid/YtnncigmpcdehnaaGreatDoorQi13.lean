import Derived.Test.YtnncigmpcdehnaaGreatDoorQi12
import Derived.OpenShut
import Derived.ChangeMaps5
import Derived.Deep.Slices
import Derived.Shelf.Vars
import Derived.Stop.LaidErr
import Derived.Lib.LaidTab
import Derived.LaidMore
import Derived.Lay
import Derived.LaidByTextLater
import Derived.LaidHandle
open List renaming length_append→VE,length_cons→VF,getElem?_eq_getElem→VG,mem_singleton→VH,mem_cons→VI,not_mem_nil→VJ,length_nil→VL,length_take→VP,getElem?_eq_some_iff→VS,flatMap_cons→VT,mem_map→VV,length_map→VW,range→VX,mem_append→Wd,getD_eq_getElem?_getD→Wg,getElem?_append_left→Wh,length_singleton→Wi,contains_iff_mem→Wj,mem_of_mem_take→Wk,mem_of_getElem?→Wl,take_add_one→Wn,take_length→Wo,length_ofFn→Wp,mem_range→Wr,ofFn→Wv
open Go.Value renaming bool→VK,int→VM
open Nat renaming le_refl→VN,zero_le→VU,mul_le_mul_right→VY,le_trans→Wc,add_mul→We,mul_one→Wm,mul_comm→Ws,add_zero→Wt,le_succ→Wu
open And renaming intro→VO
open Bool renaming and_eq_true→VQ,or_eq_true→Wq
open Go.IntKind renaming i64→VR
open Eq renaming mp→VZ
open Int renaming toNat_natCast→Wa
open Option renaming some→Wb
namespace Go.Proofs.YtnncigmpcdehnaaGreatDoor
set_option maxRecDepth 100000
open Go Go.RowKit Go.Lib Go.Sort _root_.Go.Proofs.Tryz
set_option maxRecDepth 100000
def uH:Bs:=[112,111,114,116,32,51,10,112,111,114,116,32,52,10,114,111,117,116,101,32,49,48,46,48,46,48,46,48,47,56,32,51,10,109,101,116,101,114,32,109,32,53,32,50,32,57,10,109,105,114,114,111,114,32,99,32,52,32,49,54,10,114,117,108,101,32,97,32,112,114,111,116,111,32,116,99,112,32,100,112,111,114,116,32,56,48,45,57,48,32,45,62,32,111,117,116,32,52,32,109,101,116,101,114,32,109,32,109,105,114,114,111,114,32,99,10,114,117,108,101,32,98,32,97,110,121,32,45,62,32,100,114,111,112,10,100,101,102,97,117,108,116,32,114,111,117,116,101,10]
def Ls:Bs:=[112,111,114,116,32,49,10,109,101,116,101,114,32,49,120,32,49,32,49,32,49,10]
theorem Tq(u:Nat)(h:u < 10):ao 10 u=[sig u]:=aX h
theorem TV(u:Nat)(h:¬u < 10)(h2:u / 10 < 10):ao 10 u=[sig (u / 10),sig (u%10)]:=by rw[dB (by omega) h,aX h2]; rfl
theorem UC(u:Nat)(h:u < 10):cx (u:Int)=[sig u]:=by rw[kq,aX h]
theorem GU:tb yn=[49,48,46,48,46,48,46,48,47,56]:=by
 have hk:gv yn.v yn.n yn.k=true:=by decide
 unfold tb tm;rw[if_pos hk];show gk (10*2^120)++47::ao 10 8=_;unfold gk;rw[show an (10*2^120) 0=10 by decide,show an (10*2^120) 1=0 by decide,show an (10*2^120) 2=0 by decide,show an (10*2^120) 3=0 by decide,TV 10 (by omega) (by omega),Tq 0 (by omega),Tq 8 (by omega)];rfl
theorem OE:bp yo=true:=by decide
theorem GV:Gb yo=[112,114,111,116,111,32,116,99,112,32,100,112,111,114,116,32,56,48,45,57,48]:=by
 unfold Gb;rw[OE];show iP yo=_;unfold iP;rw[if_neg (by decide)];have e:fA yo=[fD,dw 6,iT,ef (80,90)]:=rfl;rw[e];have e1:dw 6=lC:=rfl;have e2:ef (80,90)=[56,48,45,57,48]:=by unfold ef;rw[if_neg (by decide)];show ao 10 80++45::ao 10 90=_;rw[TV 80 (by omega) (by omega),TV 90 (by omega) (by omega)];rfl
 rw[e1,e2];rfl
theorem nA:ey cN=uH:=by
 have i1:cx 3=[51]:=UC 3 (by omega);have i2:cx 4=[52]:=UC 4 (by omega);have i3:cx 16=[49,54]:=by have h:cx 16=ao 10 16:=kq 16;rw[h,TV 16 (by omega) (by omega)];rfl
 have l0:dX 3=[kp,[51]]:=by unfold dX;rw[i1]
 have l1:dX 4=[kp,[52]]:=by unfold dX;rw[i2]
 have l2:eB ⟨yn,3⟩=[di,[49,48,46,48,46,48,46,48,47,56],[51]]:=by show [di,tb yn,cx 3]=_;rw[GU,i1]
 have l3:eF ⟨[109],5,2,9⟩=[bK,[109],[53],[50],[57]]:=by show [bK,[109],ao 10 5,ao 10 2,ao 10 9]=_;rw[Tq 5 (by omega),Tq 2 (by omega),Tq 9 (by omega)];rfl
 have l4:dA ⟨[99],4,16⟩=[ba,[99],[52],[49,54]]:=by show [ba,[99],cx 4,cx 16]=_;rw[i2,i3]
 have l5:dv ⟨[97],yo,3,4,[109],[99]⟩=[fY,[97],[112,114,111,116,111,32,116,99,112,32,100,112,111,114,116,32,56,48,45,57,48],wB,oy,[52],bK,[109],ba,[99]]:=by unfold dv;rw[GV,show aS 3 4=[oy,[52]] by unfold aS;rw[if_neg (by decide),if_neg (by decide),if_pos rfl,i2]];rfl
 have l6:dv ⟨[98],lG,2,0,[],[]⟩=[fY,[98],kZ,wB,lA]:=rfl;have l7:gW 1=[bj,di]:=rfl;have e:ju cN=[dX 3,dX 4,eB ⟨yn,3⟩,eF ⟨[109],5,2,9⟩,dA ⟨[99],4,16⟩,dv ⟨[97],yo,3,4,[109],[99]⟩,dv ⟨[98],lG,2,0,[],[]⟩,gW 1]:=rfl;unfold ey;rw[e,l0,l1,l2,l3,l4,l5,l6,l7];rfl
theorem AQ:rA cN=0:=by decide
theorem OG:RV cN:=by
 refine⟨fun n hn=>?_,fun r hr=>?_,fun m hm=>?_,fun m hm=>?_,fun r hr=>?_⟩
 ·simp[cN]at hn;omega
 ·simp[cN]at hr;subst hr;decide
 ·simp[cN]at hm;subst hm;decide
 ·simp[cN]at hm;subst hm;decide
 ·simp[cN]at hr
  rcases hr with rfl|rfl
  ·exact⟨⟨by decide,by decide,by decide,by decide,by decide,by decide,by decide,by decide,by decide⟩,by decide⟩
  ·exact⟨⟨by decide,by decide,by decide,by decide,by decide,by decide,by decide,by decide,by decide⟩,by decide⟩
theorem OF:mV cN:=(Bc OG).1 AQ
theorem Da:gU cN=(uH,0):=by
 have h:vz cN=0:=by unfold vz;rw[nA,AQ];decide
 unfold gU;rw[if_pos h,nA]
theorem OC(hU:LN):cX uH=.ok cN:=by unfold cX;rw[if_neg (by decide),←nA];exact Rz hU OF
theorem OW:cX Ls=.no 201 2:=by
 unfold cX;rw[if_neg (by decide)];have e:aw Ls=[[112,111,114,116,32,49],[109,101,116,101,114,32,49,120,32,49,32,49,32,49],[]]:=rfl;rw[e];have w1:aj true [112,111,114,116,32,49]=dX 1:=by have i1:cx 1=[49]:=UC 1 (by omega);show _=[kp,cx 1];rw[i1];rfl
 rw[kS (by rw[w1];exact vU (by decide) (by decide) wZ 0)];rw[bJ];rfl
theorem QL:lG.Wf:=tP.1
theorem OD:yo.Wf:=⟨by decide,by decide,by decide,by decide,by decide,by decide,by decide,by decide,by decide⟩
theorem yp:iq cN:=by
 refine⟨fun n hn=>?_,fun r hr=>?_,fun r hr=>?_,fun m hm=>?_,fun m hm=>?_,by unfold nM;decide⟩
 ·simp[cN]at hn;unfold nM;omega
 ·simp[cN]at hr;subst hr;exact⟨by decide,by unfold nM;decide,by unfold nM;decide⟩
 ·simp[cN]at hr
  rcases hr with rfl|rfl
  ·exact⟨by decide,OD,by unfold nM;decide,by unfold nM;decide,by decide,by decide⟩
  ·exact⟨by decide,QL,by unfold nM;decide,by unfold nM;decide,by decide,by decide⟩
 ·simp[cN]at hm;subst hm;exact⟨by decide,by decide,by decide,by decide⟩
 ·simp[cN]at hm;subst hm;exact⟨by decide,by unfold nM;decide,by unfold nM;decide⟩
theorem AP:jA cN:=⟨by decide,by decide,by decide,by decide,by decide⟩
theorem Fg{β:Sx.Env}{m:Nat}{cf:CF}{s:fN}:(Sx.SV.dG (vl m cf)).den (aH β m cf s)=.agg (aI cf s).toArray:=by show Value.agg ([(aH β m cf s).sl m,(aH β m cf s).sl (m+1),(aH β m cf s).sl (m+2),(aH β m cf s).sl (m+3),(aH β m cf s).sl (m+4),.int .i64 cf.aR]:List Value).toArray=_;simp[Sx.Env.sl,aH,aI]
def ry(_m:Nat)(cf:CF)(ret:Sx.SV):Sx.cn:=⟨[],[],[],cF cf,ret,none⟩
theorem pP{b:Sx.aY}{row:Nat→Option Sx.Row}{m:Nat}(W:World)(β:Sx.Env)(_:Sx.dS b β W row []):Calls prog 67 (([]:List Sx.SV).map (Sx.SV.den β)).toArray W (Sx.br b β W row m (ry m cN (.dG (vl m cN)))):=by
 refine(GS W).mono fun en w' hp=>?_;rcases hp with⟨β',l,mem,⟨k0,k1,k2,k3,k4,rfl,q0,q1,q2,q3,q4⟩,he,hR⟩ | ⟨_,_,hf,_⟩
 ·obtain⟨ho,hn,n0,n1,n2,n3,n4⟩:=Bd hR ⟨q0,q1,q2,q3,q4⟩ rfl
  refine .inl ⟨fun p hp=>(by cases hp),aH β m cN (kJ β' k0 k1 k2 k3 k4),wY ho hn ?_ hR.aD⟩;rw[Fg,he];show Ending.returned (.agg ([β'.sl k0,β'.sl k1,β'.sl k2,β'.sl k3,β'.sl k4,.int .i64 cN.aR]:List Value).toArray)=_;unfold Sx.Env.sl;rw[n0,n1,n2,n3,n4];rfl
 ·exact hf.elim
theorem py{b:Sx.aY}{row:Nat→Option Sx.Row}{m:Nat}{s:Bs}{cf:CF}(hlan:ku b.w)(h9:∀k∈b.S,9≤k)(hs:cX s=.ok cf)(W:World)(β:Sx.Env)(hS:Sx.dS b β W row []):Calls prog 22 (([.val (ab s)]:List Sx.SV).map (Sx.SV.den β)).toArray W (Sx.br b β W row m (ry m cf (.kG [.row (vl m cf),.a (.v .nilIface)]))):=by
 refine(ED W (hlan.aD hS.aD h9) s).mono fun en w' hp=>?_;rw[hs]at hp;rcases hp with⟨β',l,mem,⟨k0,k1,k2,k3,k4,rfl,q0,q1,q2,q3,q4⟩,he,hR⟩ | ⟨_,_,hf,_⟩
 ·obtain⟨ho,hn,n0,n1,n2,n3,n4⟩:=Bd hR ⟨q0,q1,q2,q3,q4⟩ rfl
  refine .inl ⟨fun p hp=>(by cases hp),aH β m cf (kJ β' k0 k1 k2 k3 k4),wY ho hn ?_ hR.aD⟩;have hd:=Fg (β:=β) (m:=m) (cf:=cf) (s:=kJ β' k0 k1 k2 k3 k4);rw[he];show Ending.returned (.tuple #[.agg ([β'.sl k0,β'.sl k1,β'.sl k2,β'.sl k3,β'.sl k4,.int .i64 cf.aR]:List Value).toArray,.nilIface])=.returned (.tuple #[(Sx.SV.dG (vl m cf)).den (aH β m cf (kJ β' k0 k1 k2 k3 k4)),.nilIface]);rw[hd];unfold Sx.Env.sl;rw[n0,n1,n2,n3,n4];rfl
 ·exact hf.elim
def Dt(m:Nat)(code line:Nat):Sx.cn:=⟨[],[],[],[⟨105,.ai (oQ code line)⟩],.kG [.row (eD.map .v),.jK 103 m 0],none⟩
theorem Ey{β:Sx.Env}{W w':World}{row:Nat→Option Sx.Row}{m k:Nat}{X:List Nat}{T:TypeId}{cs:List Value}{ret:Sx.SV}{e:Ending}(hb:aq w' k T cs)(hn:W.heap.size≤k)(hret:e=.returned (ret.den (β.fI m k)))(hc:ah [] W w'):Sx.DH β W row m ⟨X,[],[],[⟨T,.ai cs⟩],ret,none⟩ e w' (β.fI m k):=by
 refine⟨fun i hi=>⟨?_,rfl,rfl,rfl⟩,hret,fun q hq=>(by cases hq),fun i r hr=>?_,fun i r x hr hx=>?_,fun i i' r r' x hr hr' _ _=>?_,hc⟩
 ·show β i=if i=m then k else β i
  rw[if_neg (by omega)]
 ·match i,hr with
  | 0,hr=>cases hr;show aq w' (if m+0=m then k else β (m+0)) T cs;rw[Wt,if_pos rfl];exact hb
 ·match i,hr with
  | 0,hr=>cases hr;have hx:some (if m+0=m then k else β (m+0))=some x:=hx;rw[Wt,if_pos rfl]at hx;cases hx;exact .inr hn
 ·match i,i',hr,hr' with
  | 0,0,_,_=>rfl
theorem Gq(β:Sx.Env):(eD.map Sx.Atom.v).map (Sx.Atom.den β)=eD:=by rw[List.map_map];exact List.map_id _
theorem km{b:Sx.aY}{row:Nat→Option Sx.Row}{m:Nat}{s:Bs}{code line:Nat}(hlan:ku b.w)(h9:∀k∈b.S,9≤k)(hs:cX s=.no code line)(W:World)(β:Sx.Env)(hS:Sx.dS b β W row []):Calls prog 22 (([.val (ab s)]:List Sx.SV).map (Sx.SV.den β)).toArray W (Sx.br b β W row m (Dt m code line)):=by
 refine(ED W (hlan.aD hS.aD h9) s).mono fun en w' hp=>?_;rw[hs]at hp;rcases hp with⟨β',l,mem,⟨j,rfl,hj⟩,he,hR⟩ | ⟨_,_,hf,_⟩
 ·have r:=hR.held j _ hj
  have hn:=hR.new j _ (β' j) hj rfl;refine .inl ⟨fun p hp=>(by cases hp),β.fI m (β' j),Ey r ?_ ?_ hR.aD⟩
  ·rcases hn with h|h
   ·cases h
   ·exact h
  ·rw[he]
   show Ending.returned (.tuple #[.agg eD.toArray,.iface 103 ((pt (β' j) 0))])=.returned (.tuple #[.agg ((eD.map Sx.Atom.v).map (Sx.Atom.den _)).toArray,.iface 103 ((pt (if m=m then β' j else β m) 0))]);rw[Gq,if_pos rfl]
 ·exact hf.elim
def fm(m:Nat):List Nat:=[m,m+1,m+2,m+3,m+4]
theorem Cp{b:Sx.aY}{mem:List Sx.Row}{i m:Nat}{cf:CF}(hlan:dD b.w)(h9:∀k∈b.S,9≤k)(h:LX mem i (i+1) (i+2) (i+3) (i+4) cf)(hw:iq cf)(hf:jA cf)(hB:(ey cf).length≤140737488355328)(W:World)(β:Sx.Env)(hS:Sx.dS b β W (Sx.rowAt mem) (fm i)) :
  Calls prog 28 (([.dG (vl i cf)]:List Sx.SV).map (Sx.SV.den β)).toArray W (Sx.br b β W (Sx.rowAt mem) m ⟨fm i,[],[],[],.val (.tuple #[ab (gU cf).1,.int .i64 (gU cf).2]),none⟩):=by
 obtain⟨hr,hd⟩:=uN hS h (fun k hk=>hk);show Calls prog 28 #[(Sx.SV.dG (vl i cf)).den β] W _;rw[hd];exact(Nr (hlan.aD hS.aD h9) cf _ hr hw hf hB).mono fun en w' ⟨he,hc⟩=>.inl ⟨fun p hp=>(by cases hp),β,Sx.dx (v:=.tuple #[ab (gU cf).1,.int .i64 (gU cf).2]) rfl rfl he (fun q hq=>by cases hq) hc⟩
theorem vM{b:Sx.aY}{mem:List Sx.Row}{i j m:Nat}{c d:CF}(hi:LX mem i (i+1) (i+2) (i+3) (i+4) c)(hj:LX mem j (j+1) (j+2) (j+3) (j+4) d)(wc:iq c)(wd:iq d)(fc:jA c)(W:World)(β:Sx.Env)(hS:Sx.dS b β W (Sx.rowAt mem) (fm i++fm j)) :
  Calls prog 25 (([.dG (vl i c),.dG (vl j d)]:List Sx.SV).map (Sx.SV.den β)).toArray W (Sx.br b β W (Sx.rowAt mem) m ⟨fm i++fm j,[],[],[],.val (.bool (eh c d)),none⟩):=by
 obtain⟨hr,hd⟩:=uN hS hi (fun k hk=>List.mem_append_left _ hk);obtain⟨hr2,hd2⟩:=uN hS hj (fun k hk=>List.mem_append_right _ hk);show Calls prog 25 #[(Sx.SV.dG (vl i c)).den β,(Sx.SV.dG (vl j d)).den β] W _;rw[hd,hd2];exact(IP c d _ _ hr hr2 wc wd fc).mono fun en w' ⟨he,hc⟩=>.inl ⟨fun p hp=>(by cases hp),β,Sx.dx (v:=.bool (eh c d)) rfl rfl he (fun q hq=>by cases hq) hc⟩
def Vh(code line:Nat)(l:List Sx.SV)(mem:List Sx.Row):Prop:=∃k,l=[.jK 103 k 0]∧mem[k]?=some ⟨105,.ai (oQ code line)⟩
theorem OY(w:World)(hlan:ku w):Calls prog 68 #[] w (Sx.cI ⟨w,[],fun _ _=>False⟩ (Vh 201 2)):=by have c4:=fun W β (hS:Sx.dS ⟨w,[],fun _ _=>False⟩ β W (Sx.rowAt []) [])=>km (m:=0) hlan (fun k hk=>by cases hk) OW W β hS;have z0:Vh 201 2 [.jK 103 0 0] [⟨105,.ai (oQ 201 2)⟩,⟨46,.cU (eD.map .val)⟩]:=⟨0,rfl,rfl⟩;refine Sx.bO (args:=[]) (gE w) [(4,.au (Dt 0 201 2))] [] (by kernel_rfl) func68 rfl (dR rfl) rfl ?_;exact VZ (by kernel_rfl) (VO c4 z0)
theorem Ds{b:Sx.aY}{row:Nat→Option Sx.Row}{m:Nat}(hlan:ku b.w)(h9:∀k∈b.S,9≤k)(W:World)(β:Sx.Env)(hS:Sx.dS b β W row []):Calls prog 68 (([]:List Sx.SV).map (Sx.SV.den β)).toArray W (Sx.br b β W row m ⟨[],[],[],[⟨105,.ai (oQ 201 2)⟩],.jK 103 m 0,none⟩):=by
 refine(OY W (hlan.aD hS.aD h9)).mono fun en w' hp=>?_;rcases hp with⟨β',l,mem,⟨j,rfl,hj⟩,he,hR⟩ | ⟨_,_,hf,_⟩
 ·have r:=hR.held j _ hj
  have hn:=hR.new j _ (β' j) hj rfl;refine .inl ⟨fun p hp=>(by cases hp),β.fI m (β' j),Ey r ?_ ?_ hR.aD⟩
  ·rcases hn with h|h
   ·cases h
   ·exact h
  ·rw[he]
   show Ending.returned (.iface 103 ((pt (β' j) 0)))=.returned (.iface 103 ((pt (if m=m then β' j else β m) 0)));rw[if_pos rfl]
 ·exact hf.elim
theorem OZ(w:World)(hlan:ku w):Calls prog 26 #[] w (Rn w (.bool true)):=by
 have no9:∀k∈([]:List Nat),9≤k:=fun k hk=>by cases hk
 have c8:=fun W β (hS:Sx.dS ⟨w,[],fun _ _=>False⟩ β W (Sx.rowAt []) [])=>pP (m:=0) W β hS;have c9:=fun W β (hS:Sx.dS ⟨w,[],fun _ _=>False⟩ β W (Sx.rowAt (cF cN)) (fm 0))=>(show Calls prog 28 (([.dG (vl 0 cN)]:List Sx.SV).map (Sx.SV.den β)).toArray W (Sx.br ⟨w,[],fun _ _=>False⟩ β W (Sx.rowAt (cF cN)) 5 ⟨fm 0,[],[],[],.val (.tuple #[ab uH,.int .i64 0]),none⟩)from by have:=Cp (m:=5) hlan.vk no9 (i:=0) ⟨rfl,rfl,rfl,rfl,rfl⟩ yp AP (by rw[nA];decide) W β hS;rw[Da]at this;exact this);have c13:=fun W β (hS:Sx.dS ⟨w,[],fun _ _=>False⟩ β W (Sx.rowAt (cF cN)) [])=>py (m:=5) hlan no9 (OC (Qq hlan.vk)) W β hS;obtain⟨R10,hR10⟩:∃R10:List Sx.Row,R10=cF cN++(cF cN++[⟨46,.cU [.own 5,.own 6,.own 7,.own 8,.own 9,.val (.int .i64 1)]⟩]):=⟨_,rfl⟩;have c17:=fun W β (hS:Sx.dS ⟨w,[],fun _ _=>False⟩ β W (Sx.rowAt R10) [])=>Ds (m:=11) hlan no9 W β hS;have c18:=fun W β (hS:Sx.dS ⟨w,[],fun _ _=>False⟩ β W (Sx.rowAt (R10++[⟨105,.ai (oQ 201 2)⟩])) [11])=>qh (m:=12) (j:=11) (code:=201) (place:=2) hlan no9 (by rw[hR10];rfl) W β hS;have c33:=fun W β (hS:Sx.dS ⟨w,[],fun _ _=>False⟩ β W (Sx.rowAt (R10++[⟨105,.ai (oQ 201 2)⟩])) [])=>pP (m:=12) W β hS;have c34:=fun W β (hS:Sx.dS ⟨w,[],fun _ _=>False⟩ β W (Sx.rowAt (R10++(⟨105,.ai (oQ 201 2)⟩::cF cN))) (fm 5++fm 12))=>(show Calls prog 25 (([.dG (vl 5 cN),.dG (vl 12 cN)]:List Sx.SV).map (Sx.SV.den β)).toArray W (Sx.br ⟨w,[],fun _ _=>False⟩ β W (Sx.rowAt (R10++(⟨105,.ai (oQ 201 2)⟩::cF cN))) 17 ⟨fm 5++fm 12,[],[],[],.val (.bool true),none⟩)from by have:=vM (m:=17) (i:=5) (j:=12) (c:=cN) (d:=cN) (mem:=R10++(⟨105,.ai (oQ 201 2)⟩::cF cN)) (by rw[hR10];exact⟨rfl,rfl,rfl,rfl,rfl⟩) (by rw[hR10];exact⟨rfl,rfl,rfl,rfl,rfl⟩) yp yp AP W β hS;rw[show eh cN cN=true from(bU _ _).2 rfl]at this;exact this);subst hR10;have z0:VK true=.bool true:=rfl;have z1:VK true=.bool true:=rfl;refine Sx.bX (args:=[]) [(8,.au (ry 0 cN (.dG (vl 0 cN)))),(9,.au ⟨fm 0,[],[],[],.val (.tuple #[ab uH,.int .i64 0]),none⟩),(13,.au (ry 5 cN (.kG [.row (vl 5 cN),.a (.v .nilIface)]))),(17,.au ⟨[],[],[],[⟨105,.ai (oQ 201 2)⟩],.jK 103 11 0,none⟩),(18,.au (DR 11 201 2)),(33,.au (ry 12 cN (.dG (vl 12 cN)))),(34,.au ⟨fm 5++fm 12,[],[],[],.val (.bool true),none⟩),(600004,.ix)] [] (by kernel_rfl) func26 rfl (dR rfl) ?_;exact VZ (by kernel_rfl) (Sx.t8 c8 c9 c13 c17 c18 (Sx.t2 c33 c34 z0) c33 c34 z1)
open Go.RowKit Go.Lib Go.Sort
def Ps{α:Type}(o:Out α):Prop:=∀c p,o=.no c p→0 < c
theorem Ps.ok{α:Type}{a:α}{i:Nat}:Ps (.ok a i):=fun _ _ h=>nomatch h
theorem Ps.no{α:Type}{c p:Nat}(h:0 < c):Ps (.no c p:Out α):=fun _ _ e=>by injection e with e _;omega
theorem Ps.bind{α β:Type}{r:Out α}{f:α→Nat→Out β}(h:Ps r)(hf:∀a i,Ps (f a i)):Ps (r.bind f):=by
 cases r with
 |ok a i=>exact hf a i
 |no c p=>exact fun c' p' e=>h c p rfl |> fun hc=>by cases e;exact hc
theorem Ps.next{ws:List Bs}{i:Nat}:Ps (aP ws i):=by unfold aP;split;exact .ok;exact .no (by decide)
theorem Ps.IB{ws:List Bs}{i:Nat}{s:Bs}:Ps (dd ws i s):=by unfold dd;split<;>exact .ok
theorem Ps.want{α:Type}{b:Bool}{c:Nat}{a:α}{i:Nat}(h:0 < c):Ps (aK b c a i):=by cases b;exact .no h;exact .ok
theorem Ps.number{m:Nat}{ws:List Bs}{i:Nat}:Ps (bc m ws i):=.bind .next fun _ _=>.want (by decide)
theorem Ps.int{ws:List Bs}{i:Nat}:Ps (gz ws i):=.number
theorem Ps.name{ws:List Bs}{i:Nat}:Ps (fh ws i):=.bind .next fun _ _=>.want (by decide)
theorem Ps.pre{ws:List Bs}{i:Nat}:Ps (cZ ws i):=.bind .next fun _ _=>.want (by decide)
theorem Ps.span{ws:List Bs}{i:Nat}:Ps (gZ ws i):=.bind .next fun _ _=>.want (by decide)
theorem Ps.bE{ws:List Bs}{i:Nat}:Ps (dL ws i):=.bind .IB fun a j=>by
 cases a
 ·refine .bind .IB fun b k=>?_
  cases b
  ·exact .number
  ·exact .ok
 ·exact .ok
theorem Ps.Vo{k:Nat}{m:Mt}{ws:List Bs}{i:Nat}:Ps (bZ k m ws i):=by
 unfold bZ;split<;>refine .bind ?_ fun _ _=>.ok
 ·exact .span
 ·exact .pre
 ·exact .pre
 ·exact .bE
 ·exact .span
 ·exact .span
theorem Ps.field{ws:List Bs}{i:Nat}{m:Mt}:Ps (aZ ws i m):=by
 unfold aZ;split
 ·exact .ok
 ·split
  ·exact .ok
  ·split
   ·exact .no (by decide)
   ·exact .bind .Vo fun _ _=>.ok
theorem Ps.dY(ws:List Bs):∀(f i:Nat) (m:Mt),Ps (dY ws f i m)
 | 0,i,m=>.ok
 |f+1,i,m=>.bind .field fun r j=>by
  cases r.1
  ·exact .ok
  ·exact Ps.dY ws f j r.2
theorem Ps.fk{ws:List Bs}{i:Nat}:Ps (fk ws i):=.bind .IB fun a j=>by
 cases a
 ·refine .bind .field fun r k=>?_
  cases r.1
  ·exact .bind .next fun _ _=>.no (by decide)
  ·exact .dY _ _ _ _
 ·exact .ok
theorem Ps.act{out:Bool}{ws:List Bs}{i:Nat}:Ps (nL out ws i):=.bind .next fun x j=>by
 split
 ·exact .ok
 split
 ·exact .ok
 split
 ·exact .ok
 split
 ·exact .bind .int fun _ _=>.ok
 ·exact .no (by decide)
theorem Ps.opt{s:Bs}{ws:List Bs}{i:Nat}:Ps (nH s ws i):=.bind .IB fun b j=>by
 cases b
 ·exact .ok
 ·exact .name
theorem Ps.Vq{m:Mt}{ws:List Bs}{i:Nat}:Ps (JQ m ws i):=.bind .next fun _ _=>.bind (.want (by decide)) fun _ _=>.want (by decide)
theorem Ps.Uh{ws:List Bs}{i:Nat}:Ps (lU ws i):=.bind .name fun _ _=>.bind .fk fun _ _=>.bind .Vq fun _ _=>.bind .act fun _ _=>.bind .opt fun _ _=>.bind .opt fun _ _=>.ok
theorem Ps.Vw{α:Type}{ws:List Bs}{a:α}{i:Nat}:Ps (pS ws a i):=by unfold pS;split;exact .no (by decide);exact .ok
theorem Ps.body{x:Bs}{ws:List Bs}{i:Nat}{cf:CF}{d:Nat}:Ps (eV x ws i cf d):=by
 unfold eV;split
 ·exact .bind .int fun _ _=>.ok
 split
 ·exact .bind .pre fun _ _=>.bind .int fun _ _=>.ok
 split
 ·exact .bind .name fun _ _=>.bind .number fun _ _=>.bind .number fun _ _=>.bind .number fun _ _=>.ok
 split
 ·exact .bind .name fun _ _=>.bind .int fun _ _=>.bind .int fun _ _=>.ok
 split
 ·exact .bind .Uh fun _ _=>.ok
 split
 ·exact .bind (.want (by decide)) fun _ _=>.bind .act fun _ _=>.ok
 ·exact .no (by decide)
theorem Ps.line{ws:List Bs}{cf:CF}{d:Nat}:Ps (cY ws cf d):=by
 unfold cY;split
 ·exact .ok
 ·exact .bind .next fun _ _=>.bind .body fun _ _=>.Vw
theorem vQ:∀(ls:List Bs) (k:Nat) (cf:CF) (d:Nat) (code p:Nat),bJ ls k cf d=.no code p→0 < code
 | [],k,cf,d,code,p,h=>by unfold bJ at h;cases h
 |l::ls,k,cf,d,code,p,h=>by
  unfold bJ at h;cases hl:cY (aj true l) cf d with
  |ok c i=>rw[hl]at h;exact vQ ls _ c _ code p h
  |no c q=>rw[hl]at h;injection h with h1 _;subst h1;exact Ps.line c q hl
def Ff(cf:CF):Nat:=cf.ag.length+cf.ae.length+cf.rules.length+cf.af.length+cf.aa.length
theorem CM{ws:List Bs}{cf cf':CF}{d i:Nat}(h:cY ws cf d=.ok cf' i):Ff cf'≤Ff cf+1:=by
 unfold cY at h;split at h
 ·injection h with h _
  subst h;exact Wu _
 ·obtain⟨x,k,hx,h⟩:=Out.aB h
  obtain⟨c,k2,hb,h⟩:=Out.aB h;have hcc:cf'=c:=by
   unfold pS at h;split at h
   ·cases h
   ·injection h with h _;exact h.symm
  subst hcc;unfold eV at hb;split at hb
  ·obtain⟨n,_,h1,hb⟩:=Out.aB hb
   injection hb with hb _;subst hb;simp only[Ff,VE,VF,VL];omega
  split at hb
  ·obtain⟨p,_,h1,hb⟩:=Out.aB hb
   obtain⟨n,_,h2,hb⟩:=Out.aB hb;injection hb with hb _;subst hb;simp only[Ff,VE,VF,VL];omega
  split at hb
  ·obtain⟨nm,_,h1,hb⟩:=Out.aB hb
   obtain⟨a,_,h2,hb⟩:=Out.aB hb;obtain⟨b,_,h3,hb⟩:=Out.aB hb;obtain⟨c,_,h4,hb⟩:=Out.aB hb;injection hb with hb _;subst hb;simp only[Ff,VE,VF,VL];omega
  split at hb
  ·obtain⟨nm,_,h1,hb⟩:=Out.aB hb
   obtain⟨a,_,h2,hb⟩:=Out.aB hb;obtain⟨b,_,h3,hb⟩:=Out.aB hb;injection hb with hb _;subst hb;simp only[Ff,VE,VF,VL];omega
  split at hb
  ·obtain⟨r,_,h1,hb⟩:=Out.aB hb
   injection hb with hb _;subst hb;simp only[Ff,VE,VF,VL];omega
  split at hb
  ·obtain⟨u,_,_,hb⟩:=Out.aB hb
   obtain⟨a,_,h1,hb⟩:=Out.aB hb;injection hb with hb _;subst hb;exact Wu _
  ·cases hb
theorem qR:∀(ls:List Bs) (k:Nat) (cf:CF) (d:Nat) (cf':CF),bJ ls k cf d=.ok cf'→Ff cf'≤Ff cf+ls.length
 | [],k,cf,d,cf',h=>by unfold bJ at h;injection h with h;subst h;split<;>exact VN _
 |l::ls,k,cf,d,cf',h=>by
  unfold bJ at h;cases hl:cY (aj true l) cf d with
  |ok c i=>rw[hl]at h;have:=qR ls _ c _ cf' h;have:=CM hl;rw[VF];omega
  |no code p=>rw[hl]at h;cases h
theorem tX(s:Bs):(aw s).length≤s.length+1:=by exact dV 10 s
open Go Go.RowKit Go.Lib Go.Sort
namespace Sx
end Sx
theorem lu.pre{w:World}{S:List Nat}{size n c:Nat}{A:Option Go.Addr}{xs ys:List Value}(h:lu w S size (.slice A (n+1) c) (n+1) (xs++ys))(hx:xs.length=n*size):lu w S size (.slice A n c) n xs:=by obtain⟨_,A',c',h2,h3⟩:=h;injection h2 with h2 _ h4;subst h2;subst h4;refine⟨hx,A,c,rfl,fun _=>?_⟩;obtain⟨g,o,ha,hg,hl,hr⟩:=h3 (Nat.succ_pos n);exact⟨g,o,ha,hg,hl,fun j u hu=>hr j u (by rw[Wh (VS.1 hu).1];exact hu)⟩
open Go.RowKit Go.Lib Go.Sort
theorem wU{b:Nat}(hb:2≤b):∀(k u:Nat),u < b^(k+1)→(ao b u).length≤k+1
 | 0,u,h=>by rw[aX (by simpa using h)];exact VN _
 |k+1,u,h=>by
  by_cases hu:u < b
  ·rw[aX hu];show 1≤_;omega
  ·rw[dB hb hu,VE]
   have h2:u / b < b^(k+1):=by rw[Nat.div_lt_iff_lt_mul (by omega),←Nat.pow_succ];exact h
   have:=wU hb k (u / b) h2;show _+1≤_;omega
theorem oF{u:Nat}(h:u≤18446744073709551615):(ao 10 u).length≤20:=wU (by omega) 19 u (by omega)
theorem wG{n:Int}(h:nM n):(cx n).length≤21:=by
 unfold nM at h;unfold cx;split
 ·have:=oF (u:=n.natAbs) (by omega)
  rw[VF];omega
 ·have:=oF (u:=n.toNat) (by omega)
  omega
theorem lf(c:UInt8)(N k:Nat)(xs:List Bs)(hk:xs.length≤k)(h:∀x∈xs,x.length≤N):(aE c xs).length≤k*(N+1):=
 Wc (oz c N xs h) (VY _ hk)
theorem qA{l:List Nat}(hl:l.length≤8)(h:∀x∈l,x < 65536):(cH l).length≤40:=by unfold cH;refine lf 58 4 8 _ (by rw[VW];exact hl) fun x hx=>?_;obtain⟨y,hy,rfl⟩:=VV.1 hx;exact iX (h y hy)
theorem uu(n:Nat):∀x∈bD n,x < 65536:=fun x hx=>by simp only[bD,VI,VJ,or_false]at hx;rcases hx with h|h|h|h|h|h|h|h<;>rw[h]<;>exact Ky _ _
theorem BU(v:Bool)(n:Nat):(iI v n).length≤82:=by
 unfold iI;split
 ·unfold db
  split
  ·have:=qA (l:=bD n) (VN 8) (uu n)
   omega
  ·have h1:=qA (l:=(bD n).take (fG (zs (bD n))).1) (by rw[VP];show min _ 8≤8;omega) fun x hx=>uu n x (Wk hx)
   have h2:=qA (l:=(bD n).drop (fG (zs (bD n))).2) (by rw[List.length_drop]; show 8 - _≤8; omega) fun x hx=>uu n x (List.mem_of_mem_drop hx);simp only[VE,VF];omega
 ·unfold gk
  refine Wc (lf 46 3 4 _ (VN 4) fun x hx=>?_) (by decide);have d:∀i,(ao 10 (an n i)).length≤3:=fun i=>gA (by have:=bH n i;omega);simp only[VI,VJ,or_false]at hx;rcases hx with h|h|h|h<;>rw[h]<;>exact d _
theorem DN(v:Bool):wid v≤128:=by cases v<;>decide
theorem sZ(p:Px):(tb p).length≤100:=by
 unfold tb tm;split
 ·rename_i h
  unfold gv at h;simp only[VQ,decide_eq_true_eq]at h;have:=DN p.v;have h1:=BU p.v p.n;have h2:=gA (u:=p.k.toNat) (by omega);unfold oT;simp only[VE,VF];omega
 ·exact VU _
theorem qW{m:Mt}(h:m.Wf):(fA m).length≤12∧∀x∈fA m,x.length≤100:=by
 have f:∀k,(ma m k).length≤2∧∀x∈ma m k,x.length≤100:=fun k=>by
  unfold ma;split
  ·have hi:=jR m.fE h.fE.1 h.fE.2
   have hs:=jR m.sp h.sp.1 h.sp.2;have hd:=jR m.dp h.dp.1 h.dp.2;have hp:=vR m.bE h.pr;have p1:=sZ m.src;have p2:=sZ m.dst;unfold bA;have two:∀(a b:Bs),a.length≤100→b.length≤100→([a,b]:List Bs).length≤2∧∀x∈[a,b],x.length≤100:=fun a b ha hb=>⟨VN _,fun x hx=>by simp only[VI,VJ,or_false]at hx;rcases hx with h|h<;>rw[h]<;>assumption⟩;split<;>exact two _ _ (by decide) (by omega)
  ·exact⟨by decide,fun x hx=>by cases hx⟩
 refine⟨?_,fun x hx=>?_⟩
 ·have:=(f 0).1;have:=(f 1).1;have:=(f 2).1;have:=(f 3).1;have:=(f 4).1;have:=(f 5).1
  unfold fA;simp only[VE];omega
 ·unfold fA at hx
  simp only[Wd]at hx;rcases hx with((((h|h)|h)|h)|h)|h
  ·exact(f 0).2 x h
  ·exact(f 1).2 x h
  ·exact(f 2).2 x h
  ·exact(f 3).2 x h
  ·exact(f 4).2 x h
  ·exact(f 5).2 x h
theorem Nu{m:Mt}(h:m.Wf):(Gb m).length≤1212:=by
 unfold Gb;split
 ·unfold iP
  split
  ·decide
  ·exact lf 32 100 12 _ (qW h).1 (qW h).2
 ·exact VU _
theorem nt{ws:List Bs}{M:Nat}(hn:ws.length≤12)(h:∀x∈ws,x.length≤1212+M):(fL ws).length≤12*(1213+M)+1:=by have:=lf 32 (1212+M) 12 ws hn h;unfold fL;rw[VE,Wi];omega
theorem tZ{B:Nat}:∀l:List (List Bs),(∀ws∈l,(fL ws).length≤B)→(cL l).length≤l.length*B
 | [],_=>VU _
 |ws::l,h=>by have h1:=h ws (by simp);have h2:=tZ l fun x hx=>h x (List.mem_cons_of_mem _ hx);show(fL ws++cL l).length≤_;rw[VE,VF,We];omega
structure Vj(cf:CF)(M:Nat):Prop where
 m:∀x∈cf.af,x.name.length≤M
 i:∀x∈cf.aa,x.name.length≤M
 r:∀x∈cf.rules,x.name.length≤M∧x.cK.length≤M∧x.bL.length≤M
theorem xo{a o:Int}(h:nM o):(aS a o).length≤2∧∀x∈aS a o,x.length≤21:=by
 have hi:=wG h;unfold aS;split
 ·exact⟨by decide,fun x hx=>by rw[VH.1 hx];decide⟩
 split
 ·exact⟨by decide,fun x hx=>by rw[VH.1 hx];decide⟩
 split
 ·refine⟨VN 2,fun x hx=>?_⟩
  simp only[VI,VJ,or_false]at hx;rcases hx with h|h<;>rw[h]
  ·decide
  ·exact hi
 split
 ·exact⟨by decide,fun x hx=>by rw[VH.1 hx];decide⟩
 ·exact⟨by decide,fun x hx=>by cases hx⟩
theorem vZ{k s:Bs}{M:Nat}(hk:k.length≤21)(h:s.length≤M):(cO k s).length≤2∧∀x∈cO k s,x.length≤21+M:=by
 unfold cO;split
 ·exact⟨by simp,fun x hx=>by cases hx⟩
 ·refine⟨VN 2,fun x hx=>?_⟩
  simp only[VI,VJ,or_false]at hx;rcases hx with h|h<;>rw[h]<;>omega
theorem sH{r:Rl}{M:Nat}(h:r.Wf)(hm:r.name.length≤M∧r.cK.length≤M∧r.bL.length≤M):(dv r).length≤12∧∀x∈dv r,x.length≤1212+M:=by
 obtain⟨a1,a2⟩:=xo (a:=r.act) h.o;obtain⟨b1,b2⟩:=vZ (k:=bK) (by decide) hm.2.1;obtain⟨c1,c2⟩:=vZ (k:=ba) (by decide) hm.2.2;have hp:=Nu h.m;refine⟨?_,fun x hx=>?_⟩
 ·unfold dv
  simp only[VE,VF,VL];omega
 ·unfold dv at hx
  simp only[Wd,VI,VJ,or_false]at hx;rcases hx with(((h|h|h|h)|h)|h)|h
  ·rw[h];show 4≤_;omega
  ·rw[h];omega
  ·rw[h];omega
  ·rw[h];show 2≤_;omega
  ·have:=a2 x h;omega
  ·have:=b2 x h;omega
  ·have:=c2 x h;omega
theorem Dl{cf:CF}{M N:Nat}(hw:iq cf)(hm:Vj cf M)(hn:Ff cf≤N):(ey cf).length≤(N+1)*(12*(1213+M)+1):=by
 have B:∀ws∈ju cf,(fL ws).length≤12*(1213+M)+1:=fun ws hws=>by
  unfold ju at hws;simp only[Wd,VV,VH]at hws;have c2:∀(a b:Bs),a.length≤1212+M→b.length≤1212+M→(fL [a,b]).length≤12*(1213+M)+1:=fun a b h1 h2=>nt (by simp) (by simp[h1,h2]);have c3:∀(a b c:Bs),a.length≤1212+M→b.length≤1212+M→c.length≤1212+M→(fL [a,b,c]).length≤12*(1213+M)+1:=fun a b c h1 h2 h3=>nt (by simp) (by simp[h1,h2,h3]);have c4:∀(a b c d:Bs),a.length≤1212+M→b.length≤1212+M→c.length≤1212+M→d.length≤1212+M→(fL [a,b,c,d]).length≤12*(1213+M)+1:=fun a b c d h1 h2 h3 h4=>nt (by simp) (by simp[h1,h2,h3,h4]);have c5:∀(a b c d e:Bs),a.length≤1212+M→b.length≤1212+M→c.length≤1212+M→d.length≤1212+M→e.length≤1212+M→(fL [a,b,c,d,e]).length≤12*(1213+M)+1:=fun a b c d e h1 h2 h3 h4 h5=>nt (by simp) (by simp[h1,h2,h3,h4,h5]);have k:∀(x:Bs),x.length≤10→x.length≤1212+M:=fun x h=>by omega
  have it:∀{n:Int},nM n→(cx n).length≤1212+M:=fun h=>by have:=wG h;omega
  have dg:∀{n:Nat},n≤18446744073709551615→(ao 10 n).length≤1212+M:=fun h=>by have:=oF h;omega
  rcases hws with((((⟨n,h,rfl⟩ | ⟨n,h,rfl⟩)|⟨n,h,rfl⟩)|⟨n,h,rfl⟩)|⟨n,h,rfl⟩)|rfl
  ·exact c2 _ _ (k _ (by decide)) (it (hw.p n h))
  ·exact c3 _ _ _ (k _ (by decide)) (by have:=sZ n.pf;omega) (it (hw.r n h).o)
  ·have:=hm.m n h
   exact c5 _ _ _ _ _ (k _ (by decide)) (by omega) (dg (hw.m n h).a) (dg (hw.m n h).b) (dg (hw.m n h).c)
  ·have:=hm.i n h
   exact c4 _ _ _ _ (k _ (by decide)) (by omega) (it (hw.i n h).o) (it (hw.i n h).r)
  ·exact nt (sH (hw.l n h) (hm.r n h)).1 (sH (hw.l n h) (hm.r n h)).2
  ·obtain⟨a1,a2⟩:=xo (a:=cf.aR) (o:=0) (by unfold nM;decide)
   refine nt (by unfold gW;rw[VF];omega) fun x hx=>?_;unfold gW at hx;rcases VI.1 hx with h|h
   ·rw[h];exact k _ (by decide)
   ·have:=a2 x h;omega
 have h:=tZ (ju cf) B;refine Wc h (VY _ ?_);unfold ju;simp only[VE,VW,Wi];unfold Ff at hn;omega
theorem gx{s:Bs}(h:aJ s=true):s.length≤16:=by unfold aJ at h;simp only[VQ,decide_eq_true_eq]at h;exact h.1.2
theorem pq{s:Bs}(h:gi s=true):s.length≤16:=by
 unfold gi at h;rw[Wq]at h;rcases h with h|h
 ·rw[of_decide_eq_true h];decide
 ·exact gx h
theorem Es{v:Bool}{n:Nat}{k:Int}(h:gv v n k=true):nM k:=by unfold gv at h;simp only[VQ,decide_eq_true_eq]at h;have:=DN v;unfold nM;omega
theorem Hj{m:Mt}(h:DG m)(hc:bp m=true):m.Wf:=by
 unfold bp at hc;simp only[VQ,Wq,decide_eq_true_eq,Bool.not_eq_true']at hc;have kx:∀{p:Px} {b:Bool},(b=true∨BI p=true)→(b=false∨gv p.v p.n p.k=true) → -9223372036854775808≤p.k∧p.k≤9223372036854775807:=by
  intro p b h1 h2;cases b with
  |true=>rcases h2 with h2|h2;exact absurd h2 (by decide);exact Es h2
  |false=>
   rcases h1 with h1|h1
   ·exact absurd h1 (by decide)
   ·have:=(of_decide_eq_true h1).2.2
    omega
 exact⟨by omega,h.sn,kx hc.1.2.2.1 hc.2.2.1.1,h.dn,kx hc.1.2.2.2.1 hc.2.2.1.2.1,⟨h.i1,h.i2⟩,⟨h.s1,h.s2⟩,⟨h.d1,h.d2⟩,h.pr⟩
theorem mV.wf{cf:CF}(h:mV cf):iq cf∧Vj cf 16:=by
 have i:∀n:Int,0≤n→n≤9223372036854775807→nM n:=fun n h1 h2=>by unfold nM;omega
 refine⟨⟨fun n hn=>i n (h.ag n hn).1 (h.ag n hn).2,fun r hr=>?_,fun r hr=>?_,fun m hm=>?_,fun m hm=>?_,?_⟩,⟨fun m hm=>gx (h.af m hm).1,fun m hm=>gx (h.aa m hm).1,fun r hr=>?_⟩⟩
 ·obtain⟨a,b,c,d⟩:=h.ae r hr
  exact⟨a,Es b,i _ c d⟩
 ·obtain⟨a,b,c,d,e,f⟩:=h.rules r hr
  have h1:=gx c;have h2:=pq e;have h3:=pq f;have ha:=d;unfold jf at ha;simp only[VQ,decide_eq_true_eq]at ha;have:=a.out;exact⟨by unfold maxLen;omega,Hj a.mt b,by unfold nM;omega,by unfold nM;omega,by unfold maxLen;omega,by unfold maxLen;omega⟩
 ·obtain⟨a,b,c,d⟩:=h.af m hm
  have h1:=gx a;exact⟨by unfold maxLen;omega,b,c,d⟩
 ·obtain⟨a,b,c,d,e⟩:=h.aa m hm
  have h1:=gx a;exact⟨by unfold maxLen;omega,i _ b c,i _ d e⟩
 ·rcases h.aR with h|h|h<;>rw[h]<;>(unfold nM;omega)
 ·obtain⟨_,_,c,_,e,f⟩:=h.rules r hr
  exact⟨gx c,pq e,pq f⟩
theorem FZ{s:Bs}{cf:CF}(h:cX s=.ok cf):mV cf∧iq cf∧jA cf∧(ey cf).length≤140737488355328∧rA cf=0:=by
 have ok:=Jg h;have hc:Ff cf≤65537:=by
  unfold cX at h;split at h
  ·cases h
  ·have h1:=qR _ _ _ _ _ h
   have h2:=tX s;have h3:Ff wZ=0:=rfl;omega
 have hl:=Dl ok.wf.1 ok.wf.2 hc;refine⟨ok,ok.wf.1,?_,by omega,(Bc ok.in).2 ok⟩;unfold Ff at hc;exact⟨by omega,by omega,by omega,by omega,by omega⟩
theorem Jh{s:Bs}{code p:Nat}(h:cX s=.no code p):0 < code∧p≤s.length+1:=by
 unfold cX at h;split at h
 ·injection h with h1 h2
  omega
 ·have h1:=nh _ _ _ _ _ _ h
  have h2:=tX s;exact⟨vQ _ _ _ _ _ _ h,by omega⟩
open Go Go.RowKit Go.Lib Go.Sort _root_.Go.Proofs.Tryz
def s0:fN:=⟨⟨none,0⟩,⟨none,0⟩,⟨none,0⟩,⟨none,0⟩,⟨none,0⟩⟩
theorem Lc(W:World)(S:List Nat):gX W S wZ s0:=
 ⟨⟨rfl,none,0,rfl,fun h=>absurd h (by decide)⟩,⟨rfl,none,0,rfl,fun h=>absurd h (by decide)⟩,⟨rfl,none,0,rfl,fun h=>absurd h (by decide)⟩,⟨rfl,none,0,rfl,fun h=>absurd h (by decide)⟩,⟨rfl,none,0,rfl,fun h=>absurd h (by decide)⟩⟩
theorem Lb:iq wZ:=⟨fun _ h=>(by cases h),fun _ h=>(by cases h),fun _ h=>(by cases h),fun _ h=>(by cases h),fun _ h=>(by cases h),by unfold nM;decide⟩
theorem OP:jA wZ:=⟨by decide,by decide,by decide,by decide,by decide⟩
theorem IN(W:World):Calls prog 25 #[.agg eD.toArray,.agg eD.toArray] W (Rn W (.bool true)):=by have h:=IP wZ wZ s0 s0 (Lc W []) (Lc W []) Lb Lb OP;rw[(bU _ _).2 rfl]at h;exact h
abbrev Ih(w:World):Sx.aY:=⟨w,[],fun _ _=>False⟩
open Go Go.RowKit Go.Lib Go.Sort _root_.Go.Proofs.Tryz
theorem yJ(x y:Operand)(a b:Bs){s:Bs}(hs:s=a++b)(h:a.length+b.length≤9000000000000000000)(W:World):(do eqGuard .add 9 x y (ab a) (ab b);binOp .add 9 (ab a) (ab b):Sem Value).run prog W=.ok (ab s) W:=by rw[hs];exact rP x y a b h W
set_option maxRecDepth 100000
open Go Go.RowKit Go.Lib Go.Sort _root_.Go.Proofs.Tryz
set_option maxRecDepth 100000
def tG(l:List Nat):List Value:=l.map fun(n:Nat)=>.int .i64 (n:Int)
def BX(s:Bs)(vb ve:Value)(t:Bs)(n now i:Nat):List (Nat×Sx.SV):=[(0,.val (ab s)),(1,.val vb),(2,.val ve),(7,.own 0),(8,.val (ab t)),(9,.val (.int .i64 (n:Int))),(10,.own 1),(11,.val (.int .i64 (now:Int))),(12,.val (.int .i64 (i:Int)))]
def de(ls:List Bs)(first:List Nat):List Sx.Row:=[⟨9,.own 1 ls.length (strs ls)⟩,⟨3,.own 1 first.length (tG first)⟩]
structure TL(w:World)(l:List Int)(A:Option Go.Addr)(c:Nat):Prop where
 rd:lu w [] 1 (.slice A l.length c) l.length (l.map fun n=>VM .i64 n)
def ee(l:List Int)(n:Nat):Int:=r6 (yD l n)
def NK(s:Bs)(vb ve:Value)(t:Bs)(n now i:Nat)(line:Bs):List (Nat×Sx.SV):=[(0,.val (ab s)),(1,.val vb),(2,.val ve),(7,.own 0),(8,.val (ab t)),(9,.val (.int .i64 (n:Int))),(10,.own 1),(11,.val (.int .i64 (now:Int))),(12,.val (.int .i64 (i:Int))),(13,.own 2),(14,.val (ab line))]
def NJ(s:Bs)(vb ve:Value)(t:Bs)(n now i:Nat)(line:Bs)(k:Nat):List (Nat×Sx.SV):=NK s vb ve t n now i line++[(15,.val (.int .i64 (k:Int)))]
def pv(ls:List Bs)(first:List Nat)(ws:List Bs):List Sx.Row:=de ls first++[⟨9,.own 1 ws.length (strs ws)⟩]
def wk(pd:Nat→Int)(lead:Bs)(n:Nat)(ws:List Bs)(k:Nat):Bs:=lead++vJ pd n (ws.take k)
theorem QN(pd:Nat→Int)(lead:Bs)(n:Nat)(ws:List Bs)(k:Nat){x:Bs}(hx:ws[k]?=some x):wk pd lead n ws (k+1)=(wk pd lead n ws k++x)++fW (pd (n+k)):=by have hk:k < ws.length:=(VS.1 hx).1;unfold wk;rw[Wn,hx];show lead++vJ pd n (ws.take k++[x])=_;rw[zn,VP,Nat.min_eq_left (by omega)];simp
theorem PH(pd:Nat→Int)(lead:Bs)(n:Nat)(ws:List Bs)(k:Nat)(h:lead.length≤4)(hw:ws.length≤4001)(hl:∀x∈ws,x.length≤4000):(wk pd lead n ws k).length≤20000000:=by
 have h1:=Cb pd 4000 (ws.take k) n fun x hx=>hl x (Wk hx);have h2:(ws.take k).length≤4001:=by rw[VP];omega
 have h3:(ws.take k).length*(4000+4)≤4001*4004:=VY _ h2;unfold wk;rw[VE];omega
theorem Uv{w:World}(s:Bs)(bl:List Int)(A:Option Go.Addr)(c:Nat)(hb:TL w bl A c)(ve:Value)(t:Bs)(n now i:Nat)(hn:n≤100000000)(lead:Bs)(ls:List Bs)(first:List Nat)(ws:List Bs)(hws:ws.length≤4001)(hwl:∀x∈ws,x.length≤4000)(hld:lead.length≤4)(T:Value)(k:Nat)(hk:k≤ws.length) :
  ∃H' L',Sx.ex prog f10.ntmps w (Sx.inBody (Sx.dr f10 0) 0) H' L' ⟨NJ s (.slice A bl.length c) ve t (n+k) now i (wk (ee bl) lead n ws k) k,pv ls first ws⟩
   (Sx.ia (fun k=>k≤ws.length) (fun k=>NJ s (.slice A bl.length c) ve t (n+k) now i (wk (ee bl) lead n ws k) k) (fun _=>pv ls first ws) (fun k=>k+1) (fun k=>ws.length - k) (fun(_:Unit)=>True) (fun _=>NK s (.slice A bl.length c) ve t (n+ws.length) now i (wk (ee bl) lead n ws ws.length)) (fun _=>pv ls first ws) (fun _=>()) (Sx.fX (Sx.inBody (Sx.dr f10 0) 0) - 1) (Sx.atEnd prog f10 (fun u=>u=T) .ret) k):=by
 by_cases hlt:k < ws.length
 ·have c57:=bT ((k:Int) < (ws.length:Int)) (by omega)
  obtain⟨x,hx⟩:∃x,ws[k]?=some x:=⟨_,VG hlt⟩;have c63:0≤(k:Int)∧(k:Int) < (ws.length:Int):=⟨by omega,by omega⟩;have c64:(strs ws)[((k:Int)).toNat*1]?=some (ab x):=by rw[Wa,Wm];exact ID hx
  have hbd:=PH (ee bl) lead n ws k hld hws hwl;have hxl:=hwl x (Wl hx);have hpl:=tq (r6 (yD bl (n+k)));have c65:=fun W=>yJ (.tmp 60) (.tmp 64) (wk (ee bl) lead n ws k) x rfl (by omega) W;have c70:=fun W=>yJ (.tmp 65) (.tmp 69) (wk (ee bl) lead n ws k++x) (fW (r6 (yD bl (n+k)))) (QN (ee bl) lead n ws k hx) (by rw[VE];omega) W;have c72:VM .i64 (VR.wrap (((n+k:Nat):Int)+1))=.int .i64 ((n+(k+1):Nat):Int):=iw (by rw[Fs (by omega) (by omega)];omega);have c59:=uh (i:=k) (by omega);have h0:k+1≤ws.length:=hlt;have h1:ws.length - (k+1) < ws.length - k:=by omega
  have c68:=fun W (hW:ah [] w W)=>RB bl A c (n+k) W (hb.rd.aD hW);have c69:=fun W (_:ah [] w W)=>Jw (yD bl (n+k)) W;refine⟨[bq 57 true,(63,.ix),(64,.ld (ab x)),(65,.bin (ab (wk (ee bl) lead n ws k++x))),(68,.call (.int .i64 (yD bl (n+k)))),(69,.call (ab (fW (r6 (yD bl (n+k)))))),(70,.bin (ab (wk (ee bl) lead n ws (k+1)))),(72,.is (.int .i64 ((n+(k+1):Nat):Int))),oP 59 (k+1)],[],?_⟩;exact VZ (by kernel_rfl) (Sx.t8 c57 c63 c64 c65 c68 c69 c70 c72 (Sx.t4 c59 h0 h1 (@rfl _ (NJ s (.slice A bl.length c) ve t (n+(k+1)) now i (wk (ee bl) lead n ws (k+1)) (k+1))) (@rfl _ (pv ls first ws))))
 ·have c57:=bF ((k:Int) < (ws.length:Int)) (by omega)
  obtain rfl:k=ws.length:=by omega
  refine⟨[bq 57 false],[],?_⟩;exact VZ (by kernel_rfl) (Sx.t2 c57 trivial (VO (@rfl _ (NK s (.slice A bl.length c) ve t (n+ws.length) now i (wk (ee bl) lead n ws ws.length))) (@rfl _ (pv ls first ws))))
def OK(s:Bs)(vb ve:Value)(t:Bs)(n now i:Nat)(line:Bs):List (Nat×Sx.SV):=[(0,.val (ab s)),(1,.val vb),(2,.val ve),(7,.own 0),(8,.val (ab t)),(9,.val (.int .i64 (n:Int))),(10,.own 1),(11,.val (.int .i64 (now:Int))),(12,.val (.int .i64 (i:Int))),(14,.val (ab line))]
def AW(s:Bs)(vb ve:Value)(t:Bs)(n now i:Nat)(line:Bs)(k:Nat):List (Nat×Sx.SV):=OK s vb ve t n now i line++[(16,.val (.int .i64 (k:Int)))]
def ct(line:Bs)(k:Nat):Nat:=(line.take k).count 10
theorem Ts{line:Bs}{k:Nat}{c:UInt8}(h:line[k]?=some c):ct line (k+1)=ct line k+(match decide (c=10)with|true=>1|false=>0):=by
 unfold ct;rw[Wn,h,List.count_append];by_cases hc:c=10
 ·rw[decide_eq_true hc,hc];rfl
 ·rw[decide_eq_false hc]
  congr 1;exact List.count_eq_zero.2 (by simpa using fun e=>hc e.symm)
theorem Tt(line:Bs)(k:Nat):ct line k≤line.length:=Wc List.count_le_length (by rw[VP];omega)
theorem UJ{w:World}(s:Bs)(vb ve:Value)(t:Bs)(n now i:Nat)(hn:now≤100000000)(line:Bs)(hl:line.length≤30000000)(ls:List Bs)(first:List Nat)(T:Value)(k:Nat)(hk:k≤line.length) :
  ∃H' L',Sx.ex prog f10.ntmps w (Sx.inBody (Sx.dr f10 0) 1) H' L' ⟨AW s vb ve t n (now+ct line k) i line k,de ls first⟩
   (Sx.ia (fun k=>k≤line.length) (fun k=>AW s vb ve t n (now+ct line k) i line k) (fun _=>de ls first) (fun k=>k+1) (fun k=>line.length - k) (fun(_:Unit)=>True) (fun _=>OK s vb ve t n (now+ct line line.length) i line) (fun _=>de ls first) (fun _=>()) (Sx.fX (Sx.inBody (Sx.dr f10 0) 1) - 1) (Sx.atEnd prog f10 (fun u=>u=T) .ret) k):=by
 have c81:=lz line;have hc1:=Tt line k;by_cases hlt:k < line.length
 ·have c82:=bT ((k:Int) < (line.length:Int)) (by omega)
  obtain⟨c,hc⟩:∃c,line[k]?=some c:=⟨_,VG hlt⟩;have c87:=ss line k c hc;have c88:VK ((c.toNat:Int)==10)=.bool (decide (c=10)):=ll 10 rfl;have hu:=Ts hc;have c90:VM .i64 (VR.wrap (((now+ct line k:Nat):Int)+1))=.int .i64 ((now+ct line k+1:Nat):Int):=iw (by rw[Fs (by omega) (by omega)];omega);have c84:=uh (i:=k) (by omega);have h0:k+1≤line.length:=hlt;have h1:line.length - (k+1) < line.length - k:=by omega
  generalize decide (c=10)=b at*;refine⟨[(81,.is (.int .i64 (line.length:Int))),bq 82 true,(87,.bin (u8 c)),bq 88 b,oP 90 (now+ct line k+1),oP 84 (k+1)],[],?_⟩;cases b
  ·exact VZ (by kernel_rfl) (Sx.t8 c81 c82 c87 c88 c84 h0 h1 (show AW s vb ve t n (now+ct line k) i line (k+1)=AW s vb ve t n (now+ct line (k+1)) i line (k+1)by rw[hu];rfl) (@rfl _ (de ls first)))
  ·exact VZ (by kernel_rfl) (Sx.t8 c81 c82 c87 c88 c90 c84 h0 h1 (VO (show AW s vb ve t n (now+ct line k+1) i line (k+1)=AW s vb ve t n (now+ct line (k+1)) i line (k+1)by rw[hu];rfl) (@rfl _ (de ls first))))
 ·have c82:=bF ((k:Int) < (line.length:Int)) (by omega)
  obtain rfl:k=line.length:=by omega
  refine⟨[(81,.is (.int .i64 (line.length:Int))),bq 82 false],[],?_⟩;exact VZ (by kernel_rfl) (Sx.t4 c81 c82 trivial (@rfl _ (OK s vb ve t n (now+ct line line.length) i line)) (@rfl _ (de ls first)))
set_option maxRecDepth 100000
open Go Go.RowKit Go.Lib Go.Sort _root_.Go.Proofs.Tryz
def lM(bl:List Int)(n:Nat):Int:=r6 (VR.wrap (yD bl n - 1))
def Uw(s:Bs)(vb ve:Value)(pd:Nat→Int)(t:Bs)(n now i:Nat)(lead:Bs)(ls:List Bs)(first:List Nat)(ws:List Bs):Sx.Loop:=
 .mk Nat 0 (fun k=>k≤ws.length) (fun k=>NJ s vb ve t (n+k) now i (wk pd lead n ws k) k) (fun _=>pv ls first ws) (fun k=>k+1) (fun k=>ws.length - k) Unit (fun _=>True) (fun _=>NK s vb ve t (n+ws.length) now i (wk pd lead n ws ws.length)) (fun _=>pv ls first ws) (fun _=>())
def UK(s:Bs)(vb ve:Value)(t:Bs)(n now i:Nat)(line:Bs)(ls:List Bs)(first:List Nat):Sx.Loop:=
 .mk Nat 0 (fun k=>k≤line.length) (fun k=>AW s vb ve t n (now+ct line k) i line k) (fun _=>de ls first) (fun k=>k+1) (fun k=>line.length - k) Unit (fun _=>True) (fun _=>OK s vb ve t n (now+ct line line.length) i line) (fun _=>de ls first) (fun _=>())
def UX(o1 o2:Nat)(s:Bs)(vb ve:Value)(t:Bs)(n now i:Nat)(line:Bs)(k:Nat):List (Nat×Sx.SV):=[(0,.val (ab s)),(1,.val vb),(2,.val ve),(7,.own 0),(8,.val (ab t)),(9,.val (.int .i64 (n:Int))),(10,.own o1),(11,.val (.int .i64 (now:Int))),(12,.val (.int .i64 (i:Int))),(13,.own o2),(14,.val (ab line)),(15,.val (.int .i64 (k:Int)))]
def Qk(s t:Bs):List (Nat×Sx.SV):=[(0,.val (ab s)),(7,.own 0),(8,.val (ab t)),(10,.own 1)]
theorem Ug{w:World}(s:Bs)(bl el:List Int)(A A':Option Go.Addr)(c c':Nat)(hb:TL w bl A c)(he:TL w el A' c')(ls:List Bs)(hls:ls.length≤4001)(hsz:∀x∈ls,x.length≤4000∧(10:UInt8)∉x)(T:Value)(tt:Bs)(ff:List Nat)(hT:tt=DV (lM bl) (ee bl) (ee el) 0 0 (ls.map (aj true)))(hF:ff=Cc (ee el) 1 0 (ls.map (aj true)))(k:PY)(hk:RL (lM bl) (ee bl) (ee el) ls k) :
  ∃H' L',Sx.ex prog f10.ntmps w (Sx.dr f10 0) H' L' ⟨BX s (.slice A bl.length c) (.slice A' el.length c') k.t k.n k.now k.i,de ls k.first⟩
   (Sx.ia (RL (lM bl) (ee bl) (ee el) ls) (fun k=>BX s (.slice A bl.length c) (.slice A' el.length c') k.t k.n k.now k.i) (fun k=>de ls k.first) (vp (lM bl) (ee bl) (ee el) ls) (fun k=>ls.length - k.i) (fun(_:Unit)=>True) (fun _=>Qk s tt) (fun _=>de ls ff) (fun _=>()) (Sx.fX (Sx.dr f10 0) - 1) (Sx.atEnd prog f10 (fun u=>u=T) .ret) k):=by
 obtain⟨i,n,now,t,first⟩:=k;by_cases hlt:i < ls.length
 ·have hup:=Ql hk hlt fun x hx=>(hsz x hx).1
  have c37:=bT ((i:Int) < (ls.length:Int)) (by omega);obtain⟨x,hx⟩:∃x,ls[i]?=some x:=⟨_,VG hlt⟩;have hxl:=hsz x (Wl hx);have c42:0≤(i:Int)∧(i:Int) < (ls.length:Int):=⟨by omega,by omega⟩;have c43:(strs ls)[((i:Int)).toNat*1]?=some (ab x):=by rw[Wa,Wm];exact ID hx
  have c44:=fun W (_:ah [] w W)=>IQ x true (by omega) W;have hwl:=yQ true x;have hgw:=sj hxl.2;have hgd:ls.getD i []=x:=by rw[Wg,hx];rfl
  unfold vp at hup;dsimp only at hup;rw[hgd]at hup;obtain⟨ws,hws⟩:∃ws,aj true x=ws:=⟨_,rfl⟩;rw[hws]at hup hwl hgw c44;have c51:=fun W (hW:ah [] w W)=>RB bl A c n W (hb.rd.aD hW);have c53:=fun W (_:ah [] w W)=>Jw (VR.wrap (yD bl n - 1)) W;have c76:=fun(_:Unit) (_:True) W (hW:ah [] w W)=>RB el A' c' i W (he.rd.aD hW);have c77:=fun(_:Unit) (_:True) W (_:ah [] w W)=>Ri (yD el i) W;have hI:=hk;obtain⟨_,_,_,hlen,hfew,htl⟩:=hk;dsimp only at hlen hfew htl hlt;have hwl1:ws.length≤4001:=by omega
  have hwl2:∀y∈ws,y.length≤4000:=fun y hy=>by have:=hwl.2 y hy;omega
  have hsl:=IK (lM bl) (ee bl) (ee el) n i ws hwl1 hwl2;have hmd:=PH (ee bl) (fW (lM bl n)) n ws ws.length (tq _) hwl1 hwl2;have hel:=(Dd (ee el i)).1;have c48:=mO (cells:=[.int .i64 (now:Int)]) (size:=1) (len:=first.length) (B:=bytesOf 3) (by kernel_rfl) (by kernel_rfl) (by omega) (by decide+kernel);have c78:=fun(_:Unit) (_:True) W=>yJ (.tmp 73) (.tmp 77) (wk (ee bl) (fW (lM bl n)) n ws ws.length) (uI (ee el i)) (s:=vj (lM bl) (ee bl) (ee el) n i ws) (by unfold vj wk;rw[Wo,List.append_assoc]) (by omega) W;have hct:ct (vj (lM bl) (ee bl) (ee el) n i ws) (vj (lM bl) (ee bl) (ee el) n i ws).length=(nK (ee el i)).length:=by unfold ct;rw[Wo];exact He _ _ _ _ _ _ hgw
  have hnx:vp (lM bl) (ee bl) (ee el) ls ⟨i,n,now,t,first⟩=⟨i+1,n+ws.length,now+(nK (ee el i)).length,t++vj (lM bl) (ee bl) (ee el) n i ws,first++[now]⟩:=by unfold vp;dsimp only;rw[hgd,hws]
  rw[←hnx]at hup;have hnm:tG (first++[now])=tG first++[.int .i64 (now:Int)]:=by simp[tG]
  have hln:(first++[now]).length=first.length+1:=by simp
  have e1:UX 4 2 s (.slice A bl.length c) (.slice A' el.length c') t n now i (fW (lM bl n)) 0=UX 4 2 s (.slice A bl.length c) (.slice A' el.length c') t (n+0) now i (wk (ee bl) (fW (lM bl n)) n ws 0) 0∧
    [⟨9,.own 1 ls.length (strs ls)⟩,⟨3,.own 1 (first.length+1) (tG first++[.int .i64 (now:Int)])⟩,⟨9,.own 1 ws.length (strs ws)⟩]=pv ls (first++[now]) ws:=by
   constructor
   ·unfold wk
    rw[List.take_zero,vJ,List.append_nil];rfl
   ·unfold pv de
    rw[hnm,hln];rfl
  have vq:=Uv (w:=w) s bl A c hb (.slice A' el.length c') t n now i (by omega) (fW (lM bl n)) ls (first++[now]) ws hwl1 hwl2 (tq _) T;have e6:=fun(_:Unit) (_:True)=>VO (@rfl _ (AW s (.slice A bl.length c) (.slice A' el.length c') t (n+ws.length) now i (vj (lM bl) (ee bl) (ee el) n i ws) 0)) (@rfl _ (de ls (first++[now])));have rd7:=UJ (w:=w) s (.slice A bl.length c) (.slice A' el.length c') t (n+ws.length) now i (by omega) (vj (lM bl) (ee bl) (ee el) n i ws) (by omega) ls (first++[now]) T;have c93:=fun W=>yJ (.tmp 91) (.tmp 92) t (vj (lM bl) (ee bl) (ee el) n i ws) rfl (by omega) W;have c39:=uh (i:=i) (by omega);have h11:ls.length - (vp (lM bl) (ee bl) (ee el) ls ⟨i,n,now,t,first⟩).i < ls.length - i:=by rw[hnx]; show ls.length - (i+1) < _; omega
  have h12:BX s (.slice A bl.length c) (.slice A' el.length c') (t++vj (lM bl) (ee bl) (ee el) n i ws) (n+ws.length) (now+ct (vj (lM bl) (ee bl) (ee el) n i ws) (vj (lM bl) (ee bl) (ee el) n i ws).length) (i+1)=(fun k:PY=>BX s (.slice A bl.length c) (.slice A' el.length c') k.t k.n k.now k.i) (vp (lM bl) (ee bl) (ee el) ls ⟨i,n,now,t,first⟩)∧
    de ls (first++[now])=de ls (vp (lM bl) (ee bl) (ee el) ls ⟨i,n,now,t,first⟩).first:=by
   rw[hnx,hct];exact⟨rfl,rfl⟩
  have CH:=Sx.t8 c37 c42 c43 c44 c48 c51 (@rfl _ (VM .i64 (VR.wrap (yD bl n - 1)))) c53 (Sx.t2 (VU ws.length) e1 (VO vq (fun(x3:Unit) (hx4:True)=>Sx.t4 (c76 x3 hx4) (c77 x3 hx4) (c78 x3 hx4) (VU (vj (lM bl) (ee bl) (ee el) n i ws).length) (Sx.t2 (e6 x3 hx4) rd7 (fun(_:Unit) (_:True)=>Sx.t4 c93 c39 hup h11 h12)))));refine⟨[bq 37 true,(42,.ix),(43,.ld (ab x)),(44,.dc (.sl 9 1 ws.length (strs ws))),(51,.call (.int .i64 (yD bl n))),(52,.is (.int .i64 (VR.wrap (yD bl n - 1)))),(53,.call (ab (fW (lM bl n)))),(76,.call (.int .i64 (yD el i))),(77,.call (ab (uI (ee el i)))),(78,.bin (ab (vj (lM bl) (ee bl) (ee el) n i ws))),(93,.bin (ab (t++vj (lM bl) (ee bl) (ee el) n i ws))),oP 39 (i+1)],[Uw s (.slice A bl.length c) (.slice A' el.length c') (ee bl) t n now i (fW (lM bl n)) ls (first++[now]) ws,UK s (.slice A bl.length c) (.slice A' el.length c') t (n+ws.length) now i (vj (lM bl) (ee bl) (ee el) n i ws) ls (first++[now])],?_⟩;exact VZ (by kernel_rfl) CH
 ·have c37:=bF ((i:Int) < (ls.length:Int)) (by omega)
  have hin:i=ls.length:=by have:=hk.le;dsimp only at this;omega
  have hE:=MN hk hin;rw[←hT,←hF]at hE;dsimp only at hE;obtain⟨h1,h2⟩:=hE;clear hT hF;subst h1 h2;refine⟨[bq 37 false],[],?_⟩;exact VZ (by kernel_rfl) (Sx.t2 c37 trivial (VO (@rfl _ (Qk s t)) (@rfl _ (de ls first))))
set_option maxRecDepth 100000
open Go Go.RowKit Go.Lib Go.Sort _root_.Go.Proofs.Tryz
theorem told_none(w:World):Calls prog 24 #[.nilIface] w (Rn w (.tuple #[.int .i64 0,.int .i64 0])):=by
 have z0:Value.tuple #[.int .i64 0,.int .i64 0]=.tuple #[.int .i64 0,.int .i64 0]:=rfl;have c6:∀W:World,(do eqGuard .eql 48 (.tmp 5) (.const .nilIface) .nilIface .nilIface;binOp .eql 48 .nilIface .nilIface:Sem Value).run prog W=.ok (.bool true) W:=fun W=>by kernel_rfl
 refine Sx.bX (args:=[.nilIface]) [(6,.bin (.bool true))] [] (by kernel_rfl) func24 rfl (dR rfl) ?_;exact VZ (by kernel_rfl) (VO c6 z0)
set_option maxRecDepth 100000
open Go Go.RowKit Go.Lib Go.Sort _root_.Go.Proofs.Tryz
def MJ(s:Bs)(bl el:List Int)(A A':Option Go.Addr)(c c':Nat)(ls:List Bs)(tt:Bs)(ff:List Nat):Sx.Loop:=
 .mk PY ⟨0,0,1,[],[]⟩ (RL (lM bl) (ee bl) (ee el) ls) (fun k=>BX s (.slice A bl.length c) (.slice A' el.length c') k.t k.n k.now k.i) (fun k=>de ls k.first) (vp (lM bl) (ee bl) (ee el) ls) (fun k=>ls.length - k.i) Unit (fun _=>True) (fun _=>Qk s tt) (fun _=>de ls ff) (fun _=>())
def MK(s0 s:Bs)(bg:Bool)(len:Nat)(H:List (Nat×Sx.Hint)):List (Nat×Sx.Hint):=(25,.call (.bool true))::(28,.is (.int .i64 (s0.length:Int)))::(29,.is (.bool bg))::(31,.bin (ab s))::(33,.dc (.sl 9 1 (aw s).length (strs (aw s))))::(10,.ij 3 1)::(105,.is (.int .i64 (len:Int)))::H
theorem Uf(s0 s:Bs)(bg:Bool)(hbg:decide (4000 < s0.length)=bg)(h0s:s=Vl bg (s0.take 4000) s0)(bl el:List Int)(A A':Option Go.Addr)(c c':Nat)(w:World)(hlan:ku w)(hb:TL w bl A c)(he:TL w el A' c'):Calls prog 10 #[ab s0,.slice A bl.length c,.slice A' el.length c'] w (Rn w (.bool true)):=by
 have no9:∀k∈([]:List Nat),9≤k:=fun k hk=>by cases hk
 have hL:∀W,ah [] w W→ku W:=fun W hW=>hlan.aD hW no9;have hs:s.length≤4000:=by
  rw[h0s];cases bg with
  |true=>show(s0.take 4000).length≤_;rw[VP];omega
  |false=>exact Nat.le_of_not_lt (of_decide_eq_false hbg)
 have h31:bg=true→∀W:World,(Instr.sliceAt 9 (ab s0) none (some (.int .i64 4000)) none).run prog W=.ok (ab s) W:=fun h W=>by rw[h0s,h];rw[h]at hbg;exact jT s0 0 4000 (by omega) (by have:=of_decide_eq_true hbg;omega) W
 have hsf:bg=false→s=s0:=fun h=>by rw[h0s,h];rfl
 obtain⟨tt,hT⟩:∃tt,tt=DV (lM bl) (ee bl) (ee el) 0 0 ((aw s).map (aj true)):=⟨_,rfl⟩;obtain⟨ff,hF⟩:∃ff,ff=Cc (ee el) 1 0 ((aw s).map (aj true)):=⟨_,rfl⟩;have hfl:ff.length=(aw s).length:=by rw[hF,DW,VW]
 have c25:=fun W (hW:ah [] w W)=>OZ W (hL W hW);have Dp:VK (decide ((s0.length:Int) > 4000))=.bool bg:=by rw[←hbg];congr 1;rw[decide_eq_decide];omega
 have c33:=fun W (_:ah [] w W)=>IX s (by omega) W;have rd:=Ug (w:=w) s bl el A A' c c' hb he (aw s) (by have:=dV 10 s;show(aU 10 s).length≤_;omega) (fun x hx=>⟨by have:=fB 10 s x hx;omega,jQ 10 s x hx⟩) (.bool true) tt ff hT hF;have hrd:=fun h=>zl (lM bl) (ee bl) (ee el) s hs (by rw[←hT];exact h);rw[←hT,←hF]at hrd;have c105:=lz tt;have hlg:65536 < tt.length→cX tt=.no 4 0:=fun h=>by unfold cX;rw[if_pos h]
 have hra:=fun code p (h:cX s=.no code p)=>Ng hs h;rw[←hfl]at hra;have HEAD:=fun(X:Prop) (x:X)=>Sx.t2 c25 (lz s0) (VO Dp (dt.mk (b:=!bg) (fun h=>h31 (by cases bg;cases h;rfl)) (Sx.t4 c33 (So (lM bl) (ee bl) (ee el) (aw s)) (show BX s (.slice A bl.length c) (.slice A' el.length c') [] 0 1 0=BX s (.slice A bl.length c) (.slice A' el.length c') [] 0 1 0∧de (aw s) []=de (aw s) []from⟨rfl,rfl⟩) rd (fun(_:Unit) (_:True)=>x))));have zt:=@rfl _ (VK true);clear h31 hT hF rd c25 Dp c33;by_cases hlong:65536 < tt.length
 ·have c106:=bT ((tt.length:Int) > 65536) (by omega)
  have h2:=hlg hlong;cases h1:cX s with
  |no code p=>
   have c96:=fun W β (hS:Sx.dS (Ih w) β W (Sx.rowAt (de (aw s) ff)) [])=>km (m:=2) hlan no9 h1 W β hS;have c101:=fun W β (hS:Sx.dS (Ih w) β W (Sx.rowAt (de (aw s) ff++[⟨105,.ai (oQ code p)⟩,⟨46,.cU (eD.map .val)⟩])) [])=>km (m:=4) hlan no9 h2 W β hS;have CH:=HEAD _ (Sx.t4 c96 c101 c105 c106 zt);refine Sx.bX (args:=[ab s0,.slice A bl.length c,.slice A' el.length c']) (MK s0 s bg tt.length [(96,.au (Dt 2 code p)),(101,.au (Dt 4 4 0)),bq 106 true]) [MJ s bl el A A' c c' (aw s) tt ff] (by kernel_rfl) func10 rfl (dR rfl) ?_;cases bg with
   |true=>exact VZ (by kernel_rfl) CH
   |false=>obtain rfl:s=s0:=hsf rfl;exact VZ (by kernel_rfl) CH
  |ok cf=>
   have c96:=fun W β (hS:Sx.dS (Ih w) β W (Sx.rowAt (de (aw s) ff)) [])=>py (m:=2) hlan no9 h1 W β hS;have c101:=fun W β (hS:Sx.dS (Ih w) β W (Sx.rowAt (de (aw s) ff++(cF cf++[⟨46,.cU [.own 2,.own 3,.own 4,.own 5,.own 6,.val (.int .i64 cf.aR)]⟩]))) [])=>km (m:=8) hlan no9 h2 W β hS;have CH:=HEAD _ (Sx.t4 c96 c101 c105 c106 zt);refine Sx.bX (args:=[ab s0,.slice A bl.length c,.slice A' el.length c']) (MK s0 s bg tt.length [(96,.au (ry 2 cf (.kG [.row (vl 2 cf),.a (.v .nilIface)]))),(101,.au (Dt 8 4 0)),bq 106 true]) [MJ s bl el A A' c c' (aw s) tt ff] (by kernel_rfl) func10 rfl (dR rfl) ?_;cases bg with
   |true=>exact VZ (by kernel_rfl) CH
   |false=>obtain rfl:s=s0:=hsf rfl;exact VZ (by kernel_rfl) CH
 ·have c106:=bF ((tt.length:Int) > 65536) (by omega)
  have h2:=hrd hlong;cases h1:cX s with
  |no code p=>
   rw[h1]at h2;have hq:=hra code p h1;obtain⟨q,hq2⟩:∃q,q=ff.getD (p - 1) 0:=⟨_,rfl⟩;have h2:cX tt=.no code q:=by rw[h2,hq2];rfl
   obtain⟨hc,_⟩:=Jh h1;have c96:=fun W β (hS:Sx.dS (Ih w) β W (Sx.rowAt (de (aw s) ff)) [])=>km (m:=2) hlan no9 h1 W β hS;have c101:=fun W β (hS:Sx.dS (Ih w) β W (Sx.rowAt (de (aw s) ff++[⟨105,.ai (oQ code p)⟩,⟨46,.cU (eD.map .val)⟩])) [])=>km (m:=4) hlan no9 h2 W β hS;obtain⟨R6,hR6⟩:∃R6:List Sx.Row,R6=de (aw s) ff++[⟨105,.ai (oQ code p)⟩,⟨46,.cU (eD.map .val)⟩,⟨105,.ai (oQ code q)⟩,⟨46,.cU (eD.map .val)⟩]:=⟨_,rfl⟩;have c109:=fun W β (hS:Sx.dS (Ih w) β W (Sx.rowAt R6) [2])=>qh (m:=6) (j:=2) (code:=code) (place:=p) hlan no9 (by rw[hR6];rfl) W β hS;have c114:=fun W β (hS:Sx.dS (Ih w) β W (Sx.rowAt R6) [4])=>qh (m:=6) (j:=4) (code:=code) (place:=q) hlan no9 (by rw[hR6];rfl) W β hS;have c119:VK ((code:Int) !=(code:Int))=.bool false:=fJ _;have c123:=fun W (_:ah [] w W)=>IN W;have c127:VK ((code:Int)==0)=.bool false:=xl (by rw[beq_eq_false_iff_ne];omega);have c130:=bT ((p:Int)≥1) (by omega);have c135:=bT ((p:Int)≤(ff.length:Int)) (by omega);have c140:VM .i64 (VR.wrap ((p:Int) - 1))=.int .i64 ((p - 1:Nat):Int):=iw (by rw[Fs (by omega) (by omega)]; omega);have c141:0≤((p - 1:Nat):Int)∧((p - 1:Nat):Int) < (ff.length:Int):=⟨by omega,by omega⟩;have c142:(tG ff)[(((p - 1:Nat):Int)).toNat*1]?=some (.int .i64 (q:Int)):=by rw[Wa,Wm,hq2];unfold tG;rw[List.getElem?_map,Wg,VG (by omega)];rfl
   have c144:VK ((q:Int)==(q:Int))=.bool true:=by simp
   subst hR6;have CH:=HEAD _ (Sx.t8 c96 c101 c105 c106 c109 c114 c119 c123 (Sx.t4 c127 c130 c135 c140 (Sx.t2 c141 c142 (VO c144 zt))));refine Sx.bX (args:=[ab s0,.slice A bl.length c,.slice A' el.length c']) (MK s0 s bg tt.length [(96,.au (Dt 2 code p)),(101,.au (Dt 4 code q)),bq 106 false,(109,.au (DR 2 code p)),(114,.au (DR 4 code q)),bq 119 false,(123,.call (.bool true)),bq 127 false,bq 130 true,bq 135 true,oP 140 (p - 1),(141,.ix),(142,.ld (.int .i64 (q:Int))),bq 144 true]) [MJ s bl el A A' c c' (aw s) tt ff] (by kernel_rfl) func10 rfl (dR rfl) ?_;cases bg with
   |true=>exact VZ (by kernel_rfl) CH
   |false=>obtain rfl:s=s0:=hsf rfl;exact VZ (by kernel_rfl) CH
  |ok cf=>
   rw[h1]at h2;have h2:cX tt=.ok cf:=h2;obtain⟨_,hw,hf,_,_⟩:=FZ h1;have c96:=fun W β (hS:Sx.dS (Ih w) β W (Sx.rowAt (de (aw s) ff)) [])=>py (m:=2) hlan no9 h1 W β hS;have c101:=fun W β (hS:Sx.dS (Ih w) β W (Sx.rowAt (de (aw s) ff++(cF cf++[⟨46,.cU [.own 2,.own 3,.own 4,.own 5,.own 6,.val (.int .i64 cf.aR)]⟩]))) [])=>py (m:=8) hlan no9 h2 W β hS;have c109:=fun W (_:ah [] w W)=>told_none W;have c119:VK ((0:Int) !=0)=.bool false:=rfl;obtain⟨R14,hR14⟩:∃R14:List Sx.Row,R14=de (aw s) ff++(cF cf++(⟨46,.cU [.own 2,.own 3,.own 4,.own 5,.own 6,.val (.int .i64 cf.aR)]⟩::(cF cf++[⟨46,.cU [.own 8,.own 9,.own 10,.own 11,.own 12,.val (.int .i64 cf.aR)]⟩]))):=⟨_,rfl⟩;have c123:=fun W β (hS:Sx.dS (Ih w) β W (Sx.rowAt R14) (fm 2++fm 8))=>(show Calls prog 25 (([.dG (vl 2 cf),.dG (vl 8 cf)]:List Sx.SV).map (Sx.SV.den β)).toArray W (Sx.br (Ih w) β W (Sx.rowAt R14) 14 ⟨fm 2++fm 8,[],[],[],.val (.bool true),none⟩)from by have:=vM (m:=14) (i:=2) (j:=8) (c:=cf) (d:=cf) (mem:=R14) (by rw[hR14];exact⟨rfl,rfl,rfl,rfl,rfl⟩) (by rw[hR14];exact⟨rfl,rfl,rfl,rfl,rfl⟩) hw hw hf W β hS;rw[show eh cf cf=true from(bU _ _).2 rfl]at this;exact this);have c127:VK ((0:Int)==0)=.bool true:=rfl;subst hR14;have CH:=HEAD _ (Sx.t8 c96 c101 c105 c106 c109 c109 c119 c123 (VO c127 zt));refine Sx.bX (args:=[ab s0,.slice A bl.length c,.slice A' el.length c']) (MK s0 s bg tt.length [(96,.au (ry 2 cf (.kG [.row (vl 2 cf),.a (.v .nilIface)]))),(101,.au (ry 8 cf (.kG [.row (vl 8 cf),.a (.v .nilIface)]))),bq 106 false,(109,.call (.tuple #[.int .i64 0,.int .i64 0])),(114,.call (.tuple #[.int .i64 0,.int .i64 0])),bq 119 false,(123,.au ⟨fm 2++fm 8,[],[],[],.val (.bool true),none⟩),bq 127 true]) [MJ s bl el A A' c c' (aw s) tt ff] (by kernel_rfl) func10 rfl (dR rfl) ?_;cases bg with
   |true=>exact VZ (by kernel_rfl) CH
   |false=>obtain rfl:s=s0:=hsf rfl;exact VZ (by kernel_rfl) CH
open Go.RowKit Go.Lib Go.ChangeShapes Go.WideShapes Go.Deep
theorem En{α:Type}{f:α→List Value}{S:Nat}(hS:∀x,(f x).length=S):∀{L:List α} {i c:Nat} {x:α},L[i]?=some x→c < S→(L.flatMap f)[i*S+c]?=(f x)[c]?
 | [],i,c,x,h,_=>by simp at h
 |y::r,0,c,x,h,hc=>by
  have h:y=x:=by simpa using h
  subst h;rw[VT,Wh (by rw[hS];omega)];simp
 |y::r,i+1,c,x,h,hc=>by
  have e:(i+1)*S+c - S=i*S+c:=by rw[We]; omega
  rw[VT,List.getElem?_append_right (by rw[hS,We];omega),hS,e];exact En hS (by simpa using h) hc
theorem tr{α:Type}{f:α→List Value}{S:Nat}(hS:∀x,(f x).length=S):∀L:List α,(L.flatMap f).length=L.length*S
 | []=>by simp
 |y::r=>by rw[VT,VE,hS,tr hS r,VF,We];omega
open Go.RowKit Go.Lib Go.ChangeShapes Go.WideShapes Go.Deep _root_.Go.Proofs.Tryz
section
variable{H:Type}{enc:TypeId×Value→H}{w:World}{base:Nat}{spare:Nat→Bool}{held:Bool}{fuel:Nat}{cs:List Value}{y:DataW H×List MemPlace}
theorem Tz:prog.cellsOf 3=1:=by kernel_rfl
theorem wf_i64{k:Int}(h:(Lit.int .i64 k).wf=true) : -9223372036854775808≤k∧k≤9223372036854775807:=by simpa[Lit.wf,IntKind.min,IntKind.max,IntKind.signed,IntKind.bits]using h
theorem Iy(h:DataW.trod enc prog w base spare held fuel 3 cs=some y):∃k,cs=[.int .i64 k] ∧ -9223372036854775808≤k∧k≤9223372036854775807:=by obtain⟨k,e,_,hw⟩:=DataW.trod_int underlying3 h;exact⟨k,e,wf_i64 hw⟩
def gl{α:Type}(l:List α):Nat→List Nat→List α
 |_,[]=>[]
 |off,s::r=>(l.drop off).take s++gl l (off+s) r
theorem Lk(d:DataW H):1≤Rows.uptoBulk d:=by
 cases d with
 |lit x=>cases x<;>simp[Rows.uptoBulk]
 |_=>simp[Rows.uptoBulk]
theorem Bl{d:DataW H}:∀{ds:List (DataW H)},d∈ds→Rows.uptoBulk d≤Rows.uptoBulkAll ds
 |x::r,h=>by
  rw[Rows.uptoBulkAll];rcases VI.1 h with rfl|h
  ·omega
  ·have:=Bl h;omega
theorem Bm:∀(ds:List (DataW H)),ds.length≤Rows.uptoBulkAll ds
 | []=>VN _
 |x::r=>by have:=Bm r;have:=Lk x;rw[Rows.uptoBulkAll,VF];omega
theorem Gi{α:Type}{t e S:Nat}(hu:prog.underlying t=some (.slice e))(hc:prog.cellsOf e=S)(hS:0 < S){f:α→List Value}(hf:∀x,(f x).length=S){good:α→Nat→Prop}(mono:∀x N N',N≤N'→good x N→good x N')
  (dec:∀fuel cs y,DataW.trod enc prog w base spare held fuel e cs=some y→∃x,good x (Rows.uptoBulk y.1)∧cs=f x) (h:DataW.trod enc prog w base spare held fuel t cs=some y) :
  ∃(A:Option Addr) (c:Nat) (L:List α),cs=[.slice A L.length c]∧(∀x∈L,good x (Rows.uptoBulk y.1))∧L.length≤Rows.uptoBulk y.1∧lu w [] S (.slice A L.length c) L.length (L.flatMap f):=by
 rcases open_slice hu h with⟨rfl,rfl⟩ | ⟨a,len,cap,m,n,D,Pl,rfl,_,hl,hm,hmm,hy,hcell⟩
 ·exact⟨none,0,[],rfl,fun x hx=>(by cases hx),VU _,⟨by simp,none,0,rfl,fun h=>absurd h (by simp)⟩⟩
 ·have hle:len≤m:=by rw[hmm];split<;>omega
  have hyb:Rows.uptoBulk y.1=Rows.uptoBulkAll ((VX len).map D)+Rows.uptoBulkAll ((VX (m - len)).map fun j=>D (len+j))+1:=by rw[hy]; rfl
  have hlenb:len≤Rows.uptoBulk y.1:=by have:=Bm ((VX len).map D);rw[VW,List.length_range]at this;omega
  have one:∀i:Fin len,∃x:α,good x (Rows.uptoBulk y.1)∧∀c,c < S→w.cell? ((a.add (i.1*S)).add c)=(f x)[c]?:=by intro i;obtain⟨cs',hcs',ht⟩:=hcell i.1 (by have:=i.2;omega);rw[hc]at hcs';obtain⟨_,_,hat⟩:=World.cells?_some hcs';obtain⟨x,hx,rfl⟩:=dec _ _ _ ht;refine⟨x,mono _ _ _ ?_ hx,hat⟩;have:=Bl (d:=D i.1) (ds:=(VX len).map D) (VV.2 ⟨i.1,Wr.2 i.2,rfl⟩);show Rows.uptoBulk (D i.1)≤_;omega
  refine⟨some a,cap,Wv fun i=>(one i).choose,by simp,fun x hx=>?_,by simpa using hlenb,⟨by rw[tr hf],some a,cap,rfl,fun h0=>?_⟩⟩
  ·rw[List.mem_ofFn]at hx
   obtain⟨i,rfl⟩:=hx;exact(one i).choose_spec.1
  ·rw[Wp]at h0
   obtain⟨b,o,spot⟩:=a;have hat0:=(one ⟨0,h0⟩).choose_spec.2 0 hS;rw[VG (by rw[hf];exact hS)]at hat0;have hspot:spot=none:=by simpa[Addr.add]using World.cell?_spot hat0
   subst hspot;have hb:=World.block_lt_of_cell? _ _ hat0;refine⟨b,o,rfl,by simp,by simpa[Addr.add]using hb,fun j u hu=>?_⟩;have hjl:=(VS.1 hu).1;rw[tr hf,Wp]at hjl;have hi:j / S < len:=Nat.div_lt_of_lt_mul (by rw[Ws]; exact hjl);have hj:j / S*S+j%S=j:=by rw[Ws]; exact Nat.div_add_mod j S
   have hc2:j%S < S:=Nat.mod_lt _ hS;have hat:=(one ⟨j / S,hi⟩).choose_spec.2 (j%S) hc2;have hget:(Wv fun i=>(one i).choose)[j / S]?=some (one ⟨j / S,hi⟩).choose:=by rw[List.getElem?_ofFn]; simp[hi]
   have:=En hf hget hc2;rw[hj]at this;rw[this,←hat]at hu;rw[Addr.add_lit,Addr.add_lit]at hu;rw[show o+j=o+j / S*S+j%S by omega];exact hu
theorem JE{l:List Int}:l.flatMap (fun n=>[VM .i64 n])=l.map fun n=>.int .i64 n:=by
 induction l with
 |nil=>rfl
 |cons a l ih=>rw[VT,ih];rfl
end
set_option maxRecDepth 100000
open Go Go.RowKit Go.Lib Go.Sort Go.ChangeShapes Go.WideShapes Go.Deep _root_.Go.Proofs.Tryz
theorem open_ints{H:Type}{enc:TypeId×Value→H}{w:World}{base:Nat}{spare:Nat→Bool}{held:Bool}{v:Value}{d:DataW H}{p:List MemPlace}{b0:Nat}(hv:Value.okWide prog w .any b0 40 v)(h:DataW.Trod enc prog w base spare held 40 v d p) :
  ∃(L:List Int) (A:Option Addr) (c:Nat),v=.slice A L.length c∧lu w [] 1 (.slice A L.length c) L.length (L.map fun n=>VM .i64 n):=by
 obtain⟨A',n',c',rfl⟩:=okWide_slice underlying40 hv;obtain⟨fuel,hf⟩:=h;obtain⟨A0,c0,L0,e0,_,_,r0⟩:=Gi (cs:=[.slice A' n' c']) (y:=(d,p)) (S:=1) underlying40 Tz (by decide) (f:=fun n:Int=>[VM .i64 n]) (fun _=>rfl) (good:=fun n _=>nM n) (fun _ _ _ _ h=>h) (fun fuel cs y hy=>by obtain⟨n,e,hn⟩:=Iy hy;exact⟨n,hn,e⟩) (by simpa[Value.cells]using hf);rw[JE]at r0;exact⟨L0,A0,c0,List.head_eq_of_cons_eq e0,r0⟩
theorem Gx(s:ByteArray)(l1:List Int)(A1:Option Addr)(c1:Nat)(l2:List Int)(A2:Option Addr)(c2:Nat)(w:World)(hlan:ku w)(_:s.size≤100000000)(h1:lu w [] 1 (.slice A1 l1.length c1) l1.length (l1.map fun n=>VM .i64 n))(h2:lu w [] 1 (.slice A2 l2.length c2) l2.length (l2.map fun n=>VM .i64 n)) :
  Calls prog 10 #[.string s,.slice A1 l1.length c1,.slice A2 l2.length c2] w (Rn w (.bool true)):=by
 have e:s=⟨s.data.toList.toArray⟩:=by rw[Array.toArray_toList]
 rw[e];exact Uf s.data.toList _ _ rfl rfl l1 l2 A1 A2 c1 c2 w hlan ⟨h1⟩ ⟨h2⟩
set_option maxRecDepth 100000
open Go.RowKit Go.Lib Go.Sort Go.ChangeShapes Go.WideShapes _root_.Go.Proofs.Tryz
theorem uo{P:Program}{W:World}{n nm:String}{d:DataW Unit}{r:List (String×DataW Unit)}{g ti:Nat}{ms:Array (String×TypeId)}(h:laidMet P ((n,.iface nm d)::r) W)(hg:P.globalNamed n=some g)(ht:(P.globals[g]?).map (·.type)=some ti)(hi:P.underlying ti=some (.interface ms)) :
  ∃te pe,W.cell? ⟨g,0,none⟩=some (.iface te pe):=by
 obtain⟨ps,⟨g0,t0,cs0,f0,p0,q0,hg0,ht0,hv0,hd0,_,e0⟩,_,hrows⟩:=h;obtain rfl:=Wb.inj (hg.symm.trans hg0);obtain rfl:=Wb.inj (ht.symm.trans ht0);obtain⟨l0⟩:=cs0;obtain⟨f1,u,v,e,_,_⟩:=iface_of_trod hi hd0;refine⟨u,v,?_⟩;simp only at e;subst e;simpa using World.var?_cell hg0 hv0 0
def EK:List (String×DataW Unit):=Rows.langReadsRow.laid
def Sn:List Int:=[0,1,56,2,57,49,28,3,61,58,42,50,38,29,17,4,62,47,59,36,45,43,51,22,53,39,33,30,24,18,12,5,63,55,48,27,60,41,37,16,46,35,44,21,52,32,23,11,54,26,40,15,34,20,31,10,25,14,19,9,13,8,7,6]
theorem Ot:1 < prog.globals.size:=of_decide_eq_true (by kernel_rfl)
theorem Oq:8 < prog.globals.size:=of_decide_eq_true (by kernel_rfl)
theorem Se:(((begin prog (fun _ _=>0) default).world.heap[8]?).bind Obj.row?).isSome=true:=by kernel_rfl
theorem GX:prog.globalNamed "errors.errorType"=some 0:=by kernel_rfl
theorem Na:(prog.cutTypes.find? (·.1== "internal/reflectlite.rtype")).map (·.2)=some 242:=by kernel_rfl
theorem types_size:prog.types.size=330:=by kernel_rfl
theorem QH:((VX 330).filter fun t=>prog.rowNamed t [101,114,114,111,114])=[48]:=by kernel_rfl
theorem uq{W:World}(h:handlesMet prog [("errors.errorType",Rows.laid_errors_errorType)] W):W.cell? ⟨0,0,none⟩=some (.iface 242 (.agg #[.pointer (some ⟨9,48,none⟩)])):=by
 obtain⟨name,u,ty,e1,e2,e3,e4,e5⟩:=h _ (VH.2 rfl);have en:name=[101,114,114,111,114]:=(Wb.inj e1).symm;subst en;obtain rfl:=Wb.inj (Na.symm.trans e2);have hm:ty∈(VX 330).filter fun t=>prog.rowNamed t [101,114,114,111,114]:=List.mem_filter.2 ⟨Wr.2 (by rw[←types_size];exact e3),e4⟩;rw[QH]at hm;obtain rfl:=VH.1 hm;have hh:typeHandle prog 48=.pointer (some ⟨9,48,none⟩):=by kernel_rfl
 rw[hh]at e5;simpa using World.var?_cell GX e5 0
theorem Ob{W:World}(hL:laidMetH prog EK W)(hS:W.ShapedOpen prog):ku W:=by
 have h':laidMet prog (("math/bits.deBruijn32tab",Rows.laid_math_bits_deBruijn32tab)::("math/bits.deBruijn64tab",Rows.laid_math_bits_deBruijn64tab)::("internal/strconv.uint64pow10",Rows.laid_internal_strconv_uint64pow10)::("unicode/utf8.acceptRanges",Rows.laid_unicode_utf8_acceptRanges)::("strconv.ErrRange",Rows.laid_strconv_ErrRange)::("strconv.ErrSyntax",Rows.laid_strconv_ErrSyntax)::("unicode/utf8.first",Rows.laid_unicode_utf8_first)::[]) W∧handlesMet prog [("errors.errorType",Rows.laid_errors_errorType)] W:=hL;obtain⟨t0,th⟩:=h';have t1:=laidMet.tail t0;have t2:=laidMet.tail t1;have t3:=laidMet.tail t2;have t4:=laidMet.tail t3;have t5:=laidMet.tail t4;have h8:Lib.TabIs prog W "math/bits.deBruijn64tab" .u8 Sn:=
  Lib.tabIs_of_head (show prog.globalNamed "math/bits.deBruijn64tab"=some 8 by kernel_rfl) (show(prog.globals[8]?).map (·.type)=some 304 by kernel_rfl) underlying304 underlying5 (by kernel_rfl) (by kernel_rfl) t1
 have h2:Lib.TabIs prog W "internal/strconv.uint64pow10" .u64 Lib.pow10Tab:=
  Lib.tabIs_of_head (show prog.globalNamed "internal/strconv.uint64pow10"=some 2 by kernel_rfl) (show(prog.globals[2]?).map (·.type)=some 285 by kernel_rfl) underlying285 underlying89 (by kernel_rfl) (by kernel_rfl) t2
 obtain⟨te2,Md,h4⟩:=uo t4 (show prog.globalNamed "strconv.ErrRange"=some 4 by kernel_rfl) (show(prog.globals[4]?).map (·.type)=some 48 by kernel_rfl) underlying48;obtain⟨te1,Ig,h3⟩:=uo t5 (show prog.globalNamed "strconv.ErrSyntax"=some 3 by kernel_rfl) (show(prog.globals[3]?).map (·.type)=some 48 by kernel_rfl) underlying48;have h1:=cell_of_shapedOpen_int (P:=prog) (g:=1) (t:=3) (zero:=#[.int .i64 0]) hS Ot (by kernel_rfl) rfl (by kernel_rfl) (by kernel_rfl) underlying3;have hlow:9≤W.heap.size:=by
  obtain⟨⟨z,t⟩,hz⟩:=Option.isSome_iff_exists.1 Se;obtain⟨cs,hh,_⟩:=hS.1 8 z t Oq hz;have:8 < W.heap.size:=by
   rcases Nat.lt_or_ge 8 W.heap.size with h|h
   ·exact h
   ·rw[Array.getElem?_eq_none h]at hh;cases hh
  omega
 exact⟨⟨h1,⟨_,h3,.inr ⟨_,_,rfl⟩⟩,⟨_,h4,.inr ⟨_,_,rfl⟩⟩,h2,h8.cell (by kernel_rfl) 15 (by decide),hlow⟩,uq th⟩
noncomputable def wv(os:Os):World:=
 let w0:=World.holding prog os ⟨#[],#[],[]⟩
 { w0 with heap:=w0.heap.modify 0 fun
   |.cells _ t frozen=>.cells #[.iface 242 (.agg #[(pt 9 48)])] t frozen
   |o=>o }
def rf:List (String×DataW Unit):=EK.filter fun x=>x.2.handleName?.isNone
noncomputable def ny(os:Os):World:=(wv os).layVars prog rf
theorem GC(os:Os):laidMet prog rf (ny os):=by
 have e1:(rf.filter fun x=>(rf.map (·.1)).contains x.1)=rf:=List.filter_eq_self.2 fun x hx=>Wj.2 (VV.2 ⟨x,hx,rfl⟩);have e2:(rf.filter fun x=>!(rf.map (·.1)).contains x.1)=[]:=List.filter_eq_nil_iff.2 fun x hx=>by rw[Wj.2 (VV.2 ⟨x,hx,rfl⟩)];simp
 exact laidMet_layVars (w0:=wv os) (rf.map (·.1)) [] (by rw[e1];rfl) (by rw[e1];kernel_rfl) (by rw[e1];kernel_rfl) (by rw[e2];exact LaidIn.none)
theorem Kk(os:Os)(args:Array Value):laidMetH prog EK ((ny os).forCall (fun _ _=>0) ⟨#[],args,[]⟩).memory:=
 laidMetH_of_parts ((GC os).of_heap (by simp[World.memory,World.forCall,Input.heap])) (by kernel_rfl)
end Go.Proofs.YtnncigmpcdehnaaGreatDoor
