import Derived.Test.YtnncigmpcdehnaaGreatDoorQd46
namespace Go.Proofs.YtnncigmpcdehnaaGreatDoor
set_option maxRecDepth 100000
open Go Go.RowKit Go.Lib Go.Sort
def tC:Bs:=[112,111,114,116,32,51,10,112,111,114,116,32,52,10,114,111,117,116,101,32,49,48,46,48,46,48,46,48,47,56,32,51,10,109,101,116,101,114,32,109,32,53,32,50,32,57,10,109,105,114,114,111,114,32,99,32,52,32,49,54,10,114,117,108,101,32,97,32,112,114,111,116,111,32,116,99,112,32,100,112,111,114,116,32,56,48,45,57,48,32,45,62,32,111,117,116,32,52,32,109,101,116,101,114,32,109,32,109,105,114,114,111,114,32,99,10,114,117,108,101,32,98,32,97,110,121,32,45,62,32,100,114,111,112,10,100,101,102,97,117,108,116,32,114,111,117,116,101,10]
def Ip:Bs:=[112,111,114,116,32,49,10,109,101,116,101,114,32,49,120,32,49,32,49,32,49,10]
theorem OC(u:Nat)(h:u < 10):ak 10 u=[sig u]:=bj h
theorem O4(u:Nat)(h:¬u < 10)(h2:u / 10 < 10):ak 10 u=[sig (u / 10),sig (u%10)]:=by rw[dy (by omega) h,bj h2]; rfl
theorem Pz(u:Nat)(h:u < 10):cE (u:Int)=[sig u]:=by rw[kn,bj h]
theorem El:qV wP=[49,48,46,48,46,48,46,48,47,56]:=by
 have hk:fA wP.v wP.n wP.k=true:=by decide
 unfold qV nY
 rw[if_pos hk]
 show fD (10*2^120)++47::ak 10 8=_
 unfold fD
 rw[show ah (10*2^120) 0=10 by decide,show ah (10*2^120) 1=0 by decide,show ah (10*2^120) 2=0 by decide,show ah (10*2^120) 3=0 by decide,O4 10 (by omega) (by omega),OC 0 (by omega),OC 8 (by omega)]
 rfl
theorem KM:ba wQ=true:=by decide
theorem Em:yd wQ=[112,114,111,116,111,32,116,99,112,32,100,112,111,114,116,32,56,48,45,57,48]:=by
 unfold yd
 rw[KM]
 show dw wQ=_
 unfold dw
 rw[if_neg (by decide)]
 have e:iK wQ=[dc,cQ 6,fR,cX (80,90)]:=rfl
 rw[e]
 have e1:cQ 6=oo:=rfl
 have e2:cX (80,90)=[56,48,45,57,48]:=by
  unfold cX
  rw[if_neg (by decide)]
  show ak 10 80++45::ak 10 90=_
  rw[O4 80 (by omega) (by omega),O4 90 (by omega) (by omega)];rfl
 rw[e1,e2];rfl
theorem nj:fy cW=tC:=by
 have i1:cE 3=[51]:=Pz 3 (by omega)
 have i2:cE 4=[52]:=Pz 4 (by omega)
 have i3:cE 16=[49,54]:=by
  have h:cE 16=ak 10 16:=kn 16
  rw[h,O4 16 (by omega) (by omega)];rfl
 have l0:eb 3=[km,[51]]:=by unfold eb;rw[i1]
 have l1:eb 4=[km,[52]]:=by unfold eb;rw[i2]
 have l2:eG ⟨wP,3⟩=[dx,[49,48,46,48,46,48,46,48,47,56],[51]]:=by
  show [dx,qV wP,cE 3]=_
  rw[El,i1]
 have l3:eJ ⟨[109],5,2,9⟩=[bU,[109],[53],[50],[57]]:=by
  show [bU,[109],ak 10 5,ak 10 2,ak 10 9]=_
  rw[OC 5 (by omega),OC 2 (by omega),OC 9 (by omega)];rfl
 have l4:cR ⟨[99],4,16⟩=[bp,[99],[52],[49,54]]:=by
  show [bp,[99],cE 4,cE 16]=_
  rw[i2,i3]
 have l5:eD ⟨[97],wQ,3,4,[109],[99]⟩=[gi,[97],[112,114,111,116,111,32,116,99,112,32,100,112,111,114,116,32,56,48,45,57,48],uU,oq,[52],bU,[109],bp,[99]]:=by
  unfold eD
  rw[Em,show aW 3 4=[oq,[52]] by unfold aW;rw[if_neg (by decide),if_neg (by decide),if_pos rfl,i2]]
  rfl
 have l6:eD ⟨[98],lz,2,0,[],[]⟩=[gi,[98],kZ,uU,lA]:=rfl
 have l7:j2 1=[bD,dx]:=rfl
 have e:ry cW=[eb 3,eb 4,eG ⟨wP,3⟩,eJ ⟨[109],5,2,9⟩,cR ⟨[99],4,16⟩,eD ⟨[97],wQ,3,4,[109],[99]⟩,eD ⟨[98],lz,2,0,[],[]⟩,j2 1]:=rfl
 unfold fy
 rw[e,l0,l1,l2,l3,l4,l5,l6,l7]
 rfl
theorem zl:tJ cW=0:=by decide
theorem KO:Nq cW:=by
 refine⟨fun n hn=>?_,fun r hr=>?_,fun m hm=>?_,fun m hm=>?_,fun r hr=>?_⟩
 ·simp[cW]at hn;omega
 ·simp[cW]at hr;subst hr;decide
 ·simp[cW]at hm;subst hm;decide
 ·simp[cW]at hm;subst hm;decide
 ·simp[cW]at hr
  rcases hr with rfl|rfl
  ·exact⟨⟨by decide,by decide,by decide,by decide,by decide,by decide,by decide,by decide,by decide⟩,by decide⟩
  ·exact⟨⟨by decide,by decide,by decide,by decide,by decide,by decide,by decide,by decide,by decide⟩,by decide⟩
theorem KN:pP cW:=(H7 KO).1 zl
theorem Bh:iB cW=(tC,0):=by
 have h:ui cW=0:=by
  unfold ui
  rw[nj,zl]
  decide
 unfold iB
 rw[if_pos h,nj]
theorem KK(hU:IH):jd tC=.ok cW:=by
 unfold jd
 rw[if_neg (by decide),←nj]
 exact M8 hU KN
theorem K5:jd Ip=.no 201 2:=by
 unfold jd
 rw[if_neg (by decide)]
 have e:bq Ip=[[112,111,114,116,32,49],[109,101,116,101,114,32,49,120,32,49,32,49,32,49],[]]:=rfl
 rw[e]
 have w1:aJ true [112,111,114,116,32,49]=eb 1:=by
  have i1:cE 1=[49]:=Pz 1 (by omega)
  show _=[km,cE 1]
  rw[i1];rfl
 rw[kK (by rw[w1];exact uE (by decide) (by decide) EY 0)]
 rw[fF]
 rfl
theorem MA:lz.Wf:=sM.1
theorem KL:wQ.Wf:=⟨by decide,by decide,by decide,by decide,by decide,by decide,by decide,by decide,by decide⟩
theorem wR:fz cW:=by
 refine⟨fun n hn=>?_,fun r hr=>?_,fun r hr=>?_,fun m hm=>?_,fun m hm=>?_,by unfold qT;decide⟩
 ·simp[cW]at hn;unfold qT;omega
 ·simp[cW]at hr;subst hr;exact⟨by decide,by unfold qT;decide,by unfold qT;decide⟩
 ·simp[cW]at hr
  rcases hr with rfl|rfl
  ·exact⟨by decide,KL,by unfold qT;decide,by unfold qT;decide,by decide,by decide⟩
  ·exact⟨by decide,MA,by unfold qT;decide,by unfold qT;decide,by decide,by decide⟩
 ·simp[cW]at hm;subst hm;exact⟨by decide,by decide,by decide,by decide⟩
 ·simp[cW]at hm;subst hm;exact⟨by decide,by unfold qT;decide,by unfold qT;decide⟩
theorem zj:gC cW:=⟨by decide,by decide,by decide,by decide,by decide⟩
theorem C7{β:Sx.Env}{m:Nat}{cf:CF}{s:fU}:(Sx.SV.dV (zA m cf)).den (aI β m cf s)=.agg (au cf s).toArray:=by
 show Value.agg ([(aI β m cf s).sl m,(aI β m cf s).sl (m+1),(aI β m cf s).sl (m+2),(aI β m cf s).sl (m+3),(aI β m cf s).sl (m+4),.int .i64 cf.br]:List Value).toArray=_
 simp[Sx.Env.sl,aI,au]
def zy(_m:Nat)(cf:CF)(ret:Sx.SV):Sx.cB:=⟨[],[],[],dj cf,ret,none⟩
theorem pz{b:Sx.bb}{row:Nat→Option Sx.Row}{m:Nat}(W:World)(β:Sx.Env)(_:Sx.dP b β W row []):Calls Tryz.prog 67 (([]:List Sx.SV).map (Sx.SV.den β)).toArray W (Sx.aP b β W row m (zy m cW (.dV (zA m cW)))):=by
 refine(Ek W).mono fun en w' hp=>?_
 rcases hp with⟨β',l,mem,⟨k0,k1,k2,k3,k4,rfl,q0,q1,q2,q3,q4⟩,he,hR⟩ | ⟨_,_,hf,_⟩
 ·obtain⟨ho,hn,n0,n1,n2,n3,n4⟩:=zz hR ⟨q0,q1,q2,q3,q4⟩ rfl
  refine .inl ⟨fun p hp=>(by cases hp),aI β m cW (kI β' k0 k1 k2 k3 k4),vp ho hn ?_ hR.aF⟩
  rw[C7,he]
  show Ending.returned (.agg ([β'.sl k0,β'.sl k1,β'.sl k2,β'.sl k3,β'.sl k4,.int .i64 cW.br]:List Value).toArray)=_
  unfold Sx.Env.sl
  rw[n0,n1,n2,n3,n4]
  rfl
 ·exact hf.elim
theorem GI{b:Sx.bb}{row:Nat→Option Sx.Row}{m:Nat}{s:Bs}{cf:CF}(hlan:lu b.w)(h9:∀k∈b.S,9≤k)(hs:jd s=.ok cf)(W:World)(β:Sx.Env)(hS:Sx.dP b β W row []):Calls Tryz.prog 22 (([.val (ab s)]:List Sx.SV).map (Sx.SV.den β)).toArray W (Sx.aP b β W row m (zy m cf (.nt [.row (zA m cf),.a (.v .nilIface)]))):=by
 refine(CB W (hlan.aF hS.aF h9) s).mono fun en w' hp=>?_
 rw[hs]at hp
 rcases hp with⟨β',l,mem,⟨k0,k1,k2,k3,k4,rfl,q0,q1,q2,q3,q4⟩,he,hR⟩ | ⟨_,_,hf,_⟩
 ·obtain⟨ho,hn,n0,n1,n2,n3,n4⟩:=zz hR ⟨q0,q1,q2,q3,q4⟩ rfl
  refine .inl ⟨fun p hp=>(by cases hp),aI β m cf (kI β' k0 k1 k2 k3 k4),vp ho hn ?_ hR.aF⟩
  have hd:=C7 (β:=β) (m:=m) (cf:=cf) (s:=kI β' k0 k1 k2 k3 k4)
  rw[he]
  show Ending.returned (.tuple #[.agg ([β'.sl k0,β'.sl k1,β'.sl k2,β'.sl k3,β'.sl k4,.int .i64 cf.br]:List Value).toArray,.nilIface])=.returned (.tuple #[(Sx.SV.dV (zA m cf)).den (aI β m cf (kI β' k0 k1 k2 k3 k4)),.nilIface])
  rw[hd]
  unfold Sx.Env.sl
  rw[n0,n1,n2,n3,n4]
  rfl
 ·exact hf.elim
def OL(m:Nat)(code line:Nat):Sx.cB:=⟨[],[],[],[⟨105,.aj (qK code line)⟩],.nt [.row (gA.map .v),.jZ 103 m 0],none⟩
theorem Cw{β:Sx.Env}{W w':World}{row:Nat→Option Sx.Row}{m k:Nat}{X:List Nat}{T:TypeId}{cs:List Value}{ret:Sx.SV}{e:Ending}(hb:aq w' k T cs)(hn:W.heap.size≤k)(hret:e=.returned (ret.den (β.fV m k)))(hc:ag [] W w'):Sx.ES β W row m ⟨X,[],[],[⟨T,.aj cs⟩],ret,none⟩ e w' (β.fV m k):=by
 refine⟨fun i hi=>⟨?_,rfl,rfl,rfl⟩,hret,fun q hq=>(by cases hq),fun i r hr=>?_,fun i r x hr hx=>?_,fun i i' r r' x hr hr' _ _=>?_,hc⟩
 ·show β i=if i=m then k else β i
  rw[if_neg (by omega)]
 ·match i,hr with
  | 0,hr=>
   cases hr
   show aq w' (if m+0=m then k else β (m+0)) T cs
   rw[Nat.add_zero,if_pos rfl]
   exact hb
 ·match i,hr with
  | 0,hr=>
   cases hr
   have hx:some (if m+0=m then k else β (m+0))=some x:=hx
   rw[Nat.add_zero,if_pos rfl]at hx
   cases hx
   exact .inr hn
 ·match i,i',hr,hr' with
  | 0,0,_,_=>rfl
theorem DU(β:Sx.Env):(gA.map Sx.Atom.v).map (Sx.Atom.den β)=gA:=by rw[List.map_map];exact List.map_id _
theorem GJ{b:Sx.bb}{row:Nat→Option Sx.Row}{m:Nat}{s:Bs}{code line:Nat}(hlan:lu b.w)(h9:∀k∈b.S,9≤k)(hs:jd s=.no code line)(W:World)(β:Sx.Env)(hS:Sx.dP b β W row []):Calls Tryz.prog 22 (([.val (ab s)]:List Sx.SV).map (Sx.SV.den β)).toArray W (Sx.aP b β W row m (OL m code line)):=by
 refine(CB W (hlan.aF hS.aF h9) s).mono fun en w' hp=>?_
 rw[hs]at hp
 rcases hp with⟨β',l,mem,⟨j,rfl,hj⟩,he,hR⟩ | ⟨_,_,hf,_⟩
 ·have r:=hR.held j _ hj
  have hn:=hR.new j _ (β' j) hj rfl
  refine .inl ⟨fun p hp=>(by cases hp),β.fV m (β' j),Cw r ?_ ?_ hR.aF⟩
  ·rcases hn with h|h
   ·cases h
   ·exact h
  ·rw[he]
   show Ending.returned (.tuple #[.agg gA.toArray,.iface 103 (.pointer (some ⟨β' j,0,none⟩))])=.returned (.tuple #[.agg ((gA.map Sx.Atom.v).map (Sx.Atom.den _)).toArray,.iface 103 (.pointer (some ⟨if m=m then β' j else β m,0,none⟩))])
   rw[DU,if_pos rfl]
 ·exact hf.elim
def ja(m:Nat):List Nat:=[m,m+1,m+2,m+3,m+4]
theorem AG{b:Sx.bb}{mem:List Sx.Row}{i m:Nat}{cf:CF}(hlan:dJ b.w)(h9:∀k∈b.S,9≤k)(h:IP mem i (i+1) (i+2) (i+3) (i+4) cf)(hw:fz cf)(hf:gC cf)(hB:(fy cf).length≤140737488355328)(W:World)(β:Sx.Env)(hS:Sx.dP b β W (Sx.rowAt mem) (ja i)) :
  Calls Tryz.prog 28 (([.dV (zA i cf)]:List Sx.SV).map (Sx.SV.den β)).toArray W (Sx.aP b β W (Sx.rowAt mem) m ⟨ja i,[],[],[],.val (.tuple #[ab (iB cf).1,.int .i64 (iB cf).2]),none⟩):=by
 obtain⟨hr,hd⟩:=tH hS h (fun k hk=>hk)
 show Calls Tryz.prog 28 #[(Sx.SV.dV (zA i cf)).den β] W _
 rw[hd]
 exact(JP (hlan.aF hS.aF h9) cf _ hr hw hf hB).mono fun en w' ⟨he,hc⟩=>.inl ⟨fun p hp=>(by cases hp),β,Sx.dF (v:=.tuple #[ab (iB cf).1,.int .i64 (iB cf).2]) rfl rfl he (fun q hq=>by cases hq) hc⟩
theorem Dr{b:Sx.bb}{mem:List Sx.Row}{i j m:Nat}{c d:CF}(hi:IP mem i (i+1) (i+2) (i+3) (i+4) c)(hj:IP mem j (j+1) (j+2) (j+3) (j+4) d)(wc:fz c)(wd:fz d)(fc:gC c)(W:World)(β:Sx.Env)(hS:Sx.dP b β W (Sx.rowAt mem) (ja i++ja j)) :
  Calls Tryz.prog 25 (([.dV (zA i c),.dV (zA j d)]:List Sx.SV).map (Sx.SV.den β)).toArray W (Sx.aP b β W (Sx.rowAt mem) m ⟨ja i++ja j,[],[],[],.val (.bool (cg c d)),none⟩):=by
 obtain⟨hr,hd⟩:=tH hS hi (fun k hk=>List.mem_append_left _ hk)
 obtain⟨hr2,hd2⟩:=tH hS hj (fun k hk=>List.mem_append_right _ hk)
 show Calls Tryz.prog 25 #[(Sx.SV.dV (zA i c)).den β,(Sx.SV.dV (zA j d)).den β] W _
 rw[hd,hd2]
 exact(L7 c d _ _ hr hr2 wc wd fc).mono fun en w' ⟨he,hc⟩=>.inl ⟨fun p hp=>(by cases hp),β,Sx.dF (v:=.bool (cg c d)) rfl rfl he (fun q hq=>by cases hq) hc⟩
def PW(code line:Nat)(l:List Sx.SV)(mem:List Sx.Row):Prop:=∃k,l=[.jZ 103 k 0]∧mem[k]?=some ⟨105,.aj (qK code line)⟩
theorem K7(w:World)(hlan:lu w):Calls Tryz.prog 68 #[] w (Sx.cd ⟨w,[],fun _ _=>False⟩ (PW 201 2)):=by
 have c4:=fun W β (hS:Sx.dP ⟨w,[],fun _ _=>False⟩ β W (Sx.rowAt []) [])=>GJ (m:=0) hlan (fun k hk=>by cases hk) K5 W β hS
 have z0:PW 201 2 [.jZ 103 0 0] [⟨105,.aj (qK 201 2)⟩,⟨46,.dA (gA.map .val)⟩]:=⟨0,rfl,rfl⟩
 refine Sx.aY (args:=[]) (ec w) [(4,.an (OL 0 201 2))] [] (by kernel_rfl) Tryz.func68 rfl (Nat.le_of_ble_eq_true rfl) rfl ?_
 exact Eq.mp (by kernel_rfl) (And.intro c4 z0)
theorem Bx{b:Sx.bb}{row:Nat→Option Sx.Row}{m:Nat}(hlan:lu b.w)(h9:∀k∈b.S,9≤k)(W:World)(β:Sx.Env)(hS:Sx.dP b β W row []):Calls Tryz.prog 68 (([]:List Sx.SV).map (Sx.SV.den β)).toArray W (Sx.aP b β W row m ⟨[],[],[],[⟨105,.aj (qK 201 2)⟩],.jZ 103 m 0,none⟩):=by
 refine(K7 W (hlan.aF hS.aF h9)).mono fun en w' hp=>?_
 rcases hp with⟨β',l,mem,⟨j,rfl,hj⟩,he,hR⟩ | ⟨_,_,hf,_⟩
 ·have r:=hR.held j _ hj
  have hn:=hR.new j _ (β' j) hj rfl
  refine .inl ⟨fun p hp=>(by cases hp),β.fV m (β' j),Cw r ?_ ?_ hR.aF⟩
  ·rcases hn with h|h
   ·cases h
   ·exact h
  ·rw[he]
   show Ending.returned (.iface 103 (.pointer (some ⟨β' j,0,none⟩)))=.returned (.iface 103 (.pointer (some ⟨if m=m then β' j else β m,0,none⟩)))
   rw[if_pos rfl]
 ·exact hf.elim
theorem K9(w:World)(hlan:lu w):Calls Tryz.prog 26 #[] w fun e w'=>e=.returned (.bool true)∧ag [] w w':=by
 have no9:∀k∈([]:List Nat),9≤k:=fun k hk=>by cases hk
 have c8:=fun W β (hS:Sx.dP ⟨w,[],fun _ _=>False⟩ β W (Sx.rowAt []) [])=>pz (m:=0) W β hS
 have c9:=fun W β (hS:Sx.dP ⟨w,[],fun _ _=>False⟩ β W (Sx.rowAt (dj cW)) (ja 0))=>(show Calls Tryz.prog 28 (([.dV (zA 0 cW)]:List Sx.SV).map (Sx.SV.den β)).toArray W (Sx.aP ⟨w,[],fun _ _=>False⟩ β W (Sx.rowAt (dj cW)) 5 ⟨ja 0,[],[],[],.val (.tuple #[ab tC,.int .i64 0]),none⟩)from by
  have:=AG (m:=5) hlan.sW no9 (i:=0) ⟨rfl,rfl,rfl,rfl,rfl⟩ wR zj (by rw[nj];decide) W β hS
  rw[Bh]at this
  exact this)
 have c13:=fun W β (hS:Sx.dP ⟨w,[],fun _ _=>False⟩ β W (Sx.rowAt (dj cW)) [])=>GI (m:=5) hlan no9 (KK (Md hlan.sW)) W β hS
 obtain⟨R10,hR10⟩:∃R10:List Sx.Row,R10=dj cW++(dj cW++[⟨46,.dA [.own 5,.own 6,.own 7,.own 8,.own 9,.val (.int .i64 1)]⟩]):=⟨_,rfl⟩
 have c17:=fun W β (hS:Sx.dP ⟨w,[],fun _ _=>False⟩ β W (Sx.rowAt R10) [])=>Bx (m:=11) hlan no9 W β hS
 have c18:=fun W β (hS:Sx.dP ⟨w,[],fun _ _=>False⟩ β W (Sx.rowAt (R10++[⟨105,.aj (qK 201 2)⟩])) [11])=>Di (m:=12) (j:=11) (code:=201) (place:=2) hlan no9 (by rw[hR10];rfl) W β hS
 have c33:=fun W β (hS:Sx.dP ⟨w,[],fun _ _=>False⟩ β W (Sx.rowAt (R10++[⟨105,.aj (qK 201 2)⟩])) [])=>pz (m:=12) W β hS
 have c34:=fun W β (hS:Sx.dP ⟨w,[],fun _ _=>False⟩ β W (Sx.rowAt (R10++(⟨105,.aj (qK 201 2)⟩::dj cW))) (ja 5++ja 12))=>(show Calls Tryz.prog 25 (([.dV (zA 5 cW),.dV (zA 12 cW)]:List Sx.SV).map (Sx.SV.den β)).toArray W (Sx.aP ⟨w,[],fun _ _=>False⟩ β W (Sx.rowAt (R10++(⟨105,.aj (qK 201 2)⟩::dj cW))) 17 ⟨ja 5++ja 12,[],[],[],.val (.bool true),none⟩)from by
  have:=Dr (m:=17) (i:=5) (j:=12) (c:=cW) (d:=cW) (mem:=R10++(⟨105,.aj (qK 201 2)⟩::dj cW)) (by rw[hR10];exact⟨rfl,rfl,rfl,rfl,rfl⟩) (by rw[hR10];exact⟨rfl,rfl,rfl,rfl,rfl⟩) wR wR zj W β hS
  rw[show cg cW cW=true from(bH _ _).2 rfl]at this
  exact this)
 subst hR10
 have z0:Value.bool true=.bool true:=rfl
 have z1:Value.bool true=.bool true:=rfl
 refine Sx.aG (args:=[]) [(8,.an (zy 0 cW (.dV (zA 0 cW)))),(9,.an ⟨ja 0,[],[],[],.val (.tuple #[ab tC,.int .i64 0]),none⟩),(13,.an (zy 5 cW (.nt [.row (zA 5 cW),.a (.v .nilIface)]))),(17,.an ⟨[],[],[],[⟨105,.aj (qK 201 2)⟩],.jZ 103 11 0,none⟩),(18,.an (Lq 11 201 2)),(33,.an (zy 12 cW (.dV (zA 12 cW)))),(34,.an ⟨ja 5++ja 12,[],[],[],.val (.bool true),none⟩),(600004,.ix)] [] (by kernel_rfl) Tryz.func26 rfl (Nat.le_of_ble_eq_true rfl) ?_
 exact Eq.mp (by kernel_rfl) (Sx.t8 c8 c9 c13 c17 c18 (Sx.t2 c33 c34 z0) c33 c34 z1)
end Go.Proofs.YtnncigmpcdehnaaGreatDoor
