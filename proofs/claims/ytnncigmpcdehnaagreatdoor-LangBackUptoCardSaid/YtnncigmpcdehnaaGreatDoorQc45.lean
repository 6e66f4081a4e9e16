import Derived.Test.YtnncigmpcdehnaaGreatDoorQc44
namespace Go.Proofs.YtnncigmpcdehnaaGreatDoor
set_option maxRecDepth 100000
open Go Go.RowKit Go.Lib Go.Sort
def tq:Bs:=[112,111,114,116,32,51,10,112,111,114,116,32,52,10,114,111,117,116,101,32,49,48,46,48,46,48,46,48,47,56,32,51,10,109,101,116,101,114,32,109,32,53,32,50,32,57,10,109,105,114,114,111,114,32,99,32,52,32,49,54,10,114,117,108,101,32,97,32,112,114,111,116,111,32,116,99,112,32,100,112,111,114,116,32,56,48,45,57,48,32,45,62,32,111,117,116,32,52,32,109,101,116,101,114,32,109,32,109,105,114,114,111,114,32,99,10,114,117,108,101,32,98,32,97,110,121,32,45,62,32,100,114,111,112,10,100,101,102,97,117,108,116,32,114,111,117,116,101,10]
def Ij:Bs:=[112,111,114,116,32,49,10,109,101,116,101,114,32,49,120,32,49,32,49,32,49,10]
theorem OH(u:Nat)(h:u < 10):au 10 u=[sig u]:=bT h
theorem O5(u:Nat)(h:¬u < 10)(h2:u / 10 < 10):au 10 u=[sig (u / 10),sig (u%10)]:=by rw[eB (by omega) h,bT h2]; rfl
theorem Py(u:Nat)(h:u < 10):cn (u:Int)=[sig u]:=by rw[km,bT h]
theorem Eh:rU wB=[49,48,46,48,46,48,46,48,47,56]:=by
 have hk:gr wB.v wB.n wB.k=true:=by decide
 unfold rU rY
 rw[if_pos hk]
 show gB (10*2^120)++47::au 10 8=_
 unfold gB
 rw[show ao (10*2^120) 0=10 by decide,show ao (10*2^120) 1=0 by decide,show ao (10*2^120) 2=0 by decide,show ao (10*2^120) 3=0 by decide,O5 10 (by omega) (by omega),OH 0 (by omega),OH 8 (by omega)]
 rfl
theorem KI:bj wD=true:=by decide
theorem Ei:xI wD=[112,114,111,116,111,32,116,99,112,32,100,112,111,114,116,32,56,48,45,57,48]:=by
 unfold xI
 rw[KI]
 show eK wD=_
 unfold eK
 rw[if_neg (by decide)]
 have e:fJ wD=[dv,dK 6,gi,eu (80,90)]:=rfl
 rw[e]
 have e1:dK 6=oQ:=rfl
 have e2:eu (80,90)=[56,48,45,57,48]:=by
  unfold eu
  rw[if_neg (by decide)]
  show au 10 80++45::au 10 90=_
  rw[O5 80 (by omega) (by omega),O5 90 (by omega) (by omega)];rfl
 rw[e1,e2];rfl
theorem mZ:cJ dc=tq:=by
 have i1:cn 3=[51]:=Py 3 (by omega)
 have i2:cn 4=[52]:=Py 4 (by omega)
 have i3:cn 16=[49,54]:=by
  have h:cn 16=au 10 16:=km 16
  rw[h,O5 16 (by omega) (by omega)];rfl
 have l0:eh 3=[bX,[51]]:=by unfold eh;rw[i1]
 have l1:eh 4=[bX,[52]]:=by unfold eh;rw[i2]
 have l2:eP ⟨wB,3⟩=[aT,[49,48,46,48,46,48,46,48,47,56],[51]]:=by
  show [aT,rU wB,cn 3]=_
  rw[Eh,i1]
 have l3:eR ⟨[109],5,2,9⟩=[aH,[109],[53],[50],[57]]:=by
  show [aH,[109],au 10 5,au 10 2,au 10 9]=_
  rw[OH 5 (by omega),OH 2 (by omega),OH 9 (by omega)];rfl
 have l4:cX ⟨[99],4,16⟩=[ax,[99],[52],[49,54]]:=by
  show [ax,[99],cn 4,cn 16]=_
  rw[i2,i3]
 have l5:dJ ⟨[97],wD,3,4,[109],[99]⟩=[dB,[97],[112,114,111,116,111,32,116,99,112,32,100,112,111,114,116,32,56,48,45,57,48],nU,nV,[52],aH,[109],ax,[99]]:=by
  unfold dJ
  rw[Ei,show aZ 3 4=[nV,[52]] by unfold aZ;rw[if_neg (by decide),if_neg (by decide),if_pos rfl,i2]]
  rfl
 have l6:dJ ⟨[98],fL,2,0,[],[]⟩=[dB,[98],kZ,nU,lr]:=rfl
 have l7:iA 1=[aV,aT]:=rfl
 have e:jL dc=[eh 3,eh 4,eP ⟨wB,3⟩,eR ⟨[109],5,2,9⟩,cX ⟨[99],4,16⟩,dJ ⟨[97],wD,3,4,[109],[99]⟩,dJ ⟨[98],fL,2,0,[],[]⟩,iA 1]:=rfl
 unfold cJ
 rw[e,l0,l1,l2,l3,l4,l5,l6,l7]
 rfl
theorem yS:pb dc=0:=by decide
theorem KK:Lf dc:=by
 refine⟨fun n hn=>?_,fun r hr=>?_,fun m hm=>?_,fun m hm=>?_,fun r hr=>?_⟩
 ·simp[dc]at hn;omega
 ·simp[dc]at hr;subst hr;decide
 ·simp[dc]at hm;subst hm;decide
 ·simp[dc]at hm;subst hm;decide
 ·simp[dc]at hr
  rcases hr with rfl|rfl
  ·exact⟨⟨by decide,by decide,by decide,by decide,by decide,by decide,by decide,by decide,by decide⟩,by decide⟩
  ·exact⟨⟨by decide,by decide,by decide,by decide,by decide,by decide,by decide,by decide,by decide⟩,by decide⟩
theorem KJ:ov dc:=(tB KK).1 yS
theorem A5:dt dc=(tq,0):=by
 have h:ly dc=0:=by
  unfold ly
  rw[mZ,yS]
  decide
 unfold dt
 rw[if_pos h,mZ]
theorem KG(hU:EN):gD tq=.ok dc:=by
 unfold gD
 rw[if_neg (by decide),←mZ]
 exact Ik hU KJ
theorem KY:gD Ij=.no 201 2:=by
 unfold gD
 rw[if_neg (by decide)]
 have e:bA Ij=[[112,111,114,116,32,49],[109,101,116,101,114,32,49,120,32,49,32,49,32,49],[]]:=rfl
 rw[e]
 have w1:aI true [112,111,114,116,32,49]=eh 1:=by
  have i1:cn 1=[49]:=Py 1 (by omega)
  show _=[bX,cn 1]
  rw[i1];rfl
 rw[kQ (by rw[w1];exact uy (by decide) (by decide) CX 0)]
 rw[fz]
 rfl
theorem Mx:fL.Wf:=sC.1
theorem KH:wD.Wf:=⟨by decide,by decide,by decide,by decide,by decide,by decide,by decide,by decide,by decide⟩
theorem wE:dL dc:=by
 refine⟨fun n hn=>?_,fun r hr=>?_,fun r hr=>?_,fun m hm=>?_,fun m hm=>?_,by unfold nD;decide⟩
 ·simp[dc]at hn;unfold nD;omega
 ·simp[dc]at hr;subst hr;exact⟨by decide,by unfold nD;decide,by unfold nD;decide⟩
 ·simp[dc]at hr
  rcases hr with rfl|rfl
  ·exact⟨by decide,KH,by unfold nD;decide,by unfold nD;decide,by decide,by decide⟩
  ·exact⟨by decide,Mx,by unfold nD;decide,by unfold nD;decide,by decide,by decide⟩
 ·simp[dc]at hm;subst hm;exact⟨by decide,by decide,by decide,by decide⟩
 ·simp[dc]at hm;subst hm;exact⟨by decide,by unfold nD;decide,by unfold nD;decide⟩
theorem yR:ef dc:=⟨by decide,by decide,by decide,by decide,by decide⟩
theorem CW{β:Sx.Env}{m:Nat}{cf:CF}{s:eJ}:(Sx.SV.db (vf m cf)).den (aL β m cf s)=.agg (an cf s).toArray:=by
 show Value.agg ([(aL β m cf s).sl m,(aL β m cf s).sl (m+1),(aL β m cf s).sl (m+2),(aL β m cf s).sl (m+3),(aL β m cf s).sl (m+4),.int .i64 cf.a8]:List Value).toArray=_
 simp[Sx.Env.sl,aL,an]
def ve(_m:Nat)(cf:CF)(ret:Sx.SV):Sx.cj:=⟨[],[],[],aX cf,ret,none⟩
theorem oX{b:Sx.a7}{row:Nat→Option Sx.Row}{m:Nat}(W:World)(β:Sx.Env)(_:Sx.dz b β W row []):Calls Tryz.prog 67 (([]:List Sx.SV).map (Sx.SV.den β)).toArray W (Sx.aQ b β W row m (ve m dc (.db (vf m dc)))):=by
 refine(Eg W).mono fun en w' hp=>?_
 rcases hp with⟨β',l,mem,⟨k0,k1,k2,k3,k4,rfl,q0,q1,q2,q3,q4⟩,he,hR⟩ | ⟨_,_,hf,_⟩
 ·obtain⟨ho,hn,n0,n1,n2,n3,n4⟩:=zb hR ⟨q0,q1,q2,q3,q4⟩ rfl
  refine .inl ⟨fun p hp=>(by cases hp),aL β m dc (iq β' k0 k1 k2 k3 k4),vc ho hn ?_ hR.az⟩
  rw[CW,he]
  show Ending.returned (.agg ([β'.sl k0,β'.sl k1,β'.sl k2,β'.sl k3,β'.sl k4,.int .i64 dc.a8]:List Value).toArray)=_
  unfold Sx.Env.sl
  rw[n0,n1,n2,n3,n4]
  rfl
 ·exact hf.elim
theorem yd{b:Sx.a7}{row:Nat→Option Sx.Row}{m:Nat}{s:Bs}{cf:CF}(hlan:jo b.w)(h9:∀k∈b.S,9≤k)(hs:gD s=.ok cf)(W:World)(β:Sx.Env)(hS:Sx.dz b β W row []):Calls Tryz.prog 22 (([.val (ab s)]:List Sx.SV).map (Sx.SV.den β)).toArray W (Sx.aQ b β W row m (ve m cf (.lB [.row (vf m cf),.a (.v .nilIface)]))):=by
 refine(Cu W (hlan.az hS.az h9) s).mono fun en w' hp=>?_
 rw[hs]at hp
 rcases hp with⟨β',l,mem,⟨k0,k1,k2,k3,k4,rfl,q0,q1,q2,q3,q4⟩,he,hR⟩ | ⟨_,_,hf,_⟩
 ·obtain⟨ho,hn,n0,n1,n2,n3,n4⟩:=zb hR ⟨q0,q1,q2,q3,q4⟩ rfl
  refine .inl ⟨fun p hp=>(by cases hp),aL β m cf (iq β' k0 k1 k2 k3 k4),vc ho hn ?_ hR.az⟩
  have hd:=CW (β:=β) (m:=m) (cf:=cf) (s:=iq β' k0 k1 k2 k3 k4)
  rw[he]
  show Ending.returned (.tuple #[.agg ([β'.sl k0,β'.sl k1,β'.sl k2,β'.sl k3,β'.sl k4,.int .i64 cf.a8]:List Value).toArray,.nilIface])=.returned (.tuple #[(Sx.SV.db (vf m cf)).den (aL β m cf (iq β' k0 k1 k2 k3 k4)),.nilIface])
  rw[hd]
  unfold Sx.Env.sl
  rw[n0,n1,n2,n3,n4]
  rfl
 ·exact hf.elim
def OP(m:Nat)(code line:Nat):Sx.cj:=⟨[],[],[],[⟨105,.aj (qA code line)⟩],.lB [.row (gE.map .v),.jX 103 m 0],none⟩
theorem Cr{β:Sx.Env}{W w':World}{row:Nat→Option Sx.Row}{m k:Nat}{X:List Nat}{T:TypeId}{cs:List Value}{ret:Sx.SV}{e:Ending}(hb:aq w' k T cs)(hn:W.heap.size≤k)(hret:e=.returned (ret.den (β.fS m k)))(hc:ah [] W w'):Sx.Bz β W row m ⟨X,[],[],[⟨T,.aj cs⟩],ret,none⟩ e w' (β.fS m k):=by
 refine⟨fun i hi=>⟨?_,rfl,rfl,rfl⟩,hret,fun q hq=>(by cases hq),fun i r hr=>?_,fun i r x hr hx=>?_,fun i i' r r' x hr hr' _ _=>?_,hc⟩
 ·show β i=if i=m then k else β i
  rw[if_neg (by omega)]
 ·match i,hr with
  | 0,hr=>
   cases hr
   show aq w' (if m+0=m then k else β (m+0)) T cs
   rw[Nat.add_zero,if_pos rfl]
   exact hb
 ·match i,hr with
  | 0,hr=>
   cases hr
   have hx:some (if m+0=m then k else β (m+0))=some x:=hx
   rw[Nat.add_zero,if_pos rfl]at hx
   cases hx
   exact .inr hn
 ·match i,i',hr,hr' with
  | 0,0,_,_=>rfl
theorem DO(β:Sx.Env):(gE.map Sx.Atom.v).map (Sx.Atom.den β)=gE:=by rw[List.map_map];exact List.map_id _
theorem Gw{b:Sx.a7}{row:Nat→Option Sx.Row}{m:Nat}{s:Bs}{code line:Nat}(hlan:jo b.w)(h9:∀k∈b.S,9≤k)(hs:gD s=.no code line)(W:World)(β:Sx.Env)(hS:Sx.dz b β W row []):Calls Tryz.prog 22 (([.val (ab s)]:List Sx.SV).map (Sx.SV.den β)).toArray W (Sx.aQ b β W row m (OP m code line)):=by
 refine(Cu W (hlan.az hS.az h9) s).mono fun en w' hp=>?_
 rw[hs]at hp
 rcases hp with⟨β',l,mem,⟨j,rfl,hj⟩,he,hR⟩ | ⟨_,_,hf,_⟩
 ·have r:=hR.held j _ hj
  have hn:=hR.new j _ (β' j) hj rfl
  refine .inl ⟨fun p hp=>(by cases hp),β.fS m (β' j),Cr r ?_ ?_ hR.az⟩
  ·rcases hn with h|h
   ·cases h
   ·exact h
  ·rw[he]
   show Ending.returned (.tuple #[.agg gE.toArray,.iface 103 (.pointer (some ⟨β' j,0,none⟩))])=.returned (.tuple #[.agg ((gE.map Sx.Atom.v).map (Sx.Atom.den _)).toArray,.iface 103 (.pointer (some ⟨if m=m then β' j else β m,0,none⟩))])
   rw[DO,if_pos rfl]
 ·exact hf.elim
def ec(m:Nat):List Nat:=[m,m+1,m+2,m+3,m+4]
theorem Ak{b:Sx.a7}{mem:List Sx.Row}{i m:Nat}{cf:CF}(hlan:dy b.w)(h9:∀k∈b.S,9≤k)(h:IJ mem i (i+1) (i+2) (i+3) (i+4) cf)(hw:dL cf)(hf:ef cf)(hB:(cJ cf).length≤140737488355328)(W:World)(β:Sx.Env)(hS:Sx.dz b β W (Sx.rowAt mem) (ec i)) :
  Calls Tryz.prog 28 (([.db (vf i cf)]:List Sx.SV).map (Sx.SV.den β)).toArray W (Sx.aQ b β W (Sx.rowAt mem) m ⟨ec i,[],[],[],.val (.tuple #[ab (dt cf).1,.int .i64 (dt cf).2]),none⟩):=by
 obtain⟨hr,hd⟩:=o8 hS h (fun k hk=>hk)
 show Calls Tryz.prog 28 #[(Sx.SV.db (vf i cf)).den β] W _
 rw[hd]
 exact(Cc (hlan.az hS.az h9) cf _ hr hw hf hB).mono fun en w' ⟨he,hc⟩=>.inl ⟨fun p hp=>(by cases hp),β,Sx.cN (v:=.tuple #[ab (dt cf).1,.int .i64 (dt cf).2]) rfl rfl he (fun q hq=>by cases hq) hc⟩
theorem Ds{b:Sx.a7}{mem:List Sx.Row}{i j m:Nat}{c d:CF}(hi:IJ mem i (i+1) (i+2) (i+3) (i+4) c)(hj:IJ mem j (j+1) (j+2) (j+3) (j+4) d)(wc:dL c)(wd:dL d)(fc:ef c)(W:World)(β:Sx.Env)(hS:Sx.dz b β W (Sx.rowAt mem) (ec i++ec j)) :
  Calls Tryz.prog 25 (([.db (vf i c),.db (vf j d)]:List Sx.SV).map (Sx.SV.den β)).toArray W (Sx.aQ b β W (Sx.rowAt mem) m ⟨ec i++ec j,[],[],[],.val (.bool (b8 c d)),none⟩):=by
 obtain⟨hr,hd⟩:=o8 hS hi (fun k hk=>List.mem_append_left _ hk)
 obtain⟨hr2,hd2⟩:=o8 hS hj (fun k hk=>List.mem_append_right _ hk)
 show Calls Tryz.prog 25 #[(Sx.SV.db (vf i c)).den β,(Sx.SV.db (vf j d)).den β] W _
 rw[hd,hd2]
 exact(Fv c d _ _ hr hr2 wc wd fc).mono fun en w' ⟨he,hc⟩=>.inl ⟨fun p hp=>(by cases hp),β,Sx.cN (v:=.bool (b8 c d)) rfl rfl he (fun q hq=>by cases hq) hc⟩
def P3(code line:Nat)(l:List Sx.SV)(mem:List Sx.Row):Prop:=∃k,l=[.jX 103 k 0]∧mem[k]?=some ⟨105,.aj (qA code line)⟩
theorem K0(w:World)(hlan:jo w):Calls Tryz.prog 68 #[] w (Sx.bJ ⟨w,[],fun _ _=>False⟩ (P3 201 2)):=by
 have c4:=fun W β (hS:Sx.dz ⟨w,[],fun _ _=>False⟩ β W (Sx.rowAt []) [])=>Gw (m:=0) hlan (fun k hk=>by cases hk) KY W β hS
 have z0:P3 201 2 [.jX 103 0 0] [⟨105,.aj (qA 201 2)⟩,⟨46,.dm (gE.map .val)⟩]:=⟨0,rfl,rfl⟩
 refine Sx.aW (args:=[]) (dE w) [(4,.ai (OP 0 201 2))] [] (by kernel_rfl) Tryz.func68 rfl (Nat.le_of_ble_eq_true rfl) rfl ?_
 exact Eq.mp (by kernel_rfl) (And.intro c4 z0)
theorem Bk{b:Sx.a7}{row:Nat→Option Sx.Row}{m:Nat}(hlan:jo b.w)(h9:∀k∈b.S,9≤k)(W:World)(β:Sx.Env)(hS:Sx.dz b β W row []):Calls Tryz.prog 68 (([]:List Sx.SV).map (Sx.SV.den β)).toArray W (Sx.aQ b β W row m ⟨[],[],[],[⟨105,.aj (qA 201 2)⟩],.jX 103 m 0,none⟩):=by
 refine(K0 W (hlan.az hS.az h9)).mono fun en w' hp=>?_
 rcases hp with⟨β',l,mem,⟨j,rfl,hj⟩,he,hR⟩ | ⟨_,_,hf,_⟩
 ·have r:=hR.held j _ hj
  have hn:=hR.new j _ (β' j) hj rfl
  refine .inl ⟨fun p hp=>(by cases hp),β.fS m (β' j),Cr r ?_ ?_ hR.az⟩
  ·rcases hn with h|h
   ·cases h
   ·exact h
  ·rw[he]
   show Ending.returned (.iface 103 (.pointer (some ⟨β' j,0,none⟩)))=.returned (.iface 103 (.pointer (some ⟨if m=m then β' j else β m,0,none⟩)))
   rw[if_pos rfl]
 ·exact hf.elim
theorem Db(w:World)(hlan:jo w):Calls Tryz.prog 26 #[] w fun e w'=>e=.returned (.bool true)∧ah [] w w':=by
 have no9:∀k∈([]:List Nat),9≤k:=fun k hk=>by cases hk
 have c8:=fun W β (hS:Sx.dz ⟨w,[],fun _ _=>False⟩ β W (Sx.rowAt []) [])=>oX (m:=0) W β hS
 have c9:=fun W β (hS:Sx.dz ⟨w,[],fun _ _=>False⟩ β W (Sx.rowAt (aX dc)) (ec 0))=>(show Calls Tryz.prog 28 (([.db (vf 0 dc)]:List Sx.SV).map (Sx.SV.den β)).toArray W (Sx.aQ ⟨w,[],fun _ _=>False⟩ β W (Sx.rowAt (aX dc)) 5 ⟨ec 0,[],[],[],.val (.tuple #[ab tq,.int .i64 0]),none⟩)from by
  have:=Ak (m:=5) hlan.pX no9 (i:=0) ⟨rfl,rfl,rfl,rfl,rfl⟩ wE yR (by rw[mZ];decide) W β hS
  rw[A5]at this
  exact this)
 have c13:=fun W β (hS:Sx.dz ⟨w,[],fun _ _=>False⟩ β W (Sx.rowAt (aX dc)) [])=>yd (m:=5) hlan no9 (KG (Ai hlan.pX)) W β hS
 obtain⟨R10,hR10⟩:∃R10:List Sx.Row,R10=aX dc++(aX dc++[⟨46,.dm [.own 5,.own 6,.own 7,.own 8,.own 9,.val (.int .i64 1)]⟩]):=⟨_,rfl⟩
 have c17:=fun W β (hS:Sx.dz ⟨w,[],fun _ _=>False⟩ β W (Sx.rowAt R10) [])=>Bk (m:=11) hlan no9 W β hS
 have c18:=fun W β (hS:Sx.dz ⟨w,[],fun _ _=>False⟩ β W (Sx.rowAt (R10++[⟨105,.aj (qA 201 2)⟩])) [11])=>Dh (m:=12) (j:=11) (code:=201) (place:=2) hlan no9 (by rw[hR10];rfl) W β hS
 have c33:=fun W β (hS:Sx.dz ⟨w,[],fun _ _=>False⟩ β W (Sx.rowAt (R10++[⟨105,.aj (qA 201 2)⟩])) [])=>oX (m:=12) W β hS
 have c34:=fun W β (hS:Sx.dz ⟨w,[],fun _ _=>False⟩ β W (Sx.rowAt (R10++(⟨105,.aj (qA 201 2)⟩::aX dc))) (ec 5++ec 12))=>(show Calls Tryz.prog 25 (([.db (vf 5 dc),.db (vf 12 dc)]:List Sx.SV).map (Sx.SV.den β)).toArray W (Sx.aQ ⟨w,[],fun _ _=>False⟩ β W (Sx.rowAt (R10++(⟨105,.aj (qA 201 2)⟩::aX dc))) 17 ⟨ec 5++ec 12,[],[],[],.val (.bool true),none⟩)from by
  have:=Ds (m:=17) (i:=5) (j:=12) (c:=dc) (d:=dc) (mem:=R10++(⟨105,.aj (qA 201 2)⟩::aX dc)) (by rw[hR10];exact⟨rfl,rfl,rfl,rfl,rfl⟩) (by rw[hR10];exact⟨rfl,rfl,rfl,rfl,rfl⟩) wE wE yR W β hS
  rw[show b8 dc dc=true from(bn _ _).2 rfl]at this
  exact this)
 subst hR10
 have z0:Value.bool true=.bool true:=rfl
 have z1:Value.bool true=.bool true:=rfl
 refine Sx.eC (args:=[]) [(8,.ai (ve 0 dc (.db (vf 0 dc)))),(9,.ai ⟨ec 0,[],[],[],.val (.tuple #[ab tq,.int .i64 0]),none⟩),(13,.ai (ve 5 dc (.lB [.row (vf 5 dc),.a (.v .nilIface)]))),(17,.ai ⟨[],[],[],[⟨105,.aj (qA 201 2)⟩],.jX 103 11 0,none⟩),(18,.ai (Lm 11 201 2)),(33,.ai (ve 12 dc (.db (vf 12 dc)))),(34,.ai ⟨ec 5++ec 12,[],[],[],.val (.bool true),none⟩),(600004,.ix)] [] (by kernel_rfl) Tryz.func26 rfl (Nat.le_of_ble_eq_true rfl) ?_
 exact Eq.mp (by kernel_rfl) (Sx.t8 c8 c9 c13 c17 c18 (Sx.t2 c33 c34 z0) c33 c34 z1)
end Go.Proofs.YtnncigmpcdehnaaGreatDoor
