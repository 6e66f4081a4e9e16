import Derived.Test.YtnncigmpcdehnaaGreatDoorQb45
namespace Go.Proofs.YtnncigmpcdehnaaGreatDoor
set_option maxRecDepth 100000
open Go Go.RowKit Go.Lib Go.Sort
def tk:Bs:=[112,111,114,116,32,51,10,112,111,114,116,32,52,10,114,111,117,116,101,32,49,48,46,48,46,48,46,48,47,56,32,51,10,109,101,116,101,114,32,109,32,53,32,50,32,57,10,109,105,114,114,111,114,32,99,32,52,32,49,54,10,114,117,108,101,32,97,32,112,114,111,116,111,32,116,99,112,32,100,112,111,114,116,32,56,48,45,57,48,32,45,62,32,111,117,116,32,52,32,109,101,116,101,114,32,109,32,109,105,114,114,111,114,32,99,10,114,117,108,101,32,98,32,97,110,121,32,45,62,32,100,114,111,112,10,100,101,102,97,117,108,116,32,114,111,117,116,101,10]
def Hn:Bs:=[112,111,114,116,32,49,10,109,101,116,101,114,32,49,120,32,49,32,49,32,49,10]
theorem Nr(u:Nat)(h:u < 10):az 10 u=[sig u]:=bW h
theorem NM(u:Nat)(h:¬u < 10)(h2:u / 10 < 10):az 10 u=[sig (u / 10),sig (u%10)]:=by rw[eH (by omega) h,bW h2]; rfl
theorem N5(u:Nat)(h:u < 10):bb (u:Int)=[sig u]:=by rw[ko,bW h]
theorem DP:rW wG=[49,48,46,48,46,48,46,48,47,56]:=by
 have hk:gg wG.v wG.n wG.k=true:=by decide
 unfold rW r7
 rw[if_pos hk]
 show gG (10*2^120)++47::az 10 8=_
 unfold gG
 rw[show ay (10*2^120) 0=10 by decide,show ay (10*2^120) 1=0 by decide,show ay (10*2^120) 2=0 by decide,show ay (10*2^120) 3=0 by decide,NM 10 (by omega) (by omega),Nr 0 (by omega),Nr 8 (by omega)]
 rfl
theorem JY:bL wI=true:=by decide
theorem DQ:Er wI=[112,114,111,116,111,32,116,99,112,32,100,112,111,114,116,32,56,48,45,57,48]:=by
 unfold Er
 rw[JY]
 show ji wI=_
 unfold ji
 rw[if_neg (by decide)]
 have e:fR wI=[dC,dS 6,gr,eE (80,90)]:=rfl
 rw[e]
 have e1:dS 6=oZ:=rfl
 have e2:eE (80,90)=[56,48,45,57,48]:=by
  unfold eE
  rw[if_neg (by decide)]
  show az 10 80++45::az 10 90=_
  rw[NM 80 (by omega) (by omega),NM 90 (by omega) (by omega)];rfl
 rw[e1,e2];rfl
theorem mV:fm dr=tk:=by
 have i1:bb 3=[51]:=N5 3 (by omega)
 have i2:bb 4=[52]:=N5 4 (by omega)
 have i3:bb 16=[49,54]:=by
  have h:bb 16=az 10 16:=ko 16
  rw[h,NM 16 (by omega) (by omega)];rfl
 have l0:ew 3=[b8,[51]]:=by unfold ew;rw[i1]
 have l1:ew 4=[b8,[52]]:=by unfold ew;rw[i2]
 have l2:eW ⟨wG,3⟩=[aJ,[49,48,46,48,46,48,46,48,47,56],[51]]:=by
  show [aJ,rW wG,bb 3]=_
  rw[DP,i1]
 have l3:eY ⟨[109],5,2,9⟩=[ak,[109],[53],[50],[57]]:=by
  show [ak,[109],az 10 5,az 10 2,az 10 9]=_
  rw[Nr 5 (by omega),Nr 2 (by omega),Nr 9 (by omega)];rfl
 have l4:dh ⟨[99],4,16⟩=[ae,[99],[52],[49,54]]:=by
  show [ae,[99],bb 4,bb 16]=_
  rw[i2,i3]
 have l5:dR ⟨[97],wI,3,4,[109],[99]⟩=[dM,[97],[112,114,111,116,111,32,116,99,112,32,100,112,111,114,116,32,56,48,45,57,48],oD,ek,[52],ak,[109],ae,[99]]:=by
  unfold dR
  rw[DQ,show aH 3 4=[ek,[52]] by unfold aH;rw[if_neg (by decide),if_neg (by decide),if_pos rfl,i2]]
  rfl
 have l6:dR ⟨[98],kZ,2,0,[],[]⟩=[dM,[98],k8,oD,cW]:=rfl
 have l7:gU 1=[av,aJ]:=rfl
 have e:jQ dr=[ew 3,ew 4,eW ⟨wG,3⟩,eY ⟨[109],5,2,9⟩,dh ⟨[99],4,16⟩,dR ⟨[97],wI,3,4,[109],[99]⟩,dR ⟨[98],kZ,2,0,[],[]⟩,gU 1]:=rfl
 unfold fm
 rw[e,l0,l1,l2,l3,l4,l5,l6,l7]
 rfl
theorem yS:qO dr=0:=by decide
theorem J0:MB dr:=by
 refine⟨fun n hn=>?_,fun r hr=>?_,fun m hm=>?_,fun m hm=>?_,fun r hr=>?_⟩
 ·simp[dr]at hn;omega
 ·simp[dr]at hr;subst hr;decide
 ·simp[dr]at hm;subst hm;decide
 ·simp[dr]at hm;subst hm;decide
 ·simp[dr]at hr
  rcases hr with rfl|rfl
  ·exact⟨⟨by decide,by decide,by decide,by decide,by decide,by decide,by decide,by decide,by decide⟩,by decide⟩
  ·exact⟨⟨by decide,by decide,by decide,by decide,by decide,by decide,by decide,by decide,by decide⟩,by decide⟩
theorem JZ:ly dr:=(ts J0).1 yS
theorem AK:dU dr=(tk,0):=by
 have h:uf dr=0:=by
  unfold uf
  rw[mV,yS]
  decide
 unfold dU
 rw[if_pos h,mV]
theorem JW(hU:Et):ed tk=.ok dr:=by
 unfold ed
 rw[if_neg (by decide),←mV]
 exact Ho hU JZ
theorem Ke:ed Hn=.no 201 2:=by
 unfold ed
 rw[if_neg (by decide)]
 have e:bE Hn=[[112,111,114,116,32,49],[109,101,116,101,114,32,49,120,32,49,32,49,32,49],[]]:=rfl
 rw[e]
 have w1:aS true [112,111,114,116,32,49]=ew 1:=by
  have i1:bb 1=[49]:=N5 1 (by omega)
  show _=[b8,bb 1]
  rw[i1];rfl
 rw[kV (by rw[w1];exact uH (by decide) (by decide) wS 0)]
 rw[dy]
 rfl
theorem LK:kZ.Wf:=sC.1
theorem JX:wI.Wf:=⟨by decide,by decide,by decide,by decide,by decide,by decide,by decide,by decide,by decide⟩
theorem wJ:eU dr:=by
 refine⟨fun n hn=>?_,fun r hr=>?_,fun r hr=>?_,fun m hm=>?_,fun m hm=>?_,by unfold nG;decide⟩
 ·simp[dr]at hn;unfold nG;omega
 ·simp[dr]at hr;subst hr;exact⟨by decide,by unfold nG;decide,by unfold nG;decide⟩
 ·simp[dr]at hr
  rcases hr with rfl|rfl
  ·exact⟨by decide,JX,by unfold nG;decide,by unfold nG;decide,by decide,by decide⟩
  ·exact⟨by decide,LK,by unfold nG;decide,by unfold nG;decide,by decide,by decide⟩
 ·simp[dr]at hm;subst hm;exact⟨by decide,by decide,by decide,by decide⟩
 ·simp[dr]at hm;subst hm;exact⟨by decide,by unfold nG;decide,by unfold nG;decide⟩
theorem yR:e8 dr:=⟨by decide,by decide,by decide,by decide,by decide⟩
theorem Cu{β:Sx.Env}{m:Nat}{cf:CF}{s:fI}:(Sx.SV.cX (qW m cf)).den (aV β m cf s)=.agg (an cf s).toArray:=by
 show Value.agg ([(aV β m cf s).sl m,(aV β m cf s).sl (m+1),(aV β m cf s).sl (m+2),(aV β m cf s).sl (m+3),(aV β m cf s).sl (m+4),.int .i64 cf.aL]:List Value).toArray=_
 simp[Sx.Env.sl,aV,an]
def qN(_m:Nat)(cf:CF)(ret:Sx.SV):Sx.cH:=⟨[],[],[],bg cf,ret,none⟩
theorem pj{b:Sx.bw}{row:Nat→Option Sx.Row}{m:Nat}(W:World)(β:Sx.Env)(_:Sx.cw b β W row []):Calls Tryz.prog 67 (([]:List Sx.SV).map (Sx.SV.den β)).toArray W (Sx.a7 b β W row m (qN m dr (.cX (qW m dr)))):=by
 refine(DO W).mono fun en w' hp=>?_
 rcases hp with⟨β',l,mem,⟨k0,k1,k2,k3,k4,rfl,q0,q1,q2,q3,q4⟩,he,hR⟩ | ⟨_,_,hf,_⟩
 ·obtain⟨ho,hn,n0,n1,n2,n3,n4⟩:=y9 hR ⟨q0,q1,q2,q3,q4⟩ rfl
  refine .inl ⟨fun p hp=>(by cases hp),aV β m dr (iB β' k0 k1 k2 k3 k4),vo ho hn ?_ hR.aP⟩
  rw[Cu,he]
  show Ending.returned (.agg ([β'.sl k0,β'.sl k1,β'.sl k2,β'.sl k3,β'.sl k4,.int .i64 dr.aL]:List Value).toArray)=_
  unfold Sx.Env.sl
  rw[n0,n1,n2,n3,n4]
  rfl
 ·exact hf.elim
theorem oW{b:Sx.bw}{row:Nat→Option Sx.Row}{m:Nat}{s:Bs}{cf:CF}(hlan:iG b.w)(h9:∀k∈b.S,9≤k)(hs:ed s=.ok cf)(W:World)(β:Sx.Env)(hS:Sx.cw b β W row []):Calls Tryz.prog 22 (([.val (af s)]:List Sx.SV).map (Sx.SV.den β)).toArray W (Sx.a7 b β W row m (qN m cf (.kK [.row (qW m cf),.a (.v .nilIface)]))):=by
 refine(BY W (hlan.aP hS.aP h9) s).mono fun en w' hp=>?_
 rw[hs]at hp
 rcases hp with⟨β',l,mem,⟨k0,k1,k2,k3,k4,rfl,q0,q1,q2,q3,q4⟩,he,hR⟩ | ⟨_,_,hf,_⟩
 ·obtain⟨ho,hn,n0,n1,n2,n3,n4⟩:=y9 hR ⟨q0,q1,q2,q3,q4⟩ rfl
  refine .inl ⟨fun p hp=>(by cases hp),aV β m cf (iB β' k0 k1 k2 k3 k4),vo ho hn ?_ hR.aP⟩
  have hd:=Cu (β:=β) (m:=m) (cf:=cf) (s:=iB β' k0 k1 k2 k3 k4)
  rw[he]
  show Ending.returned (.tuple #[.agg ([β'.sl k0,β'.sl k1,β'.sl k2,β'.sl k3,β'.sl k4,.int .i64 cf.aL]:List Value).toArray,.nilIface])=.returned (.tuple #[(Sx.SV.cX (qW m cf)).den (aV β m cf (iB β' k0 k1 k2 k3 k4)),.nilIface])
  rw[hd]
  unfold Sx.Env.sl
  rw[n0,n1,n2,n3,n4]
  rfl
 ·exact hf.elim
def Mk(m:Nat)(code line:Nat):Sx.cH:=⟨[],[],[],[⟨105,.ag (qd code line)⟩],.kK [.row (fL.map .v),.j3 103 m 0],none⟩
theorem BU{β:Sx.Env}{W w':World}{row:Nat→Option Sx.Row}{m k:Nat}{X:List Nat}{T:TypeId}{cs:List Value}{ret:Sx.SV}{e:Ending}(hb:aB w' k T cs)(hn:W.heap.size≤k)(hret:e=.returned (ret.den (β.gb m k)))(hc:aw [] W w'):Sx.Bh β W row m ⟨X,[],[],[⟨T,.ag cs⟩],ret,none⟩ e w' (β.gb m k):=by
 refine⟨fun i hi=>⟨?_,rfl,rfl,rfl⟩,hret,fun q hq=>(by cases hq),fun i r hr=>?_,fun i r x hr hx=>?_,fun i i' r r' x hr hr' _ _=>?_,hc⟩
 ·show β i=if i=m then k else β i
  rw[if_neg (by omega)]
 ·match i,hr with
  | 0,hr=>
   cases hr
   show aB w' (if m+0=m then k else β (m+0)) T cs
   rw[Nat.add_zero,if_pos rfl]
   exact hb
 ·match i,hr with
  | 0,hr=>
   cases hr
   have hx:some (if m+0=m then k else β (m+0))=some x:=hx
   rw[Nat.add_zero,if_pos rfl]at hx
   cases hx
   exact .inr hn
 ·match i,i',hr,hr' with
  | 0,0,_,_=>rfl
theorem Dl(β:Sx.Env):(fL.map Sx.Atom.v).map (Sx.Atom.den β)=fL:=by rw[List.map_map];exact List.map_id _
theorem ye{b:Sx.bw}{row:Nat→Option Sx.Row}{m:Nat}{s:Bs}{code line:Nat}(hlan:iG b.w)(h9:∀k∈b.S,9≤k)(hs:ed s=.no code line)(W:World)(β:Sx.Env)(hS:Sx.cw b β W row []):Calls Tryz.prog 22 (([.val (af s)]:List Sx.SV).map (Sx.SV.den β)).toArray W (Sx.a7 b β W row m (Mk m code line)):=by
 refine(BY W (hlan.aP hS.aP h9) s).mono fun en w' hp=>?_
 rw[hs]at hp
 rcases hp with⟨β',l,mem,⟨j,rfl,hj⟩,he,hR⟩ | ⟨_,_,hf,_⟩
 ·have r:=hR.held j _ hj
  have hn:=hR.new j _ (β' j) hj rfl
  refine .inl ⟨fun p hp=>(by cases hp),β.gb m (β' j),BU r ?_ ?_ hR.aP⟩
  ·rcases hn with h|h
   ·cases h
   ·exact h
  ·rw[he]
   show Ending.returned (.tuple #[.agg fL.toArray,.iface 103 (.pointer (some ⟨β' j,0,none⟩))])=.returned (.tuple #[.agg ((fL.map Sx.Atom.v).map (Sx.Atom.den _)).toArray,.iface 103 (.pointer (some ⟨if m=m then β' j else β m,0,none⟩))])
   rw[Dl,if_pos rfl]
 ·exact hf.elim
def cN(m:Nat):List Nat:=[m,m+1,m+2,m+3,m+4]
theorem r9{b:Sx.bw}{mem:List Sx.Row}{i m:Nat}{cf:CF}(hlan:dG b.w)(h9:∀k∈b.S,9≤k)(h:En mem i (i+1) (i+2) (i+3) (i+4) cf)(hw:eU cf)(hf:e8 cf)(hB:(fm cf).length≤140737488355328)(W:World)(β:Sx.Env)(hS:Sx.cw b β W (Sx.rowAt mem) (cN i)) :
  Calls Tryz.prog 28 (([.cX (qW i cf)]:List Sx.SV).map (Sx.SV.den β)).toArray W (Sx.a7 b β W (Sx.rowAt mem) m ⟨cN i,[],[],[],.val (.tuple #[af (dU cf).1,.int .i64 (dU cf).2]),none⟩):=by
 obtain⟨hr,hd⟩:=pv hS h (fun k hk=>hk)
 show Calls Tryz.prog 28 #[(Sx.SV.cX (qW i cf)).den β] W _
 rw[hd]
 exact(BH (hlan.aP hS.aP h9) cf _ hr hw hf hB).mono fun en w' ⟨he,hc⟩=>.inl ⟨fun p hp=>(by cases hp),β,Sx.dH (v:=.tuple #[af (dU cf).1,.int .i64 (dU cf).2]) rfl rfl he (fun q hq=>by cases hq) hc⟩
theorem uy{b:Sx.bw}{mem:List Sx.Row}{i j m:Nat}{c d:CF}(hi:En mem i (i+1) (i+2) (i+3) (i+4) c)(hj:En mem j (j+1) (j+2) (j+3) (j+4) d)(wc:eU c)(wd:eU d)(fc:e8 c)(W:World)(β:Sx.Env)(hS:Sx.cw b β W (Sx.rowAt mem) (cN i++cN j)) :
  Calls Tryz.prog 25 (([.cX (qW i c),.cX (qW j d)]:List Sx.SV).map (Sx.SV.den β)).toArray W (Sx.a7 b β W (Sx.rowAt mem) m ⟨cN i++cN j,[],[],[],.val (.bool (cn c d)),none⟩):=by
 obtain⟨hr,hd⟩:=pv hS hi (fun k hk=>List.mem_append_left _ hk)
 obtain⟨hr2,hd2⟩:=pv hS hj (fun k hk=>List.mem_append_right _ hk)
 show Calls Tryz.prog 25 #[(Sx.SV.cX (qW i c)).den β,(Sx.SV.cX (qW j d)).den β] W _
 rw[hd,hd2]
 exact(EX c d _ _ hr hr2 wc wd fc).mono fun en w' ⟨he,hc⟩=>.inl ⟨fun p hp=>(by cases hp),β,Sx.dH (v:=.bool (cn c d)) rfl rfl he (fun q hq=>by cases hq) hc⟩
def Oo(code line:Nat)(l:List Sx.SV)(mem:List Sx.Row):Prop:=∃k,l=[.j3 103 k 0]∧mem[k]?=some ⟨105,.ag (qd code line)⟩
theorem Kg(w:World)(hlan:iG w):Calls Tryz.prog 68 #[] w (Sx.bc ⟨w,[],fun _ _=>False⟩ (Oo 201 2)):=by
 have c4:=fun W β (hS:Sx.cw ⟨w,[],fun _ _=>False⟩ β W (Sx.rowAt []) [])=>ye (m:=0) hlan (fun k hk=>by cases hk) Ke W β hS
 have z0:Oo 201 2 [.j3 103 0 0] [⟨105,.ag (qd 201 2)⟩,⟨46,.dm (fL.map .val)⟩]:=⟨0,rfl,rfl⟩
 refine Sx.aT (args:=[]) (ct w) [(4,.al (Mk 0 201 2))] [] (by kernel_rfl) Tryz.func68 rfl (Nat.le_of_ble_eq_true rfl) rfl ?_
 exact Eq.mp (by kernel_rfl) (And.intro c4 z0)
theorem AY{b:Sx.bw}{row:Nat→Option Sx.Row}{m:Nat}(hlan:iG b.w)(h9:∀k∈b.S,9≤k)(W:World)(β:Sx.Env)(hS:Sx.cw b β W row []):Calls Tryz.prog 68 (([]:List Sx.SV).map (Sx.SV.den β)).toArray W (Sx.a7 b β W row m ⟨[],[],[],[⟨105,.ag (qd 201 2)⟩],.j3 103 m 0,none⟩):=by
 refine(Kg W (hlan.aP hS.aP h9)).mono fun en w' hp=>?_
 rcases hp with⟨β',l,mem,⟨j,rfl,hj⟩,he,hR⟩ | ⟨_,_,hf,_⟩
 ·have r:=hR.held j _ hj
  have hn:=hR.new j _ (β' j) hj rfl
  refine .inl ⟨fun p hp=>(by cases hp),β.gb m (β' j),BU r ?_ ?_ hR.aP⟩
  ·rcases hn with h|h
   ·cases h
   ·exact h
  ·rw[he]
   show Ending.returned (.iface 103 (.pointer (some ⟨β' j,0,none⟩)))=.returned (.iface 103 (.pointer (some ⟨if m=m then β' j else β m,0,none⟩)))
   rw[if_pos rfl]
 ·exact hf.elim
theorem wV(w:World)(hlan:iG w):Calls Tryz.prog 26 #[] w fun e w'=>e=.returned (.bool true)∧aw [] w w':=by
 have no9:∀k∈([]:List Nat),9≤k:=fun k hk=>by cases hk
 have c8:=fun W β (hS:Sx.cw ⟨w,[],fun _ _=>False⟩ β W (Sx.rowAt []) [])=>pj (m:=0) W β hS
 have c9:=fun W β (hS:Sx.cw ⟨w,[],fun _ _=>False⟩ β W (Sx.rowAt (bg dr)) (cN 0))=>(show Calls Tryz.prog 28 (([.cX (qW 0 dr)]:List Sx.SV).map (Sx.SV.den β)).toArray W (Sx.a7 ⟨w,[],fun _ _=>False⟩ β W (Sx.rowAt (bg dr)) 5 ⟨cN 0,[],[],[],.val (.tuple #[af tk,.int .i64 0]),none⟩)from by
  have:=r9 (m:=5) hlan.qC no9 (i:=0) ⟨rfl,rfl,rfl,rfl,rfl⟩ wJ yR (by rw[mV];decide) W β hS
  rw[AK]at this
  exact this)
 have c13:=fun W β (hS:Sx.cw ⟨w,[],fun _ _=>False⟩ β W (Sx.rowAt (bg dr)) [])=>oW (m:=5) hlan no9 (JW (Fu hlan.qC)) W β hS
 obtain⟨R10,hR10⟩:∃R10:List Sx.Row,R10=bg dr++(bg dr++[⟨46,.dm [.own 5,.own 6,.own 7,.own 8,.own 9,.val (.int .i64 1)]⟩]):=⟨_,rfl⟩
 have c17:=fun W β (hS:Sx.cw ⟨w,[],fun _ _=>False⟩ β W (Sx.rowAt R10) [])=>AY (m:=11) hlan no9 W β hS
 have c18:=fun W β (hS:Sx.cw ⟨w,[],fun _ _=>False⟩ β W (Sx.rowAt (R10++[⟨105,.ag (qd 201 2)⟩])) [11])=>uq (m:=12) (j:=11) (code:=201) (place:=2) hlan no9 (by rw[hR10];rfl) W β hS
 have c33:=fun W β (hS:Sx.cw ⟨w,[],fun _ _=>False⟩ β W (Sx.rowAt (R10++[⟨105,.ag (qd 201 2)⟩])) [])=>pj (m:=12) W β hS
 have c34:=fun W β (hS:Sx.cw ⟨w,[],fun _ _=>False⟩ β W (Sx.rowAt (R10++(⟨105,.ag (qd 201 2)⟩::bg dr))) (cN 5++cN 12))=>(show Calls Tryz.prog 25 (([.cX (qW 5 dr),.cX (qW 12 dr)]:List Sx.SV).map (Sx.SV.den β)).toArray W (Sx.a7 ⟨w,[],fun _ _=>False⟩ β W (Sx.rowAt (R10++(⟨105,.ag (qd 201 2)⟩::bg dr))) 17 ⟨cN 5++cN 12,[],[],[],.val (.bool true),none⟩)from by
  have:=uy (m:=17) (i:=5) (j:=12) (c:=dr) (d:=dr) (mem:=R10++(⟨105,.ag (qd 201 2)⟩::bg dr)) (by rw[hR10];exact⟨rfl,rfl,rfl,rfl,rfl⟩) (by rw[hR10];exact⟨rfl,rfl,rfl,rfl,rfl⟩) wJ wJ yR W β hS
  rw[show cn dr dr=true from(bD _ _).2 rfl]at this
  exact this)
 subst hR10
 have z0:Value.bool true=.bool true:=rfl
 have z1:Value.bool true=.bool true:=rfl
 refine Sx.dJ (args:=[]) [(8,.al (qN 0 dr (.cX (qW 0 dr)))),(9,.al ⟨cN 0,[],[],[],.val (.tuple #[af tk,.int .i64 0]),none⟩),(13,.al (qN 5 dr (.kK [.row (qW 5 dr),.a (.v .nilIface)]))),(17,.al ⟨[],[],[],[⟨105,.ag (qd 201 2)⟩],.j3 103 11 0,none⟩),(18,.al (EI 11 201 2)),(33,.al (qN 12 dr (.cX (qW 12 dr)))),(34,.al ⟨cN 5++cN 12,[],[],[],.val (.bool true),none⟩),(600004,.ix)] [] (by kernel_rfl) Tryz.func26 rfl (Nat.le_of_ble_eq_true rfl) ?_
 exact Eq.mp (by kernel_rfl) (Sx.t8 c8 c9 c13 c17 c18 (Sx.t2 c33 c34 z0) c33 c34 z1)
end Go.Proofs.YtnncigmpcdehnaaGreatDoor
