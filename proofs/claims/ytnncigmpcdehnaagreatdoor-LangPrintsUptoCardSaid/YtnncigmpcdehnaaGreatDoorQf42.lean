import Derived.Test.YtnncigmpcdehnaaGreatDoorQf41
namespace Go.Proofs.YtnncigmpcdehnaaGreatDoor
set_option maxRecDepth 100000
open Go Go.RowKit Go.Lib Go.Sort _root_.Go.Proofs.Tryz
set_option maxRecDepth 100000
def vG:Bs:=[112,111,114,116,32,51,10,112,111,114,116,32,52,10,114,111,117,116,101,32,49,48,46,48,46,48,46,48,47,56,32,51,10,109,101,116,101,114,32,109,32,53,32,50,32,57,10,109,105,114,114,111,114,32,99,32,52,32,49,54,10,114,117,108,101,32,97,32,112,114,111,116,111,32,116,99,112,32,100,112,111,114,116,32,56,48,45,57,48,32,45,62,32,111,117,116,32,52,32,109,101,116,101,114,32,109,32,109,105,114,114,111,114,32,99,10,114,117,108,101,32,98,32,97,110,121,32,45,62,32,100,114,111,112,10,100,101,102,97,117,108,116,32,114,111,117,116,101,10]
def K0:Bs:=[112,111,114,116,32,49,10,109,101,116,101,114,32,49,120,32,49,32,49,32,49,10]
theorem Sj(u:Nat)(h:u < 10):aj 10 u=[sig u]:=aW h
theorem SQ(u:Nat)(h:¬u < 10)(h2:u / 10 < 10):aj 10 u=[sig (u / 10),sig (u%10)]:=by rw[dE (by omega) h,aW h2]; rfl
theorem Tm(u:Nat)(h:u < 10):cz (u:Int)=[sig u]:=by rw[lu,aW h]
theorem GS:pK yX=[49,48,46,48,46,48,46,48,47,56]:=by
 have hk:gh yX.v yX.n yX.k=true:=by decide
 unfold pK nh
 rw[if_pos hk]
 show gb (10*2^120)++47::aj 10 8=_
 unfold gb
 rw[show ah (10*2^120) 0=10 by decide,show ah (10*2^120) 1=0 by decide,show ah (10*2^120) 2=0 by decide,show ah (10*2^120) 3=0 by decide,SQ 10 (by omega) (by omega),Sj 0 (by omega),Sj 8 (by omega)]
 rfl
theorem N3:bp yY=true:=by decide
theorem GU:Ak yY=[112,114,111,116,111,32,116,99,112,32,100,112,111,114,116,32,56,48,45,57,48]:=by
 unfold Ak
 rw[N3]
 show dQ yY=_
 unfold dQ
 rw[if_neg (by decide)]
 have e:fY yY=[dB,dc 6,gF,dt (80,90)]:=rfl
 rw[e]
 have e1:dc 6=pj:=rfl
 have e2:dt (80,90)=[56,48,45,57,48]:=by
  unfold dt
  rw[if_neg (by decide)]
  show aj 10 80++45::aj 10 90=_
  rw[SQ 80 (by omega) (by omega),SQ 90 (by omega) (by omega)];rfl
 rw[e1,e2];rfl
theorem oy:eh dr=vG:=by
 have i1:cz 3=[51]:=Tm 3 (by omega)
 have i2:cz 4=[52]:=Tm 4 (by omega)
 have i3:cz 16=[49,54]:=by
  have h:cz 16=aj 10 16:=lu 16
  rw[h,SQ 16 (by omega) (by omega)];rfl
 have l0:eg 3=[kp,[51]]:=by unfold eg;rw[i1]
 have l1:eg 4=[kp,[52]]:=by unfold eg;rw[i2]
 have l2:ek ⟨yX,3⟩=[de,[49,48,46,48,46,48,46,48,47,56],[51]]:=by
  show [de,pK yX,cz 3]=_
  rw[GS,i1]
 have l3:ep ⟨[109],5,2,9⟩=[bK,[109],[53],[50],[57]]:=by
  show [bK,[109],aj 10 5,aj 10 2,aj 10 9]=_
  rw[Sj 5 (by omega),Sj 2 (by omega),Sj 9 (by omega)];rfl
 have l4:cI ⟨[99],4,16⟩=[bh,[99],[52],[49,54]]:=by
  show [bh,[99],cz 4,cz 16]=_
  rw[i2,i3]
 have l5:db ⟨[97],yY,3,4,[109],[99]⟩=[gg,[97],[112,114,111,116,111,32,116,99,112,32,100,112,111,114,116,32,56,48,45,57,48],u6,nC,[52],bK,[109],bh,[99]]:=by
  unfold db
  rw[GU,show aM 3 4=[nC,[52]] by unfold aM;rw[if_neg (by decide),if_neg (by decide),if_pos rfl,i2]]
  rfl
 have l6:db ⟨[98],mF,2,0,[],[]⟩=[gg,[98],mf,u6,kq]:=rfl
 have l7:iI 1=[bL,de]:=rfl
 have e:kC dr=[eg 3,eg 4,ek ⟨yX,3⟩,ep ⟨[109],5,2,9⟩,cI ⟨[99],4,16⟩,db ⟨[97],yY,3,4,[109],[99]⟩,db ⟨[98],mF,2,0,[],[]⟩,iI 1]:=rfl
 unfold eh
 rw[e,l0,l1,l2,l3,l4,l5,l6,l7]
 rfl
theorem Bt:lB dr=0:=by decide
theorem N5:OD dr:=by
 refine⟨fun n hn=>?_,fun r hr=>?_,fun m hm=>?_,fun m hm=>?_,fun r hr=>?_⟩
 ·simp[dr]at hn;omega
 ·simp[dr]at hr;subst hr;decide
 ·simp[dr]at hm;subst hm;decide
 ·simp[dr]at hm;subst hm;decide
 ·simp[dr]at hr
  rcases hr with rfl|rfl
  ·exact⟨⟨by decide,by decide,by decide,by decide,by decide,by decide,by decide,by decide,by decide⟩,by decide⟩
  ·exact⟨⟨by decide,by decide,by decide,by decide,by decide,by decide,by decide,by decide,by decide⟩,by decide⟩
theorem N4:qR dr:=(KJ N5).1 Bt
theorem Dx:dG dr=(vG,0):=by
 have h:rK dr=0:=by
  unfold rK
  rw[oy,Bt]
  decide
 unfold dG
 rw[if_pos h,oy]
theorem N1(hU:Lm):jL vG=.ok dr:=by
 unfold jL
 rw[if_neg (by decide),←oy]
 exact QF hU N4
theorem Om:jL K0=.no 201 2:=by
 unfold jL
 rw[if_neg (by decide)]
 have e:bA K0=[[112,111,114,116,32,49],[109,101,116,101,114,32,49,120,32,49,32,49,32,49],[]]:=rfl
 rw[e]
 have w1:aK true [112,111,114,116,32,49]=eg 1:=by
  have i1:cz 1=[49]:=Tm 1 (by omega)
  show _=[kp,cz 1]
  rw[i1];rfl
 rw[lU (by rw[w1];exact wU (by decide) (by decide) Fq 0)]
 rw[gr]
 rfl
theorem P7:mF.Wf:=uJ.1
theorem N2:yY.Wf:=⟨by decide,by decide,by decide,by decide,by decide,by decide,by decide,by decide,by decide⟩
theorem yZ:da dr:=by
 refine⟨fun n hn=>?_,fun r hr=>?_,fun r hr=>?_,fun m hm=>?_,fun m hm=>?_,by unfold mD;decide⟩
 ·simp[dr]at hn;unfold mD;omega
 ·simp[dr]at hr;subst hr;exact⟨by decide,by unfold mD;decide,by unfold mD;decide⟩
 ·simp[dr]at hr
  rcases hr with rfl|rfl
  ·exact⟨by decide,N2,by unfold mD;decide,by unfold mD;decide,by decide,by decide⟩
  ·exact⟨by decide,P7,by unfold mD;decide,by unfold mD;decide,by decide,by decide⟩
 ·simp[dr]at hm;subst hm;exact⟨by decide,by decide,by decide,by decide⟩
 ·simp[dr]at hm;subst hm;exact⟨by decide,by unfold mD;decide,by unfold mD;decide⟩
theorem Bq:fb dr:=⟨by decide,by decide,by decide,by decide,by decide⟩
theorem Fp{β:Sx.Env}{m:Nat}{cf:CF}{s:ey}:(Sx.SV.dD (BJ m cf)).den (aJ β m cf s)=.agg (al cf s).toArray:=by
 show Value.agg ([(aJ β m cf s).sl m,(aJ β m cf s).sl (m+1),(aJ β m cf s).sl (m+2),(aJ β m cf s).sl (m+3),(aJ β m cf s).sl (m+4),.int .i64 cf.aS]:List Value).toArray=_
 simp[Sx.Env.sl,aJ,al]
def BH(_m:Nat)(cf:CF)(ret:Sx.SV):Sx.cC:=⟨[],[],[],dI cf,ret,none⟩
theorem qE{b:Sx.aU}{row:Nat→Option Sx.Row}{m:Nat}(W:World)(β:Sx.Env)(_:Sx.eF b β W row []):Calls prog 67 (([]:List Sx.SV).map (Sx.SV.den β)).toArray W (Sx.aY b β W row m (BH m dr (.dD (BJ m dr)))):=by
 refine(GR W).mono fun en w' hp=>?_
 rcases hp with⟨β',l,mem,⟨k0,k1,k2,k3,k4,rfl,q0,q1,q2,q3,q4⟩,he,hR⟩ | ⟨_,_,hf,_⟩
 ·obtain⟨ho,hn,n0,n1,n2,n3,n4⟩:=BI hR ⟨q0,q1,q2,q3,q4⟩ rfl
  refine .inl ⟨fun p hp=>(by cases hp),aJ β m dr (iD β' k0 k1 k2 k3 k4),xL ho hn ?_ hR.aG⟩
  rw[Fp,he]
  show Ending.returned (.agg ([β'.sl k0,β'.sl k1,β'.sl k2,β'.sl k3,β'.sl k4,.int .i64 dr.aS]:List Value).toArray)=_
  unfold Sx.Env.sl
  rw[n0,n1,n2,n3,n4]
  rfl
 ·exact hf.elim
theorem JD{b:Sx.aU}{row:Nat→Option Sx.Row}{m:Nat}{s:Bs}{cf:CF}(hlan:lD b.w)(h9:∀k∈b.S,9≤k)(hs:jL s=.ok cf)(W:World)(β:Sx.Env)(hS:Sx.eF b β W row []):Calls prog 22 (([.val (ab s)]:List Sx.SV).map (Sx.SV.den β)).toArray W (Sx.aY b β W row m (BH m cf (.oE [.row (BJ m cf),.a (.v .nilIface)]))):=by
 refine(EO W (hlan.aG hS.aG h9) s).mono fun en w' hp=>?_
 rw[hs]at hp
 rcases hp with⟨β',l,mem,⟨k0,k1,k2,k3,k4,rfl,q0,q1,q2,q3,q4⟩,he,hR⟩ | ⟨_,_,hf,_⟩
 ·obtain⟨ho,hn,n0,n1,n2,n3,n4⟩:=BI hR ⟨q0,q1,q2,q3,q4⟩ rfl
  refine .inl ⟨fun p hp=>(by cases hp),aJ β m cf (iD β' k0 k1 k2 k3 k4),xL ho hn ?_ hR.aG⟩
  have hd:=Fp (β:=β) (m:=m) (cf:=cf) (s:=iD β' k0 k1 k2 k3 k4)
  rw[he]
  show Ending.returned (.tuple #[.agg ([β'.sl k0,β'.sl k1,β'.sl k2,β'.sl k3,β'.sl k4,.int .i64 cf.aS]:List Value).toArray,.nilIface])=.returned (.tuple #[(Sx.SV.dD (BJ m cf)).den (aJ β m cf (iD β' k0 k1 k2 k3 k4)),.nilIface])
  rw[hd]
  unfold Sx.Env.sl
  rw[n0,n1,n2,n3,n4]
  rfl
 ·exact hf.elim
def Su(m:Nat)(code line:Nat):Sx.cC:=⟨[],[],[],[⟨105,.ak (sw code line)⟩],.oE [.row (im.map .v),.kT 103 m 0],none⟩
theorem EJ{β:Sx.Env}{W w':World}{row:Nat→Option Sx.Row}{m k:Nat}{X:List Nat}{T:TypeId}{cs:List Value}{ret:Sx.SV}{e:Ending}(hb:au w' k T cs)(hn:W.heap.size≤k)(hret:e=.returned (ret.den (β.gk m k)))(hc:ai [] W w'):Sx.Cf β W row m ⟨X,[],[],[⟨T,.ak cs⟩],ret,none⟩ e w' (β.gk m k):=by
 refine⟨fun i hi=>⟨?_,rfl,rfl,rfl⟩,hret,fun q hq=>(by cases hq),fun i r hr=>?_,fun i r x hr hx=>?_,fun i i' r r' x hr hr' _ _=>?_,hc⟩
 ·show β i=if i=m then k else β i
  rw[if_neg (by omega)]
 ·match i,hr with
  | 0,hr=>
   cases hr
   show au w' (if m+0=m then k else β (m+0)) T cs
   rw[Nat.add_zero,if_pos rfl]
   exact hb
 ·match i,hr with
  | 0,hr=>
   cases hr
   have hx:some (if m+0=m then k else β (m+0))=some x:=hx
   rw[Nat.add_zero,if_pos rfl]at hx
   cases hx
   exact .inr hn
 ·match i,i',hr,hr' with
  | 0,0,_,_=>rfl
theorem Gp(β:Sx.Env):(im.map Sx.Atom.v).map (Sx.Atom.den β)=im:=by rw[List.map_map];exact List.map_id _
theorem JE{b:Sx.aU}{row:Nat→Option Sx.Row}{m:Nat}{s:Bs}{code line:Nat}(hlan:lD b.w)(h9:∀k∈b.S,9≤k)(hs:jL s=.no code line)(W:World)(β:Sx.Env)(hS:Sx.eF b β W row []):Calls prog 22 (([.val (ab s)]:List Sx.SV).map (Sx.SV.den β)).toArray W (Sx.aY b β W row m (Su m code line)):=by
 refine(EO W (hlan.aG hS.aG h9) s).mono fun en w' hp=>?_
 rw[hs]at hp
 rcases hp with⟨β',l,mem,⟨j,rfl,hj⟩,he,hR⟩ | ⟨_,_,hf,_⟩
 ·have r:=hR.held j _ hj
  have hn:=hR.new j _ (β' j) hj rfl
  refine .inl ⟨fun p hp=>(by cases hp),β.gk m (β' j),EJ r ?_ ?_ hR.aG⟩
  ·rcases hn with h|h
   ·cases h
   ·exact h
  ·rw[he]
   show Ending.returned (.tuple #[.agg im.toArray,.iface 103 ((pt (β' j) 0))])=.returned (.tuple #[.agg ((im.map Sx.Atom.v).map (Sx.Atom.den _)).toArray,.iface 103 ((pt (if m=m then β' j else β m) 0))])
   rw[Gp,if_pos rfl]
 ·exact hf.elim
def fF(m:Nat):List Nat:=[m,m+1,m+2,m+3,m+4]
theorem CN{b:Sx.aU}{mem:List Sx.Row}{i m:Nat}{cf:CF}(hlan:eb b.w)(h9:∀k∈b.S,9≤k)(h:Lv mem i (i+1) (i+2) (i+3) (i+4) cf)(hw:da cf)(hf:fb cf)(hB:(eh cf).length≤140737488355328)(W:World)(β:Sx.Env)(hS:Sx.eF b β W (Sx.rowAt mem) (fF i)) :
  Calls prog 28 (([.dD (BJ i cf)]:List Sx.SV).map (Sx.SV.den β)).toArray W (Sx.aY b β W (Sx.rowAt mem) m ⟨fF i,[],[],[],.val (.tuple #[ab (dG cf).1,.int .i64 (dG cf).2]),none⟩):=by
 obtain⟨hr,hd⟩:=vO hS h (fun k hk=>hk)
 show Calls prog 28 #[(Sx.SV.dD (BJ i cf)).den β] W _
 rw[hd]
 exact(Ev (hlan.aG hS.aG h9) cf _ hr hw hf hB).mono fun en w' ⟨he,hc⟩=>.inl ⟨fun p hp=>(by cases hp),β,Sx.du (v:=.tuple #[ab (dG cf).1,.int .i64 (dG cf).2]) rfl rfl he (fun q hq=>by cases hq) hc⟩
theorem FP{b:Sx.aU}{mem:List Sx.Row}{i j m:Nat}{c d:CF}(hi:Lv mem i (i+1) (i+2) (i+3) (i+4) c)(hj:Lv mem j (j+1) (j+2) (j+3) (j+4) d)(wc:da c)(wd:da d)(fc:fb c)(W:World)(β:Sx.Env)(hS:Sx.eF b β W (Sx.rowAt mem) (fF i++fF j)) :
  Calls prog 25 (([.dD (BJ i c),.dD (BJ j d)]:List Sx.SV).map (Sx.SV.den β)).toArray W (Sx.aY b β W (Sx.rowAt mem) m ⟨fF i++fF j,[],[],[],.val (.bool (cx c d)),none⟩):=by
 obtain⟨hr,hd⟩:=vO hS hi (fun k hk=>List.mem_append_left _ hk)
 obtain⟨hr2,hd2⟩:=vO hS hj (fun k hk=>List.mem_append_right _ hk)
 show Calls prog 25 #[(Sx.SV.dD (BJ i c)).den β,(Sx.SV.dD (BJ j d)).den β] W _
 rw[hd,hd2]
 exact(Iw c d _ _ hr hr2 wc wd fc).mono fun en w' ⟨he,hc⟩=>.inl ⟨fun p hp=>(by cases hp),β,Sx.du (v:=.bool (cx c d)) rfl rfl he (fun q hq=>by cases hq) hc⟩
def TO(code line:Nat)(l:List Sx.SV)(mem:List Sx.Row):Prop:=∃k,l=[.kT 103 k 0]∧mem[k]?=some ⟨105,.ak (sw code line)⟩
theorem Oq(w:World)(hlan:lD w):Calls prog 68 #[] w (Sx.cq ⟨w,[],fun _ _=>False⟩ (TO 201 2)):=by
 have c4:=fun W β (hS:Sx.eF ⟨w,[],fun _ _=>False⟩ β W (Sx.rowAt []) [])=>JE (m:=0) hlan (fun k hk=>by cases hk) Om W β hS
 have z0:TO 201 2 [.kT 103 0 0] [⟨105,.ak (sw 201 2)⟩,⟨46,.dK (im.map .val)⟩]:=⟨0,rfl,rfl⟩
 refine Sx.aZ (args:=[]) (eo w) [(4,.aq (Su 0 201 2))] [] (by kernel_rfl) func68 rfl (cn rfl) rfl ?_
 exact Eq.mp (by kernel_rfl) (And.intro c4 z0)
theorem DN{b:Sx.aU}{row:Nat→Option Sx.Row}{m:Nat}(hlan:lD b.w)(h9:∀k∈b.S,9≤k)(W:World)(β:Sx.Env)(hS:Sx.eF b β W row []):Calls prog 68 (([]:List Sx.SV).map (Sx.SV.den β)).toArray W (Sx.aY b β W row m ⟨[],[],[],[⟨105,.ak (sw 201 2)⟩],.kT 103 m 0,none⟩):=by
 refine(Oq W (hlan.aG hS.aG h9)).mono fun en w' hp=>?_
 rcases hp with⟨β',l,mem,⟨j,rfl,hj⟩,he,hR⟩ | ⟨_,_,hf,_⟩
 ·have r:=hR.held j _ hj
  have hn:=hR.new j _ (β' j) hj rfl
  refine .inl ⟨fun p hp=>(by cases hp),β.gk m (β' j),EJ r ?_ ?_ hR.aG⟩
  ·rcases hn with h|h
   ·cases h
   ·exact h
  ·rw[he]
   show Ending.returned (.iface 103 ((pt (β' j) 0)))=.returned (.iface 103 ((pt (if m=m then β' j else β m) 0)))
   rw[if_pos rfl]
 ·exact hf.elim
theorem Ot(w:World)(hlan:lD w):Calls prog 26 #[] w (Rn w (.bool true)):=by
 have no9:∀k∈([]:List Nat),9≤k:=fun k hk=>by cases hk
 have c8:=fun W β (hS:Sx.eF ⟨w,[],fun _ _=>False⟩ β W (Sx.rowAt []) [])=>qE (m:=0) W β hS
 have c9:=fun W β (hS:Sx.eF ⟨w,[],fun _ _=>False⟩ β W (Sx.rowAt (dI dr)) (fF 0))=>(show Calls prog 28 (([.dD (BJ 0 dr)]:List Sx.SV).map (Sx.SV.den β)).toArray W (Sx.aY ⟨w,[],fun _ _=>False⟩ β W (Sx.rowAt (dI dr)) 5 ⟨fF 0,[],[],[],.val (.tuple #[ab vG,.int .i64 0]),none⟩)from by
  have:=CN (m:=5) hlan.u5 no9 (i:=0) ⟨rfl,rfl,rfl,rfl,rfl⟩ yZ Bq (by rw[oy];decide) W β hS
  rw[Dx]at this
  exact this)
 have c13:=fun W β (hS:Sx.eF ⟨w,[],fun _ _=>False⟩ β W (Sx.rowAt (dI dr)) [])=>JD (m:=5) hlan no9 (N1 (PI hlan.u5)) W β hS
 obtain⟨R10,hR10⟩:∃R10:List Sx.Row,R10=dI dr++(dI dr++[⟨46,.dK [.own 5,.own 6,.own 7,.own 8,.own 9,.val (.int .i64 1)]⟩]):=⟨_,rfl⟩
 have c17:=fun W β (hS:Sx.eF ⟨w,[],fun _ _=>False⟩ β W (Sx.rowAt R10) [])=>DN (m:=11) hlan no9 W β hS
 have c18:=fun W β (hS:Sx.eF ⟨w,[],fun _ _=>False⟩ β W (Sx.rowAt (R10++[⟨105,.ak (sw 201 2)⟩])) [11])=>FH (m:=12) (j:=11) (code:=201) (place:=2) hlan no9 (by rw[hR10];rfl) W β hS
 have c33:=fun W β (hS:Sx.eF ⟨w,[],fun _ _=>False⟩ β W (Sx.rowAt (R10++[⟨105,.ak (sw 201 2)⟩])) [])=>qE (m:=12) W β hS
 have c34:=fun W β (hS:Sx.eF ⟨w,[],fun _ _=>False⟩ β W (Sx.rowAt (R10++(⟨105,.ak (sw 201 2)⟩::dI dr))) (fF 5++fF 12))=>(show Calls prog 25 (([.dD (BJ 5 dr),.dD (BJ 12 dr)]:List Sx.SV).map (Sx.SV.den β)).toArray W (Sx.aY ⟨w,[],fun _ _=>False⟩ β W (Sx.rowAt (R10++(⟨105,.ak (sw 201 2)⟩::dI dr))) 17 ⟨fF 5++fF 12,[],[],[],.val (.bool true),none⟩)from by
  have:=FP (m:=17) (i:=5) (j:=12) (c:=dr) (d:=dr) (mem:=R10++(⟨105,.ak (sw 201 2)⟩::dI dr)) (by rw[hR10];exact⟨rfl,rfl,rfl,rfl,rfl⟩) (by rw[hR10];exact⟨rfl,rfl,rfl,rfl,rfl⟩) yZ yZ Bq W β hS
  rw[show cx dr dr=true from(bD _ _).2 rfl]at this
  exact this)
 subst hR10
 have z0:Value.bool true=.bool true:=rfl
 have z1:Value.bool true=.bool true:=rfl
 refine Sx.aF (args:=[]) [(8,.aq (BH 0 dr (.dD (BJ 0 dr)))),(9,.aq ⟨fF 0,[],[],[],.val (.tuple #[ab vG,.int .i64 0]),none⟩),(13,.aq (BH 5 dr (.oE [.row (BJ 5 dr),.a (.v .nilIface)]))),(17,.aq ⟨[],[],[],[⟨105,.ak (sw 201 2)⟩],.kT 103 11 0,none⟩),(18,.aq (OK 11 201 2)),(33,.aq (BH 12 dr (.dD (BJ 12 dr)))),(34,.aq ⟨fF 5++fF 12,[],[],[],.val (.bool true),none⟩),(600004,.ix)] [] (by kernel_rfl) func26 rfl (cn rfl) ?_
 exact Eq.mp (by kernel_rfl) (Sx.t8 c8 c9 c13 c17 c18 (Sx.t2 c33 c34 z0) c33 c34 z1)
end Go.Proofs.YtnncigmpcdehnaaGreatDoor
