import Derived.Test.YtnncigmpcdehnaaGreatDoorQi07
import Derived.ScopeJumps
import Derived.Defers
import Derived.Recover
open And renaming intro→VE
open List renaming mem_filterMap→VF,getElem?_eq_some_iff→VG,nodup_cons→VH,takeWhile_cons→VI,mem_cons_of_mem→VL,mem_map→VM,not_mem_nil→VN,mem_cons→VO,drop_eq_getElem_cons→VQ,length_cons→VS,map_cons→VU,getElem?_drop→VV,length_singleton→VZ,mem_of_getElem?→Wb,drop_succ_cons→Wd,length_append→We,length_drop→Wg,mem_append→Wh,length_nil→Wi,append_nil→Wj,drop_take→Wl,drop_drop→Wm
open Go.Value renaming bool→VJ,int→Wp
open Bool renaming and_eq_true→VK,not_eq_true'→VR,and_eq_false_iff→Wa,or_eq_false_iff→Wc,or_eq_true→Wk,false_or→Wo
open Option renaming map→VP
open Nat renaming le_refl→VT
open Eq renaming mp→VW
open Array renaming replicate→VX
namespace Go.Proofs.YtnncigmpcdehnaaGreatDoor
open Go.RowKit Go.Lib Go.Sort _root_.Go.Proofs.Tryz
theorem Oh:∀(a:Fin 256) (n0 n1 n2 n3 n4 n5:Bool),(bits .andNot .u8 (Kv n0 n1 n2 n3 n4 n5) (a.val:Int) !=0)=
  ((n0&&!a.val.testBit 0)||((n1&&!a.val.testBit 1)||((n2&&!a.val.testBit 2)||((n3&&!a.val.testBit 3)||((n4&&!a.val.testBit 4)||(n5&&!a.val.testBit 5)))))):=by decide+kernel
theorem Rb(l b0 b1 b2 b3 b4 b5 z0 z1 z2 z3 z4 z5:Bool):(l&&((b0||z0)&&((b1||z1)&&((b2||z2)&&((b3||z3)&&((b4||z4)&&(b5||z5)))))))=
  !(!l||((!z0&&!b0)||((!z1&&!b1)||((!z2&&!b2)||((!z3&&!b3)||((!z4&&!b4)||(!z5&&!b5))))))):=by
 simp[Bool.not_or,Bool.or_comm]
theorem xY(a b:Nat):decide (a≤b)=!decide ((b:Int) < (a:Int)):=by
 by_cases h:a≤b
 ·rw[decide_eq_true h,decide_eq_false (by omega)];rfl
 ·rw[decide_eq_false h,decide_eq_true (by omega)];rfl
theorem OL:∀(o1 hs g1 g2 g3 g4 s x1 d x2 ne pt q6 q17:Bool),Tw o1 hs g1 g2 g3 g4 s x1 d x2 ne pt q6 q17=
  if(!(o1||hs)&&((!g1&&(!g2&&(!g3&&!g4)))&&(((!s||!x1)&&((!d||!x2)&&(!(s&&d)||!ne)))&&(!pt||(!q6||!q17)))))=true then 0 else 190:=by decide+kernel
theorem pw(m:Mt)(hw:m.Wf)(w:World):Calls prog 83 #[oO m] w (Rn w (.int .i64 (if bp m=true then 0 else 190))):=by
 have ha:=hw.asks
 have key:=OM m w (!fR m.fE) (!BI m.src) (!BI m.dst) ((m.bE:Int) !=0) (!fR m.sp) (!fR m.dp) (bits .andNot .u8 (m.asks:Int) 63 !=0)
  (bits .andNot .u8 (Kv (!fR m.fE) (!BI m.src) (!BI m.dst) ((m.bE:Int) !=0) (!fR m.sp) (!fR m.dp)) (m.asks:Int) !=0)
  (decide ((m.fE.2:Int) < (m.fE.1:Int))) (decide (255 < (m.fE.2:Int))) (decide ((m.sp.2:Int) < (m.sp.1:Int))) (decide ((m.dp.2:Int) < (m.dp.1:Int)))
  (m.asks.testBit 1) (fH m.src.v m.src.n m.src.k !=0) (m.asks.testBit 2) (fH m.dst.v m.dst.n m.dst.k !=0) (m.src.v !=m.dst.v) (m.asks.testBit 4||m.asks.testBit 5) ((m.bE:Int) !=6) ((m.bE:Int) !=17)
  _ (fH m.src.v m.src.n m.src.k) (fH m.dst.v m.dst.n m.dst.k)
  (Ca _ _ m.fE hw.fE) (Jm _ _ m.src hw.sn hw.sk) (Jm _ _ m.dst hw.dn hw.dk) rfl (Ca _ _ m.sp hw.sp) (Ca _ _ m.dp hw.dp) rfl
  (fun W _=>Dv m 48 _ (Ht ⟨m.asks,ha⟩) W) rfl rfl rfl rfl rfl rfl
  (fun W _=>Dv m 2 _ (Lv ⟨m.asks,ha⟩) W) (fun W _=>Dv m 4 _ (Lu ⟨m.asks,ha⟩) W)
  (fun W _=>sb _ _ _ hw.sn W) (fun W _=>sb _ _ _ hw.dn W) rfl rfl rfl rfl rfl
 rw[OL]at key;have ho:=Jx ⟨m.asks,ha⟩;have hh:=Oh ⟨m.asks,ha⟩ (!fR m.fE) (!BI m.src) (!BI m.dst) ((m.bE:Int) !=0) (!fR m.sp) (!fR m.dp);have hx:∀p:Px,(fH p.v p.n p.k !=0)=!gv p.v p.n p.k:=fun p=>by unfold fH;cases gv p.v p.n p.k<;>rfl
 have hp0:((m.bE:Int) !=0)=!decide (m.bE=0):=by by_cases h:m.bE=0<;>simp[h]
 have hp6:((m.bE:Int) !=6)=!decide (m.bE=6):=by
  by_cases h:m.bE=6
  ·rw[h];rfl
  ·rw[decide_eq_false h];simp;omega
 have hp17:((m.bE:Int) !=17)=!decide (m.bE=17):=by
  by_cases h:m.bE=17
  ·rw[h];rfl
  ·rw[decide_eq_false h];simp;omega
 have hne:(m.src.v !=m.dst.v)=!decide (m.src.v=m.dst.v):=by cases m.src.v<;>cases m.dst.v<;>rfl
 have e:bp m=(!((bits .andNot .u8 (m.asks:Int) 63 !=0)||(bits .andNot .u8 (Kv (!fR m.fE) (!BI m.src) (!BI m.dst) ((m.bE:Int) !=0) (!fR m.sp) (!fR m.dp)) (m.asks:Int) !=0))&&
   ((!decide ((m.fE.2:Int) < (m.fE.1:Int))&&(!decide (255 < (m.fE.2:Int))&&(!decide ((m.sp.2:Int) < (m.sp.1:Int))&&!decide ((m.dp.2:Int) < (m.dp.1:Int)))))&&
   (((!m.asks.testBit 1||!(fH m.src.v m.src.n m.src.k !=0))&&((!m.asks.testBit 2||!(fH m.dst.v m.dst.n m.dst.k !=0))&&(!(m.asks.testBit 1&&m.asks.testBit 2)||!(m.src.v !=m.dst.v))))&&
   (!(m.asks.testBit 4||m.asks.testBit 5)||(!((m.bE:Int) !=6)||!((m.bE:Int) !=17)))))):=by
  rw[show(bits .andNot .u8 (m.asks:Int) 63 !=0)=decide (¬m.asks < 64)from ho];rw[show(bits .andNot .u8 (Kv (!fR m.fE) (!BI m.src) (!BI m.dst) ((m.bE:Int) !=0) (!fR m.sp) (!fR m.dp)) (m.asks:Int) !=0)=_ from hh];rw[hx,hx,hp6,hp17,hp0,hne];simp only[Bool.not_not];have h255:decide (m.fE.2≤255)=!decide (255 < (m.fE.2:Int)):=xY m.fE.2 255;unfold bp;rw[Rb,xY,h255,xY,xY];have:decide (¬m.asks < 64)=!decide (m.asks < 64):=decide_not;rw[this]
 rw[←e]at key;exact key
set_option maxRecDepth 100000
open Go.RowKit Go.Lib Go.Sort _root_.Go.Proofs.Tryz
def TO(r:Rl):Value:=.agg r.cells.toArray
def SB(r:Rl):Sx.Row:=⟨81,.ai r.cells⟩
abbrev RP{α:Type}(r:Out α)(n:Nat):Prop:=r.okB=true∧r.pos≤n
abbrev Vg(f g:Nat)(A:Option Go.Addr)(n c i:Nat)(ws:List Bs){α:Type}(V:α→Value)(r:Out α):Prop:=∀W,dU W g A n c i ws→Calls prog f ((pt g 0)::[]).toArray W (bC g A n c V r W)
abbrev Vf{α β:Type}(r:Out α)(T:Out β):Prop:=∀code p,r=.no code p→T=.no code p
theorem Out.bind_assoc{α β γ:Type}(r:Out α)(g:α→Nat→Out β)(f:β→Nat→Out γ):(r.bind g).bind f=r.bind fun a i=>(g a i).bind f:=by cases r<;>rfl
theorem cy{α β:Type}{T:Out β}(r:Out α){f:α→Nat→Out β}(h:T=r.bind f):T=r.bind f:=h
theorem sX(s:Bs):((oM s).getD oN).n < 2^128 ∧ -9223372036854775808≤((oM s).getD oN).k∧((oM s).getD oN).k≤9223372036854775807:=by
 cases h:oM s with
 |none=>exact⟨by decide,by decide,by decide⟩
 |some p=>obtain⟨h1,h2,_⟩:=lZ h;unfold gv at h2;rw[VK,VK,decide_eq_true_iff,decide_eq_true_iff]at h2;have:=nU p.v;exact⟨h1,by show _≤p.k;omega,by show p.k≤_;omega⟩
theorem Out.aB{α β:Type}{r:Out α}{f:α→Nat→Out β}{b:β}{j:Nat}(h:r.bind f=.ok b j):∃a i,r=.ok a i∧f a i=.ok b j:=by
 cases r with
 |ok a i=>exact⟨a,i,rfl,h⟩
 |no c p=>cases h
theorem lI{α:Type}{b:Bool}{code:Nat}{a a':α}{i j:Nat}(h:aK b code a i=.ok a' j):b=true∧a'=a:=by
 cases b with
 |true=>injection h with h _;exact⟨rfl,h.symm⟩
 |false=>cases h
theorem xw{ws:List Bs}{i j:Nat}{s:Nat×Nat}(h:gZ ws i=.ok s j):s.1≤65535∧s.2≤65535:=by obtain⟨x,k,_,hx⟩:=Out.aB h;obtain⟨hb,rfl⟩:=lI hx;rw[VK]at hb;exact⟨tJ hb.1,tJ hb.2⟩
theorem nj{ws:List Bs}{i j:Nat}{p:Px}(h:cZ ws i=.ok p j):p.n < 2^128 ∧ -9223372036854775808≤p.k∧p.k≤9223372036854775807:=by obtain⟨x,k,_,hx⟩:=Out.aB h;obtain⟨_,rfl⟩:=lI hx;exact sX x
theorem Jr{ws:List Bs}{i j v:Nat}(h:dL ws i=.ok v j):v≤255:=by
 unfold dL at h;obtain⟨b,k,_,h⟩:=Out.aB h;cases b with
 |true=>injection h with h _;omega
 |false=>
  obtain⟨b,k,_,h⟩:=Out.aB h;cases b with
  |true=>injection h with h _;omega
  |false=>exact ot h
def Mt.Good(m:Mt):Prop:=m.Wf∧m.asks < 64
theorem tP:lG.Good:=⟨⟨by decide,by decide,by decide,by decide,by decide,by decide,by decide,by decide,by decide⟩,by decide⟩
theorem Cl{k:Nat}{m m':Mt}{ws:List Bs}{i j:Nat}(h:bZ k m ws i=.ok m' j)(hm:m.Good):m'.Good:=by
 obtain⟨hw,ha⟩:=hm;rcases k with _|_|_|_|_|k
 ·obtain⟨s,l,hs,h⟩:=Out.aB h
  injection h with h _;subst h;exact⟨{ hw with fE:=xw hs },ha⟩
 ·obtain⟨s,l,hs,h⟩:=Out.aB h
  injection h with h _;subst h;exact⟨{ hw with sn:=(nj hs).1,sk:=(nj hs).2 },ha⟩
 ·obtain⟨s,l,hs,h⟩:=Out.aB h
  injection h with h _;subst h;exact⟨{ hw with dn:=(nj hs).1,dk:=(nj hs).2 },ha⟩
 ·obtain⟨s,l,hs,h⟩:=Out.aB h
  injection h with h _;subst h;exact⟨{ hw with pr:=Jr hs },ha⟩
 ·obtain⟨s,l,hs,h⟩:=Out.aB h
  injection h with h _;subst h;exact⟨{ hw with sp:=xw hs },ha⟩
 ·obtain⟨s,l,hs,h⟩:=Out.aB h
  injection h with h _;subst h;exact⟨{ hw with dp:=xw hs },ha⟩
theorem uF{ws:List Bs}{i:Nat}{m m':Mt}{b:Bool}{j:Nat}(h:aZ ws i m=.ok (b,m') j)(hm:m.Good):m'.Good:=by
 unfold aZ at h;split at h
 ·injection h with h _;injection h with _ h;rw[←h];exact hm
 ·split at h
  ·injection h with h _;injection h with _ h;rw[←h];exact hm
  ·rename_i k hk
   split at h
   ·cases h
   ·obtain⟨a,l,hr,h⟩:=Out.aB h
    injection h with h _;injection h with _ h;subst h;have h64:=Eo ⟨m.asks,hm.2⟩ ⟨k,CU hk⟩;exact Cl hr ⟨{ hm.1 with asks:=by show m.asks|||2^k < 256;exact Nat.lt_trans h64 (by decide) },h64⟩
theorem qX{ws:List Bs}:∀{f i:Nat} {m m':Mt} {j:Nat},dY ws f i m=.ok m' j→m.Good→m'.Good
 | 0,_,_,_,_,h,hm=>by injection h with h _;rw[←h];exact hm
 |f+1,_,_,_,_,h,hm=>by
  obtain⟨⟨b,a⟩,l,hr,h⟩:=Out.aB h;have hg:=uF hr hm;cases b with
  |true=>exact qX h hg
  |false=>injection h with h _;rw[←h];exact hm
theorem tQ{ws:List Bs}{i:Nat}{m:Mt}{j:Nat}(h:fk ws i=.ok m j):m.Good:=by
 obtain⟨b,l,_,h⟩:=Out.aB h;cases b with
 |true=>injection h with h _;rw[←h];exact tP
 |false=>
  obtain⟨⟨b,a⟩,l,hr,h⟩:=Out.aB h;have hg:=uF hr tP;cases b with
  |true=>exact qX h hg
  |false=>obtain⟨_,_,_,h⟩:=Out.aB h;cases h
theorem NN{w:World}{g:Nat}{A:Option Go.Addr}{n c i:Nat}{ws:List Bs}(h:dU w g A n c i ws):Calls prog 190 #[(pt g 0)] w (bC g A n c TO (lU ws i) w):=by
 obtain⟨T,hT⟩:∃T,T=lU ws i:=⟨_,rfl⟩;have E1:=cy (fh ws i) hT;rw[←hT];clear hT;have n4:=fun W (hL:dU W g A n c i ws)=>pA hL;generalize fh ws i=r1 at E1 n4;have E2:=fun(h1:r1.okB=true)=>cy (fk ws r1.pos) (cd E1 h1);have n7:=fun W (hL:dU W g A n c r1.pos ws)=>Ka hL;have hg:(fk ws r1.pos).okB=true→(fk ws r1.pos).val.Good:=fun hh=>tQ (Out.Et hh);generalize fk ws r1.pos=r2 at E2 n7 hg;have E3:=fun h1 (h2:r2.okB=true)=>cy (aP ws r2.pos) ((cd (E2 h1) h2).trans (Out.bind_assoc (aP ws r2.pos) _ _));have n11:=fun W (hL:dU W g A n c r2.pos ws)=>mn hL;generalize aP ws r2.pos=r3 at E3 n11;have n17:=fun(h2:r2.okB=true) W (_:ah [g] w W)=>pw r2.val (hg h2).1 W;have hck:VJ ((if bp r2.val=true then(0:Int)else 190)==0)=.bool (bp r2.val):=by cases bp r2.val<;>rfl
 obtain⟨ar,har⟩:∃ar,decide (r3.val=wB)=ar:=⟨_,rfl⟩;have E4:=fun h1 h2 (h3:r3.okB=true)=>cy (aK ar 200 () r3.pos) ((cd (E3 h1 h2) h3).trans (by rw[har];exact Out.bind_assoc (aK ar 200 () r3.pos) _ _));have n13:=fun W (hL:dU W g A n c r3.pos ws)=>lJ ar 200 () hL;generalize aK ar 200 () r3.pos=r4 at E4 n13;have E5:=fun h1 h2 h3 (h4:r4.okB=true)=>cy (aK (bp r2.val) 190 () r4.pos) (cd (E4 h1 h2 h3) h4);generalize (if bp r2.val=true then(0:Int)else 190)=ck at n17 hck;generalize bp r2.val=cb at hck E5;have n19:=fun W (hL:dU W g A n c r4.pos ws)=>lJ cb 190 () hL;generalize aK cb 190 () r4.pos=r5 at E5 n19;have E6:=fun h1 h2 h3 h4 (h5:r5.okB=true)=>cy (nL true ws r5.pos) (cd (E5 h1 h2 h3 h4) h5);have n22:=fun W (hL:dU W g A n c r5.pos ws)=>wA true hL;generalize nL true ws r5.pos=r6 at E6 n22;have E7:=fun h1 h2 h3 h4 h5 (h6:r6.okB=true)=>cy (nH bK ws r6.pos) (cd (E6 h1 h2 h3 h4 h5) h6);have opt:∀(k:Bs) (j:Nat),∃b p,dd ws j k=.ok b p∧(b=true→nH k ws j=fh ws p)∧(b=false→nH k ws j=.ok [] p):=fun k j=>by
  rcases gq (ws:=ws) (i:=j) (s:=k)with⟨t,_⟩ | t
  ·exact⟨true,j+1,t,fun _=>by unfold nH;rw[t];rfl,fun h=>by cases h⟩
  ·exact⟨false,j,t,fun h=>(by cases h),fun _=>by unfold nH;rw[t];rfl⟩
 obtain⟨bm,p7,t7,u7,v7⟩:=opt bK r6.pos;generalize nH bK ws r6.pos=r8 at E7 u7 v7;have n30:bm=true→Vg 188 g A n c p7 ws ab r8:=fun e W hL=>by rw[u7 e];exact pA hL
 have E9:=fun h1 h2 h3 h4 h5 h6 (h8:r8.okB=true)=>cy (nH ba ws r8.pos) (cd (E7 h1 h2 h3 h4 h5 h6) h8);obtain⟨bi,p9,t9,u9,v9⟩:=opt ba r8.pos;generalize nH ba ws r8.pos=r10 at E9 u9 v9;have n35:bi=true→Vg 188 g A n c p9 ws ab r10:=fun e W hL=>by rw[u9 e];exact pA hL
 have q:∀(u:Rl) {j:Nat} {α:Type} [Inhabited α] {f:Nat} {V:α→Value} {r:Out α} (rest:List Value),j≤n→Vf r T→(∀W,dU W g A n c j ws→Calls prog f ((pt g 0)::rest).toArray W (bC g A n c V r W))→_:=fun u j α _ f V r rest hj hno hn=>kX (T:=T) [SB u] rest h hj hno hn
 have CH:=VE (q UU [] h.le (cq E1) n4) fun(x1:RP r1 n)=>VE (q ⟨r1.val,lG,0,0,[],[]⟩ [] x1.2 (cq (E2 x1.1)) n7) fun(x2:RP r2 n)=>VE (q ⟨r1.val,r2.val,0,0,[],[]⟩ [] x2.2 (cq (E3 x1.1 x2.1)) n11) fun(x3:RP r3 n)=>VE (fun W=>fP (.tmp 11) (.const (ab wB)) r3.val wB ar har W)
  (VE (q ⟨r1.val,r2.val,0,0,[],[]⟩ [.bool ar,.int .i64 200] x3.2 (cq (E4 x1.1 x2.1 x3.1)) n13) fun(x4:RP r4 n)=>VE (n17 x2.1) (VE hck (VE (q ⟨r1.val,r2.val,0,0,[],[]⟩ [.bool cb,.int .i64 190] x4.2 (cq (E5 x1.1 x2.1 x3.1 x4.1)) n19) fun(x5:RP r5 n)=>VE (q ⟨r1.val,r2.val,0,0,[],[]⟩ [.bool true] x5.2 (cq (E6 x1.1 x2.1 x3.1 x4.1 x5.1)) n22) fun(x6:RP r6 n)=>
   VE (q ⟨r1.val,r2.val,r6.val.1,r6.val.2,[],[]⟩ [ab bK] (V:=fun b:Bool=>.bool b) (r:=Out.ok bm p7) x6.2 (fun _ _ hh=>by cases hh) (fun W hL=>t7 ▸ jE bK hL)) fun(x7:RP (Out.ok bm p7) n)=>
    have K8:=fun(x8:RP r8 n)=>VE (q ⟨r1.val,r2.val,r6.val.1,r6.val.2,r8.val,[]⟩ [ab ba] (V:=fun b:Bool=>.bool b) (r:=Out.ok bi p9) x8.2 (fun _ _ hh=>by cases hh) (fun W hL=>t9 ▸ jE ba hL)) fun(x9:RP (Out.ok bi p9) n)=>
     have K10:=fun(x10:RP r10 n)=>(show BK g A n c TO T (.val (TO ⟨r1.val,r2.val,r6.val.1,r6.val.2,r8.val,r10.val⟩)) [(g,154,dh A n c r10.pos)]from⟨⟨r1.val,r2.val,r6.val.1,r6.val.2,r8.val,r10.val⟩,r10.pos,cd (E9 x1.1 x2.1 x3.1 x4.1 x5.1 x6.1 x8.1) x10.1,x10.2,rfl,rfl⟩)
     ir.mk (b:=bi) (fun e=>VE (q ⟨r1.val,r2.val,r6.val.1,r6.val.2,r8.val,[]⟩ [] x9.2 (cq (E9 x1.1 x2.1 x3.1 x4.1 x5.1 x6.1 x8.1)) (n35 e)) K10) fun e=>K10 (by rw[v9 e];exact x9)
    ir.mk (b:=bm) (fun e=>VE (q ⟨r1.val,r2.val,r6.val.1,r6.val.2,[],[]⟩ [] x7.2 (cq (E7 x1.1 x2.1 x3.1 x4.1 x5.1 x6.1)) (n30 e)) K8) fun e=>K8 (by rw[v7 e];exact x7))))
 refine fg [] h.bY [(4,.au (fK 0 g A n c r1 ab)),(7,.au (fK 0 g A n c r2 oO)),(11,.au (fK 0 g A n c r3 ab)),(12,.bin (.bool ar)),(13,.au (fK 0 g A n c r4 (fun _=>.tuple #[]))),(17,.call (.int .i64 ck)),bq 18 cb,(19,.au (fK 0 g A n c r5 (fun _=>.tuple #[]))),(22,.au (fK 0 g A n c r6 BF)),(28,.au (fK 0 g A n c (Out.ok bm p7) (fun b=>.bool b))),(30,.au (fK 0 g A n c r8 ab)),(33,.au (fK 0 g A n c (Out.ok bi p9) (fun b=>.bool b))),(35,.au (fK 0 g A n c r10 ab))] [] (by kernel_rfl) func190 rfl (dR rfl) ?_;cases bm with
 |true=>
  cases bi with
  |true=>exact VW (by kernel_rfl) CH
  |false=>obtain rfl:=v9 rfl;exact VW (by kernel_rfl) CH
 |false=>
  obtain rfl:=v7 rfl;cases bi with
  |true=>exact VW (by kernel_rfl) CH
  |false=>obtain rfl:=v9 rfl;exact VW (by kernel_rfl) CH
open Go.RowKit Go.Lib Go.Sort
structure Sl where
 A:Option Go.Addr
 c:Nat
structure fN where
 p:Sl
 r:Sl
 l:Sl
 m:Sl
 i:Sl
def CF.cp(cf:CF):List Value:=cf.ag.map (.int .i64 ·)
def CF.cr(cf:CF):List Value:=cf.ae.flatMap Rt.cells
def CF.cl(cf:CF):List Value:=cf.rules.flatMap Rl.cells
def CF.cm(cf:CF):List Value:=cf.af.flatMap Me.cells
def CF.ci(cf:CF):List Value:=cf.aa.flatMap Mi.cells
def Vt(g gc gd:Nat)(s:fN):List (Option Nat):=[some g,some gc,some gd,s.p.A.map (·.block),s.r.A.map (·.block),s.l.A.map (·.block),s.m.A.map (·.block),s.i.A.map (·.block)]
def Aw(g gc gd:Nat)(s:fN):List Nat:=(Vt g gc gd s).filterMap id
structure oL(w:World)(gc:Nat)(cf:CF)(s:fN):Prop where
 bY:aq w gc 46 [.slice s.p.A cf.ag.length s.p.c,.slice s.r.A cf.ae.length s.r.c,.slice s.l.A cf.rules.length s.l.c,.slice s.m.A cf.af.length s.m.c,.slice s.i.A cf.aa.length s.i.c,.int .i64 cf.aR]
 p:Own w 3 1 (.slice s.p.A cf.ag.length s.p.c) cf.ag.length cf.cp
 r:Own w 118 19 (.slice s.r.A cf.ae.length s.r.c) cf.ae.length cf.cr
 l:Own w 81 49 (.slice s.l.A cf.rules.length s.l.c) cf.rules.length cf.cl
 m:Own w 122 4 (.slice s.m.A cf.af.length s.m.c) cf.af.length cf.cm
 i:Own w 124 3 (.slice s.i.A cf.aa.length s.i.c) cf.aa.length cf.ci
structure TZ(w:World)(g gc gd:Nat)(A:Option Go.Addr)(n c i:Nat)(ws:List Bs)(cf:CF)(d:Nat)(s:fN):Prop where
 rI:sf w (Aw g gc gd s) g A n c i ws
 at_:oL w gc cf s
 bd:aq w gd 3 [.int .i64 (d:Int)]
 nd:(Aw g gc gd s).Nodup
 nQ:cf.ag.length≤1100000∧cf.ae.length≤1100000∧cf.rules.length≤1100000∧cf.af.length≤1100000∧cf.aa.length≤1100000
 TU:d≤1100000
def Th(g gc gd:Nat)(A:Option Go.Addr)(n c i:Nat)(cf:CF)(d:Nat):List Sx.Row:=
 [⟨154,.dj g (dh A n c i)⟩,⟨46,.iC gc [.own 3,.own 4,.own 5,.own 6,.own 7,.val (.int .i64 cf.aR)]⟩,⟨3,.dj gd [.int .i64 (d:Int)]⟩,
  ⟨3,.own 1 cf.ag.length cf.cp⟩,⟨118,.own 19 cf.ae.length cf.cr⟩,⟨81,.own 49 cf.rules.length cf.cl⟩,⟨122,.own 4 cf.af.length cf.cm⟩,⟨124,.own 3 cf.aa.length cf.ci⟩]
def Qc(g gc gd:Nat)(A:Option Go.Addr)(n c:Nat)(T:Out CF)(d:Nat)(l:List Sx.SV)(mem:List Sx.Row):Prop:=
 ∃(cf:CF) (i k0 k1 k2 k3 k4:Nat),T=.ok cf i∧i≤n∧l=[]∧mem[0]?=some ⟨154,.dj g (dh A n c i)⟩∧mem[1]?=some ⟨46,.iC gc [.own k0,.own k1,.own k2,.own k3,.own k4,.val (.int .i64 cf.aR)]⟩∧mem[2]?=some ⟨3,.dj gd [.int .i64 (d:Int)]⟩∧
 mem[k0]?=some ⟨3,.own 1 cf.ag.length cf.cp⟩∧mem[k1]?=some ⟨118,.own 19 cf.ae.length cf.cr⟩∧mem[k2]?=some ⟨81,.own 49 cf.rules.length cf.cl⟩∧mem[k3]?=some ⟨122,.own 4 cf.af.length cf.cm⟩∧mem[k4]?=some ⟨124,.own 3 cf.aa.length cf.ci⟩
def qI(g gc gd:Nat)(A:Option Go.Addr)(n c:Nat)(T:Out CF)(d:Nat)(S:List Nat)(w:World)(e:Ending)(w':World):Prop:=
 (∃cf i s,T=.ok cf i∧i≤n∧e=.returned (.tuple #[])∧aq w' g 154 (dh A n c i)∧oL w' gc cf s∧aq w' gd 3 [.int .i64 (d:Int)]∧(Aw g gc gd s).Nodup∧(∀k∈Aw g gc gd s,k∈S∨w.heap.size≤k)∧ah S w w')∨
 (∃code p chain,T=.no code p∧e=.panicked chain∧BM code p w chain w'∧ah S w w')
theorem tL{mem:List Sx.Row}{β:Sx.Env}(inj:∀(i j:Nat) (r r':Sx.Row) (k:Nat),mem[i]?=some r→mem[j]?=some r'→Sx.av β i r=some k→Sx.av β j r'=some k→i=j) :
  ∀(l:List (Nat×Option Nat)),(l.map (·.1)).Nodup→(∀x∈l,∀k,x.2=some k→∃r,mem[x.1]?=some r∧Sx.av β x.1 r=some k)→((l.map (·.2)).filterMap id).Nodup
 | [],_,_=>by simp
 |x::l,hn,hr=>by
  rw[VU,VH]at hn;have ih:=tL inj l hn.2 fun y hy=>hr y (VL _ hy);cases hx:x.2 with
  |none=>simpa[hx]using ih
  |some k=>
   have e:((x::l).map (·.2)).filterMap id=k::(l.map (·.2)).filterMap id:=by simp[hx]
   rw[e,VH];refine⟨fun hk=>?_,ih⟩;obtain⟨o,ho,hok⟩:=VF.1 hk;obtain⟨y,hy,rfl⟩:=VM.1 ho;obtain⟨r,h1,h2⟩:=hr x (by simp) k hx;obtain⟨r',h3,h4⟩:=hr y (VL _ hy) k hok;have:=inj _ _ _ _ _ h1 h3 h2 h4;exact hn.1 (VM.2 ⟨y,hy,this.symm⟩)
theorem qI.gw{g gc gd:Nat}{A:Option Go.Addr}{n c:Nat}{T:Out CF}{d:Nat}{S:List Nat}{w:World}{e:Ending}{w':World}(h:Sx.cI ⟨w,S,mS T w⟩ (Qc g gc gd A n c T d) e w'):qI g gc gd A n c T d S w e w':=by
 rcases h with⟨β,l,mem,⟨cf,i,k0,k1,k2,k3,k4,h1,h2,rfl,m0,m1,m2,q0,q1,q2,q3,q4⟩,he,hR⟩ | ⟨chain,he,⟨code,p,h1,hf⟩,hc⟩
 ·have r0:=hR.held 0 _ m0
  have r1:=hR.held 1 _ m1;have r2:=hR.held 2 _ m2;have o0:=hR.held k0 _ q0;have o1:=hR.held k1 _ q1;have o2:=hR.held k2 _ q2;have o3:=hR.held k3 _ q3;have o4:=hR.held k4 _ q4;have e0:β 0=g:=r0.1;have e1:β 1=gc:=r1.1;have e2:β 2=gd:=r2.1;have o0:β.n k0=cf.ag.length∧Own w' 3 1 (.slice (β.a k0) cf.ag.length (β.c k0)) cf.ag.length cf.cp:=o0;have o1:β.n k1=cf.ae.length∧Own w' 118 19 (.slice (β.a k1) cf.ae.length (β.c k1)) cf.ae.length cf.cr:=o1;have o2:β.n k2=cf.rules.length∧Own w' 81 49 (.slice (β.a k2) cf.rules.length (β.c k2)) cf.rules.length cf.cl:=o2;have o3:β.n k3=cf.af.length∧Own w' 122 4 (.slice (β.a k3) cf.af.length (β.c k3)) cf.af.length cf.cm:=o3;have o4:β.n k4=cf.aa.length∧Own w' 124 3 (.slice (β.a k4) cf.aa.length (β.c k4)) cf.aa.length cf.ci:=o4;have b1:aq w' gc 46 [.slice (β.a k0) cf.ag.length (β.c k0),.slice (β.a k1) cf.ae.length (β.c k1),.slice (β.a k2) cf.rules.length (β.c k2),.slice (β.a k3) cf.af.length (β.c k3),.slice (β.a k4) cf.aa.length (β.c k4),.int .i64 cf.aR]:=by have:=r1.2;rw[e1]at this;have hh:([Sx.SV.own k0,.own k1,.own k2,.own k3,.own k4,.val (.int .i64 cf.aR)].map (Sx.SV.den β))=[β.sl k0,β.sl k1,β.sl k2,β.sl k3,β.sl k4,.int .i64 cf.aR]:=rfl;rw[hh]at this;unfold Sx.Env.sl at this;rw[o0.1,o1.1,o2.1,o3.1,o4.1]at this;exact this
  have rows:∀x∈[(0,some g),(1,some gc),(2,some gd),(k0,(β.a k0).map (·.block)),(k1,(β.a k1).map (·.block)),(k2,(β.a k2).map (·.block)),(k3,(β.a k3).map (·.block)),(k4,(β.a k4).map (·.block))],∀k,x.2=some k→∃r,mem[x.1]?=some r∧Sx.av β x.1 r=some k:=by
   intro x hx k hk;simp only[VO,VN,or_false]at hx;rcases hx with rfl|rfl|rfl|rfl|rfl|rfl|rfl|rfl
   ·exact⟨_,m0,by show some (β 0)=_;rw[e0];exact hk⟩
   ·exact⟨_,m1,by show some (β 1)=_;rw[e1];exact hk⟩
   ·exact⟨_,m2,by show some (β 2)=_;rw[e2];exact hk⟩
   ·exact⟨_,q0,hk⟩
   ·exact⟨_,q1,hk⟩
   ·exact⟨_,q2,hk⟩
   ·exact⟨_,q3,hk⟩
   ·exact⟨_,q4,hk⟩
  have d:∀{a b:Nat} {r r':Sx.Row},mem[a]?=some r→mem[b]?=some r'→r≠r'→a≠b:=fun {a b r r'} ha hb hne he=>by subst he;rw[ha]at hb;exact hne (Option.some.inj hb)
  have nd:[0,1,2,k0,k1,k2,k3,k4].Nodup:=by simp only[VH,VO,VN,or_false,not_or,not_false_eq_true,List.nodup_nil,and_true];exact⟨⟨(d m0 m1 (fun h=>by cases h)),(d m0 m2 (fun h=>by cases h)),(d m0 q0 (fun h=>by cases h)),(d m0 q1 (fun h=>by cases h)),(d m0 q2 (fun h=>by cases h)),(d m0 q3 (fun h=>by cases h)),(d m0 q4 (fun h=>by cases h))⟩,⟨(d m1 m2 (fun h=>by cases h)),(d m1 q0 (fun h=>by cases h)),(d m1 q1 (fun h=>by cases h)),(d m1 q2 (fun h=>by cases h)),(d m1 q3 (fun h=>by cases h)),(d m1 q4 (fun h=>by cases h))⟩,⟨(d m2 q0 (fun h=>by cases h)),(d m2 q1 (fun h=>by cases h)),(d m2 q2 (fun h=>by cases h)),(d m2 q3 (fun h=>by cases h)),(d m2 q4 (fun h=>by cases h))⟩,⟨(d q0 q1 (fun h=>by cases h)),(d q0 q2 (fun h=>by cases h)),(d q0 q3 (fun h=>by cases h)),(d q0 q4 (fun h=>by cases h))⟩,⟨(d q1 q2 (fun h=>by cases h)),(d q1 q3 (fun h=>by cases h)),(d q1 q4 (fun h=>by cases h))⟩,⟨(d q2 q3 (fun h=>by cases h)),(d q2 q4 (fun h=>by cases h))⟩,(d q3 q4 (fun h=>by cases h))⟩
  refine .inl ⟨cf,i,⟨⟨β.a k0,β.c k0⟩,⟨β.a k1,β.c k1⟩,⟨β.a k2,β.c k2⟩,⟨β.a k3,β.c k3⟩,⟨β.a k4,β.c k4⟩⟩,h1,h2,he,e0 ▸ r0.2,⟨b1,o0.2,o1.2,o2.2,o3.2,o4.2⟩,e2 ▸ r2.2,?_,fun k hk=>?_,hR.aD⟩
  ·exact tL hR.inj [(0,some g),(1,some gc),(2,some gd),(k0,(β.a k0).map (·.block)),(k1,(β.a k1).map (·.block)),(k2,(β.a k2).map (·.block)),(k3,(β.a k3).map (·.block)),(k4,(β.a k4).map (·.block))] nd rows
  ·obtain⟨o,ho,hok⟩:=VF.1 hk
   have hm:o∈([(0,some g),(1,some gc),(2,some gd),(k0,(β.a k0).map (·.block)),(k1,(β.a k1).map (·.block)),(k2,(β.a k2).map (·.block)),(k3,(β.a k3).map (·.block)),(k4,(β.a k4).map (·.block))]:List (Nat×Option Nat)).map (·.2):=ho;obtain⟨x,hx,rfl⟩:=VM.1 hm;obtain⟨r,hr,hb⟩:=rows x hx k hok;exact hR.new x.1 r k hr hb
 ·exact .inr ⟨code,p,chain,h1,he,hf,hc⟩
def UD(g gc gd:Nat)(A:Option Go.Addr)(n c i:Nat)(cf:CF)(d:Nat)(s:fN):List Sx.jz:=
 [.bY g 154 (dh A n c i),.mL gc 46 [.own 3,.own 4,.own 5,.own 6,.own 7,.val (.int .i64 cf.aR)],.bY gd 3 [.int .i64 (d:Int)],
  .own 3 1 s.p.A cf.ag.length s.p.c cf.cp,.own 118 19 s.r.A cf.ae.length s.r.c cf.cr,.own 81 49 s.l.A cf.rules.length s.l.c cf.cl,.own 122 4 s.m.A cf.af.length s.m.c cf.cm,.own 124 3 s.i.A cf.aa.length s.i.c cf.ci]
theorem lg{P:Program}{w:World}{f:FuncId}{fn:Func}{co:Code}{g gc gd:Nat}{A:Option Go.Addr}{n c i:Nat}{ws:List Bs}{cf:CF}{d d':Nat}{s:fN}{T:Out CF}(h:TZ w g gc gd A n c i ws cf d s)(H:List (Nat×Sx.Hint))(L:List Sx.Loop)
  (hm:P.follows .mixedOrders=true) (hf:P.funcs[f]?=some fn) (hbd:fn.body=some co) (hn:3≤fn.ntmps)
  (hx:Sx.lj P fn.ntmps ⟨w,Aw g gc gd s,mS T w⟩ co H L ⟨Sx.lB 0 [.ptr 0 0,.ptr 1 0,.ptr 2 0],Th g gc gd A n c i cf d⟩ (Sx.eX P fn (Qc g gc gd A n c T d'))) :
  Calls P f #[.pointer (some ⟨g,0,none⟩),.pointer (some ⟨gc,0,none⟩),.pointer (some ⟨gd,0,none⟩)] w (qI g gc gd A n c T d' (Aw g gc gd s) w):=by
 have hF:=Sx.fT (w:=w) (S:=Aw g gc gd s) (PP:=mS T w) (G:=UD g gc gd A n c i cf d s) (fun q hq=>by
  simp only[UD,VO,VN,or_false]at hq;rcases hq with rfl|rfl|rfl|rfl|rfl|rfl|rfl|rfl
  ·exact h.rI.bY
  ·exact h.at_.bY
  ·exact h.bd
  ·exact h.at_.p
  ·exact h.at_.r
  ·exact h.at_.l
  ·exact h.at_.m
  ·exact h.at_.i) (fun q hq k hk=>by
  have:Aw g gc gd s=(UD g gc gd A n c i cf d s).filterMap Sx.jz.block:=rfl;rw[this];exact VF.2 ⟨q,hq,hk⟩) h.nd
 exact(Sx.bO (args:=[.ptr 0 0,.ptr 1 0,.ptr 2 0]) hF H L hm hf hbd hn rfl hx).mono fun _ _=>qI.gw
set_option maxRecDepth 100000
open Go.RowKit Go.Lib Go.Sort _root_.Go.Proofs.Tryz
noncomputable def bytesOf(t:Nat):Nat:=((prog.types[t]?).map (·.bytes)).getD 0
theorem mH:bytesOf 3≤1000∧bytesOf 118≤1000∧bytesOf 81≤1000∧bytesOf 122≤1000∧bytesOf 124≤1000:=by decide+kernel
theorem mO{cells:List Value}{size len B:Nat}(hl:cells.length=1*size)(ha:cells.all (fun u=>u.oneCell')=true)(hn:len≤1100000)(hb:B≤1000) :
  True∧cells.length=1*size∧(∀u:Value,u∈cells→u.oneCell'=true)∧len+1≤maxLen∧(len+1)*B≤140737488355328:=
 ⟨trivial,hl,fun u hu=>List.all_eq_true.1 ha u hu,by unfold maxLen;omega,Nat.le_trans (Nat.mul_le_mul (show len+1≤1100001 by omega) hb) (by decide)⟩
def cF(cf:CF):List Sx.Row:=[⟨3,.own 1 cf.ag.length cf.cp⟩,⟨118,.own 19 cf.ae.length cf.cr⟩,⟨81,.own 49 cf.rules.length cf.cl⟩,⟨122,.own 4 cf.af.length cf.cm⟩,⟨124,.own 3 cf.aa.length cf.ci⟩]
theorem KO{ws:List Bs}{α:Type}{a:α}{i n:Nat}(hl:ws.length=n)(h:decide (i < n)=true):pS ws a i=.no 200 (i+1):=by unfold pS;rw[hl,h]
theorem OH{ws:List Bs}{α:Type}{a:α}{i n:Nat}(hl:ws.length=n)(h:decide (i < n)=false):pS ws a i=.ok a i:=by unfold pS;rw[hl,h]
abbrev TS(g gc gd:Nat)(A:Option Go.Addr)(n c:Nat)(cf:CF)(d i:Nat)(R:List Sx.Row):List Sx.Row:=⟨154,.dj g (dh A n c i)⟩::⟨46,.iC gc [.own 3,.own 4,.own 5,.own 6,.own 7,.val (.int .i64 cf.aR)]⟩::⟨3,.dj gd [.int .i64 (d:Int)]⟩::R
abbrev Vu(g gc gd:Nat):Array Value:=#[(pt g 0),(pt gc 0),(pt gd 0)]
theorem vw{a n:Nat}{b:Bool}(h:decide (a < n)=b):VJ (decide ((a:Int) < (n:Int)))=.bool b:=bz (by rw[←h];congr 1;exact propext (by omega))
theorem Tg(w:World)(g:Nat)(S:List Nat)(A:Option Go.Addr)(n c:Nat){T:Out CF}(p:Nat)(fin:T=.no 200 (p+1))(W:World)(hW:ah S w W)(_:aq W g 154 (dh A n c p)):Calls prog 94 #[(pt g 0),.int .i64 200,.int .i64 ((p:Int)+1)] W (Sx.sg ⟨w,S,mS T w⟩ W [(pt g 0),.int .i64 200,.int .i64 ((p:Int)+1)] (.El [(0,0)])):=jZ (b:=⟨w,S,mS T w⟩) (vs:=[(pt g 0),.int .i64 200,.int .i64 ((p:Int)+1)]) (ps:=[(0,0)]) ((qD ((pt g 0)) 200 ((p:Int)+1) W).mono fun _ _ ⟨ch,he,hf,hc⟩=>⟨ch,he,(show mS T w _ _ from⟨200,p+1,fin,hf.up hW.size⟩),hc⟩)
def QY(a b c d e f:Bool):List (Nat×Sx.Hint):=[(20,.bin (.bool a)),(33,.bin (.bool b)),(50,.bin (.bool c)),(82,.bin (.bool d)),(103,.bin (.bool e)),(116,.bin (.bool f))]
def GL(p:Nat)(b:Bool):List (Nat×Sx.Hint):=[bq 145 b,(151,.is (.int .i64 ((p:Int)+1))),(152,.pW)]
abbrev zM(g gc gd:Nat)(A:Option Go.Addr)(n c p d k0 k1 k2 k3 k4:Nat)(x:Int)(R:List Sx.Row):List Sx.Row:=⟨154,.dj g (dh A n c p)⟩::⟨46,.iC gc [.own k0,.own k1,.own k2,.own k3,.own k4,.val (.int .i64 x)]⟩::⟨3,.dj gd [.int .i64 (d:Int)]⟩::R
def AV(x:Bs)(d:Nat):Nat:=if x=bj then d+1 else d
abbrev px(p:Nat):Value:=.int .i64 ((p:Int)+1)
theorem Sb{w:World}{g gc gd:Nat}{A:Option Go.Addr}{n c i:Nat}{ws:List Bs}{cf cf':CF}{d p:Nat}{s:fN}{T:Out CF}{b:Bool}{Z:Prop}(h:TZ w g gc gd A n c i ws cf d s)(hb:decide (p < n)=b)(hp:p≤n)(fin:T=pS ws cf' p)(hz:T=.ok cf' p→Z) :
  VJ (decide ((p:Int) < (n:Int)))=.bool b∧ir b (Wp .i64 (IntKind.i64.wrap ((p:Int)+1))=px p∧(∀W,ah (Aw g gc gd s) w W→aq W g 154 (dh A n c p)→Calls prog 94 #[(pt g 0),.int .i64 200,px p] W (Sx.sg ⟨w,Aw g gc gd s,mS T w⟩ W [(pt g 0),.int .i64 200,px p] (.El [(0,0)])))∧True) Z:=
 ⟨vw hb,ir.mk (fun e=>⟨iw (Fs (by omega) (by have:=h.rI.bd;omega)),Tg w g (Aw g gc gd s) A n c p (fin.trans (KO h.rI.rM.len (hb.trans e))),trivial⟩) fun e=>hz (fin.trans (OH h.rI.rM.len (hb.trans e)))⟩
def TR(x:Bs)(a b c:Nat):List Sx.Row:=[⟨122,.ai (Me.cells ⟨x,a,b,c⟩)⟩,⟨253,.cU [.ptr 8 1,.ptr 8 2,.ptr 8 3]⟩]
abbrev Uu:Value:=.int .u64 ((18446744073709551615:Nat):Int)
theorem QX{w:World}{g gc gd:Nat}{A:Option Go.Addr}{n c i:Nat}{ws:List Bs}{cf:CF}{d:Nat}{s:fN}(h:TZ w g gc gd A n c i ws cf d s) :
  Calls prog 131 (Vu g gc gd) w (qI g gc gd A n c (pG ws i cf d) (AV (aP ws i).val d) (Aw g gc gd s) w):=by
 have E1:=cy (T:=pG ws i cf d) (aP ws i) rfl;have n12:=fun W (hL:dU W g A n c i ws)=>mn hL;generalize aP ws i=r at E1 n12;have E2:=fun(hr:r.okB=true)=>cy (eV r.val ws r.pos cf d) (cd E1 hr);obtain⟨T,hT⟩:∃T,T=pG ws i cf d:=⟨_,rfl⟩;have key:∀{α:Type} (q:Out α) (f:α→Nat→Out CF),eV r.val ws r.pos cf d=q.bind f→r.okB=true→T=q.bind fun a j=>(f a j).bind fun c j=>pS ws c j:=fun q f hb hr=>by rw[hT,E2 hr,hb];exact Out.bind_assoc _ _ _
 rw[←hT]at E1 E2 ⊢;clear hT;have c12:=iQ (T:=T) 0 (TS g gc gd A n c cf d i (cF cf++[])) [] h.rI h.rI.le (cq E1) rfl n12;have q:∀{j:Nat} {R:List Sx.Row} {α:Type} [Inhabited α] {f:Nat} {V:α→Value} {u:Out α} (rest:List Value),j≤n→Vf u T→(∀W,dU W g A n c j ws→Calls prog f (.pointer (some ⟨g,0,none⟩)::rest).toArray W (bC g A n c V u W))→_:=fun {j R α _ f V u} rest hj hno hn=>iQ (T:=T) 0 (TS g gc gd A n c cf d j (cF cf++R)) rest h.rI hj hno rfl hn;have sk:∀(k:Bs) {b:Bool},decide (r.val=k)=b→_:=fun k b hb W=>fP (.tmp 12) (.const (ab k)) r.val k b hb W;by_cases k0:r.val=kp
 ·rw[show AV r.val d=d by unfold AV;rw[k0];rfl]
  have E3:=fun hr=>cy (gz ws r.pos) (key (gz ws r.pos) _ (by unfold eV;rw[if_pos k0]) hr);have n27:=fun W (hL:dU W g A n c r.pos ws)=>tV hL;generalize gz ws r.pos=r2 at E3 n27;obtain⟨b,hb⟩:∃b,decide (r2.pos < n)=b:=⟨_,rfl⟩
  have CH:=VE c12 fun(x:RP r n)=>VE (sk kp (decide_eq_true k0)) (VE (q (R:=[]) [] x.2 (cq (E3 x.1)) n27) (VE (fun(y:RP r2 n)=>VE (mO (cells:=[pH r2.val]) (size:=1) (B:=bytesOf 3) (by kernel_rfl) (by kernel_rfl) h.nQ.1 mH.1)
   (Sb h hb y.2 (cd (E3 x.1) y.1) fun e=>(show Qc g gc gd A n c T d [] (zM g gc gd A n c r2.pos d 9 4 5 6 7 cf.aR ((cF cf).set 0 Sx.ak++[⟨3,.ai [pH r2.val]⟩,⟨3,.own 1 (cf.ag.length+1) (cf.cp++[pH r2.val])⟩]))from
    ⟨_,_,9,4,5,6,7,e,y.2,rfl,rfl,rfl,rfl,congrArg some (by simp[CF.cp,pH]),rfl,rfl,rfl,rfl⟩))) fun(_:¬RP r2 n)=>trivial))
  refine lg h ((12,.au (fK 0 g A n c r ab))::(27,.au (fK 0 g A n c r2 pH))::(QY true false false false false false++GL r2.pos b)) [] (by kernel_rfl) func131 rfl (dR rfl) ?_;cases b<;>exact VW (by kernel_rfl) CH
 have f0:=decide_eq_false k0;by_cases k1:r.val=di
 ·rw[show AV r.val d=d by unfold AV;rw[k1];rfl]
  have E3:=fun hr=>cy (cZ ws r.pos) (key (cZ ws r.pos) _ (by unfold eV;rw[if_neg k0,if_pos k1]) hr);have n35:=fun W (hL:dU W g A n c r.pos ws)=>qx hL;generalize cZ ws r.pos=r2 at E3 n35;have E4:=fun hr h2=>cy (gz ws r2.pos) ((cd (E3 hr) h2).trans (Out.bind_assoc (gz ws r2.pos) _ _));have n43:=fun W (hL:dU W g A n c r2.pos ws)=>tV hL;generalize gz ws r2.pos=r3 at E4 n43;obtain⟨b,hb⟩:∃b,decide (r3.pos < n)=b:=⟨_,rfl⟩;obtain⟨u,hu⟩:∃u:Rt,u=⟨r2.val,(r3.val:Int)⟩:=⟨_,rfl⟩
  have CH:=VE c12 fun(x:RP r n)=>VE (sk kp f0) (VE (sk di (decide_eq_true k1)) (VE (q (R:=[]) [] x.2 (cq (E3 x.1)) n35) fun(y:RP r2 n)=>VE (q (R:=[⟨29,.ai r2.val.cells⟩]) [] y.2 (cq (E4 x.1 y.1)) n43) (VE (fun(z:RP r3 n)=>VE (mO (cells:=Rt.cells ⟨r2.val,(r3.val:Int)⟩) (size:=19) (B:=bytesOf 118) (by kernel_rfl) (by kernel_rfl) h.nQ.2.1 mH.2.1)
   (Sb h hb z.2 (cd (E4 x.1 y.1) z.1) fun e=>(show Qc g gc gd A n c T d [] (zM g gc gd A n c r3.pos d 3 10 5 6 7 cf.aR ((cF cf).set 1 Sx.ak++[⟨29,.ai r2.val.cells⟩,⟨118,.ai (Rt.cells ⟨r2.val,(r3.val:Int)⟩)⟩,⟨118,.own 19 (cf.ae.length+1) (cf.cr++Rt.cells ⟨r2.val,(r3.val:Int)⟩)⟩]))from
    ⟨_,_,3,10,5,6,7,e,z.2,rfl,rfl,rfl,rfl,rfl,congrArg some (by simp[CF.cr]),rfl,rfl,rfl⟩))) fun(_:¬RP r3 n)=>trivial)))
  refine lg h ((12,.au (fK 0 g A n c r ab))::(35,.au (fK 0 g A n c r2 rT))::(43,.au (fK 0 g A n c r3 pH))::(QY false true false false false false++GL r3.pos b)) [] (by kernel_rfl) func131 rfl (dR rfl) ?_;cases b<;>exact VW (by kernel_rfl) CH
 have f1:=decide_eq_false k1;by_cases k2:r.val=bK
 ·rw[show AV r.val d=d by unfold AV;rw[k2];rfl]
  have E3:=fun hr=>cy (fh ws r.pos) (key (fh ws r.pos) _ (by unfold eV;rw[if_neg k0,if_neg k1,if_pos k2]) hr);have n52:=fun W (hL:dU W g A n c r.pos ws)=>pA hL;generalize fh ws r.pos=r2 at E3 n52;have E4:=fun hr h2=>cy (bc 18446744073709551615 ws r2.pos) ((cd (E3 hr) h2).trans (Out.bind_assoc (bc 18446744073709551615 ws r2.pos) _ _));have m1:=fun W (hL:dU W g A n c r2.pos ws)=>kn 18446744073709551615 (by omega) hL;generalize bc 18446744073709551615 ws r2.pos=r3 at E4 m1;have E5:=fun hr h2 h3=>cy (bc 18446744073709551615 ws r3.pos) ((cd (E4 hr h2) h3).trans (Out.bind_assoc (bc 18446744073709551615 ws r3.pos) _ _));have m2:=fun W (hL:dU W g A n c r3.pos ws)=>kn 18446744073709551615 (by omega) hL;generalize bc 18446744073709551615 ws r3.pos=r4 at E5 m2;have E6:=fun hr h2 h3 h4=>cy (bc 18446744073709551615 ws r4.pos) ((cd (E5 hr h2 h3) h4).trans (Out.bind_assoc (bc 18446744073709551615 ws r4.pos) _ _));have m3:=fun W (hL:dU W g A n c r4.pos ws)=>kn 18446744073709551615 (by omega) hL;generalize bc 18446744073709551615 ws r4.pos=r5 at E6 m3;obtain⟨b,hb⟩:∃b,decide (r5.pos < n)=b:=⟨_,rfl⟩;have CH:=VE c12 fun(x:RP r n)=>VE (sk kp f0) (VE (sk di f1) (VE (sk bK (decide_eq_true k2)) (VE (q (R:=[]) [] x.2 (cq (E3 x.1)) n52) fun(y:RP r2 n)=>VE (q (R:=TR r2.val 0 0 0) [Uu] y.2 (cq (E4 x.1 y.1)) m1) fun(z:RP r3 n)=>VE (q (R:=TR r2.val r3.val 0 0) [Uu] z.2 (cq (E5 x.1 y.1 z.1)) m2) fun(u:RP r4 n)=>VE (q (R:=TR r2.val r3.val r4.val 0) [Uu] u.2 (cq (E6 x.1 y.1 z.1 u.1)) m3) fun(v:RP r5 n)=>
   VE (mO (cells:=Me.cells ⟨r2.val,r3.val,r4.val,r5.val⟩) (size:=4) (B:=bytesOf 122) (by kernel_rfl) (by kernel_rfl) h.nQ.2.2.2.1 mH.2.2.2.1)
   (Sb h hb v.2 (cd (E6 x.1 y.1 z.1 u.1) v.1) fun e=>(show Qc g gc gd A n c T d [] (zM g gc gd A n c r5.pos d 3 4 5 11 7 cf.aR ((cF cf).set 3 Sx.ak++(TR r2.val r3.val r4.val r5.val++[⟨122,.ai (Me.cells ⟨r2.val,r3.val,r4.val,r5.val⟩)⟩,⟨122,.own 4 (cf.af.length+1) (cf.cm++Me.cells ⟨r2.val,r3.val,r4.val,r5.val⟩)⟩])))from
    ⟨_,_,3,4,5,11,7,e,v.2,rfl,rfl,rfl,rfl,rfl,rfl,rfl,congrArg some (by simp[CF.cm]),rfl⟩)))))
  refine lg h ((12,.au (fK 0 g A n c r ab))::(52,.au (fK 0 g A n c r2 ab))::(QY false false true false false false++GL r5.pos b)) [.times [[(68,.au (fK 0 g A n c r3 qu))],[(68,.au (fK 0 g A n c r4 qu))],[(68,.au (fK 0 g A n c r5 qu))],[]]] (by kernel_rfl) func131 rfl (dR rfl) ?_;cases b<;>exact VW (by kernel_rfl) CH
 have f2:=decide_eq_false k2;by_cases k3:r.val=ba
 ·rw[show AV r.val d=d by unfold AV;rw[k3];rfl]
  have E3:=fun hr=>cy (fh ws r.pos) (key (fh ws r.pos) _ (by unfold eV;rw[if_neg k0,if_neg k1,if_neg k2,if_pos k3]) hr);have n84:=fun W (hL:dU W g A n c r.pos ws)=>pA hL;generalize fh ws r.pos=r2 at E3 n84;have E4:=fun hr h2=>cy (gz ws r2.pos) ((cd (E3 hr) h2).trans (Out.bind_assoc (gz ws r2.pos) _ _));have m1:=fun W (hL:dU W g A n c r2.pos ws)=>tV hL;generalize gz ws r2.pos=r3 at E4 m1;have E5:=fun hr h2 h3=>cy (gz ws r3.pos) ((cd (E4 hr h2) h3).trans (Out.bind_assoc (gz ws r3.pos) _ _));have m2:=fun W (hL:dU W g A n c r3.pos ws)=>tV hL;generalize gz ws r3.pos=r4 at E5 m2;obtain⟨b,hb⟩:∃b,decide (r4.pos < n)=b:=⟨_,rfl⟩;have CH:=VE c12 fun(x:RP r n)=>VE (sk kp f0) (VE (sk di f1) (VE (sk bK f2) (VE (sk ba (decide_eq_true k3)) (VE (q (R:=[]) [] x.2 (cq (E3 x.1)) n84) fun(y:RP r2 n)=>VE (q (R:=[⟨124,.ai (Mi.cells ⟨r2.val,0,0⟩)⟩]) [] y.2 (cq (E4 x.1 y.1)) m1) fun(z:RP r3 n)=>VE (q (R:=[⟨124,.ai (Mi.cells ⟨r2.val,(r3.val:Int),0⟩)⟩]) [] z.2 (cq (E5 x.1 y.1 z.1)) m2) fun(u:RP r4 n)=>
   VE (mO (cells:=Mi.cells ⟨r2.val,(r3.val:Int),(r4.val:Int)⟩) (size:=3) (B:=bytesOf 124) (by kernel_rfl) (by kernel_rfl) h.nQ.2.2.2.2 mH.2.2.2.2)
   (Sb h hb u.2 (cd (E5 x.1 y.1 z.1) u.1) fun e=>(show Qc g gc gd A n c T d [] (zM g gc gd A n c r4.pos d 3 4 5 6 10 cf.aR ((cF cf).set 4 Sx.ak++[⟨124,.ai (Mi.cells ⟨r2.val,(r3.val:Int),(r4.val:Int)⟩)⟩,⟨124,.ai (Mi.cells ⟨r2.val,(r3.val:Int),(r4.val:Int)⟩)⟩,⟨124,.own 3 (cf.aa.length+1) (cf.ci++Mi.cells ⟨r2.val,(r3.val:Int),(r4.val:Int)⟩)⟩]))from
    ⟨_,_,3,4,5,6,10,e,u.2,rfl,rfl,rfl,rfl,rfl,rfl,rfl,rfl,congrArg some (by simp[CF.ci])⟩))))))
  refine lg h ((12,.au (fK 0 g A n c r ab))::(84,.au (fK 0 g A n c r2 ab))::(87,.au (fK 0 g A n c r3 pH))::(90,.au (fK 0 g A n c r4 pH))::(QY false false false true false false++GL r4.pos b)) [] (by kernel_rfl) func131 rfl (dR rfl) ?_;cases b<;>exact VW (by kernel_rfl) CH
 have f3:=decide_eq_false k3;by_cases k4:r.val=fY
 ·rw[show AV r.val d=d by unfold AV;rw[k4];rfl]
  have E3:=fun hr=>cy (lU ws r.pos) (key (lU ws r.pos) _ (by unfold eV;rw[if_neg k0,if_neg k1,if_neg k2,if_neg k3,if_pos k4]) hr);have n110:=fun W (hL:dU W g A n c r.pos ws)=>NN hL;generalize lU ws r.pos=r2 at E3 n110;obtain⟨b,hb⟩:∃b,decide (r2.pos < n)=b:=⟨_,rfl⟩;have CH:=VE c12 fun(x:RP r n)=>VE (sk kp f0) (VE (sk di f1) (VE (sk bK f2) (VE (sk ba f3) (VE (sk fY (decide_eq_true k4)) (VE (q (R:=[]) [] x.2 (cq (E3 x.1)) n110) (VE (fun(y:RP r2 n)=>
   VE (mO (cells:=r2.val.cells) (size:=49) (B:=bytesOf 81) (by kernel_rfl) (by kernel_rfl) h.nQ.2.2.1 mH.2.2.1)
   (Sb h hb y.2 (cd (E3 x.1) y.1) fun e=>(show Qc g gc gd A n c T d [] (zM g gc gd A n c r2.pos d 3 4 9 6 7 cf.aR ((cF cf).set 2 Sx.ak++[⟨81,.ai r2.val.cells⟩,⟨81,.own 49 (cf.rules.length+1) (cf.cl++r2.val.cells)⟩]))from
    ⟨_,_,3,4,9,6,7,e,y.2,rfl,rfl,rfl,rfl,rfl,rfl,congrArg some (by simp[CF.cl]),rfl,rfl⟩))) fun(_:¬RP r2 n)=>trivial))))))
  refine lg h ((12,.au (fK 0 g A n c r ab))::(110,.au (fK 0 g A n c r2 TO))::(QY false false false false true false++GL r2.pos b)) [] (by kernel_rfl) func131 rfl (dR rfl) ?_;cases b<;>exact VW (by kernel_rfl) CH
 have f4:=decide_eq_false k4;by_cases k5:r.val=bj
 ·rw[show AV r.val d=d+1 by unfold AV;rw[if_pos k5]]
  have hdle:=h.TU;have E3:=fun hr=>cy (aK (decide (d=0)) 200 () r.pos) (key (aK (decide (d=0)) 200 () r.pos) _ (by unfold eV;rw[if_neg k0,if_neg k1,if_neg k2,if_neg k3,if_neg k4,if_pos k5]) hr);have hd0:VJ (((d+1:Nat):Int)==1)=.bool (decide (d=0)):=by
   congr 1;by_cases h0:d=0
   ·rw[h0];rfl
   ·rw[decide_eq_false h0,beq_eq_false_iff_ne];omega
  generalize decide (d=0)=d0 at E3 hd0;have n127:=fun W (hL:dU W g A n c r.pos ws)=>lJ d0 200 () hL;generalize aK d0 200 () r.pos=r1 at E3 n127;have E4:=fun hr h2=>cy (nL false ws r1.pos) ((cd (E3 hr) h2).trans (Out.bind_assoc (nL false ws r1.pos) _ _));have n131:=fun W (hL:dU W g A n c r1.pos ws)=>wA false hL;generalize nL false ws r1.pos=r2 at E4 n131;obtain⟨b,hb⟩:∃b,decide (r2.pos < n)=b:=⟨_,rfl⟩
  have CH:=VE c12 fun(x:RP r n)=>VE (sk kp f0) (VE (sk di f1) (VE (sk bK f2) (VE (sk ba f3) (VE (sk fY f4) (VE (sk bj (decide_eq_true k5)) (VE (show Wp .i64 (IntKind.i64.wrap ((d:Int)+1))=.int .i64 ((d+1:Nat):Int)from iw (by rw[Fs (by omega) (by omega)];rfl)) (VE hd0
   (VE (iQ (T:=T) 0 (TS g gc gd A n c cf (d+1) r.pos (cF cf++[])) [.bool d0,.int .i64 200] h.rI x.2 (cq (E3 x.1)) rfl n127) fun(y:RP r1 n)=>VE (iQ (T:=T) 0 (TS g gc gd A n c cf (d+1) r1.pos (cF cf++[])) [.bool false] h.rI y.2 (cq (E4 x.1 y.1)) rfl n131) fun(z:RP r2 n)=>
   (Sb h hb z.2 (cd (E4 x.1 y.1) z.1) fun e=>(show Qc g gc gd A n c T (d+1) [] (zM g gc gd A n c r2.pos (d+1) 3 4 5 6 7 r2.val.1 (cF cf++[]))from⟨_,_,3,4,5,6,7,e,z.2,rfl,rfl,rfl,rfl,rfl,rfl,rfl,rfl,rfl⟩))))))))))
  refine lg h ((12,.au (fK 0 g A n c r ab))::(120,.is (.int .i64 ((d+1:Nat):Int)))::(126,.is (.bool d0))::(127,.au (fK 0 g A n c r1 (fun _=>.tuple #[])))::(131,.au (fK 0 g A n c r2 BF))::(QY false false false false false true++GL r2.pos b)) [] (by kernel_rfl) func131 rfl (dR rfl) ?_;cases b<;>exact VW (by kernel_rfl) CH
 ·rw[show AV r.val d=d by unfold AV;rw[if_neg k5]]
  have fin:r.okB=true→T=.no 200 r.pos:=fun hr=>by rw[E2 hr];unfold eV;rw[if_neg k0,if_neg k1,if_neg k2,if_neg k3,if_neg k4,if_neg k5];rfl
  have CH:=VE c12 fun(x:RP r n)=>Sx.t4 (sk kp f0) (sk di f1) (sk bK f2) (sk ba f3) (Sx.t2 (sk fY f4) (sk bj (decide_eq_false k5)) (VE (fun W (hW:ah (Aw g gc gd s) w W) (_:aq W g 154 (dh A n c r.pos))=>jZ (b:=⟨w,Aw g gc gd s,mS T w⟩) (vs:=[.pointer (some ⟨g,0,none⟩),.int .i64 200,.int .i64 (r.pos:Int)]) (ps:=[(0,0)]) ((qD (.pointer (some ⟨g,0,none⟩)) 200 (r.pos:Int) W).mono fun _ _ ⟨ch,he,hf,hc⟩=>⟨ch,he,(show mS T w _ _ from⟨200,r.pos,fin x.1,hf.up hW.size⟩),hc⟩)) trivial));refine lg h ((12,.au (fK 0 g A n c r ab))::(18,.pW)::QY false false false false false false) [] (by kernel_rfl) func131 rfl (dR rfl) ?_;exact VW (by kernel_rfl) CH
open Go.RowKit Go.Lib Go.Sort
def sB(c:UInt8):Bool:=c==32||c==9
def wC(cm:Bool)(c:UInt8):Bool:=!sB c&&!(cm&&c==35)
def runN(p:UInt8→Bool)(s:Bs)(i:Nat):Nat:=i+((s.drop i).takeWhile p).length
theorem kQ(p:UInt8→Bool)(s:Bs)(i:Nat):i≤runN p s i:=Nat.le_add_right _ _
theorem Ix(p:UInt8→Bool):∀l:Bs,(l.takeWhile p).length≤l.length
 | []=>by simp
 |c::l=>by
  rw[VI];split
  ·have:=Ix p l;simp;omega
  ·simp
theorem kO(p:UInt8→Bool)(s:Bs)(i:Nat)(hi:i≤s.length):runN p s i≤s.length:=by have:=Ix p (s.drop i);rw[Wg]at this;unfold runN;omega
theorem Pv(p:UInt8→Bool):∀(l:Bs) (j:Nat),j < (l.takeWhile p).length→∃c,l[j]?=some c∧p c=true
 | [],j,h=>by simp at h
 |c::l,j,h=>by
  rw[VI]at h;split at h
  ·rename_i hc
   cases j with
   |zero=>exact⟨c,rfl,hc⟩
   |succ j=>exact Pv p l j (by simpa using h)
  ·simp at h
theorem Iw(p:UInt8→Bool):∀(l:Bs),(l.takeWhile p).length < l.length→∃c,l[(l.takeWhile p).length]?=some c∧p c=false
 | [],h=>by simp at h
 |c::l,h=>by
  rw[VI]at h ⊢;by_cases hc:p c=true
  ·rw[if_pos hc]at h ⊢
   have:=Iw p l (by simpa using h);simpa using this
  ·rw[if_neg hc]
   exact⟨c,rfl,by simpa using hc⟩
theorem MX{p:UInt8→Bool}{s:Bs}{i j:Nat}(h1:i≤j)(h2:j < runN p s i):∃c,s[j]?=some c∧p c=true:=by obtain⟨c,h,hp⟩:=Pv p (s.drop i) (j - i) (by unfold runN at h2; omega);rw[VV,show i+(j - i)=j by omega]at h;exact⟨c,h,hp⟩
theorem zy{p:UInt8→Bool}{s:Bs}{i:Nat}(hi:i≤s.length)(h:runN p s i < s.length):∃c,s[runN p s i]?=some c∧p c=false:=by obtain⟨c,h1,hp⟩:=Iw p (s.drop i) (by rw[Wg];unfold runN at h;omega);rw[VV]at h1;exact⟨c,h1,hp⟩
theorem IT{p:UInt8→Bool}{s:Bs}{i:Nat}{c:UInt8}(h:s[i]?=some c)(hp:p c=true):i < runN p s i:=by
 have hl:=(VG.1 h).1;have e:s.drop i=c::s.drop (i+1):=by obtain⟨h1,rfl⟩:=VG.1 h;exact VQ h1
 unfold runN;rw[e,VI,if_pos hp];simp
theorem qK(cm:Bool):∀(l:Bs),aG cm [] l=aG cm [] (l.drop (l.takeWhile sB).length)
 | []=>rfl
 |c::l=>by
  rw[VI];by_cases hc:sB c=true
  ·rw[if_pos hc,VS,Wd,←qK cm l]
   have h1:c=32∨c=9:=by unfold sB at hc;rw[Wk,beq_iff_eq,beq_iff_eq]at hc;exact hc
   have h2:c≠35:=by rcases h1 with rfl|rfl<;>decide
   conv=>lhs;unfold aG
   rw[if_neg (by simp[h2]),if_pos h1,if_pos rfl]
  ·rw[if_neg hc];rfl
theorem so(cm:Bool):∀(l cur:Bs),cur≠[]→aG cm cur l=(cur++l.takeWhile (wC cm))::aG cm [] (l.drop (l.takeWhile (wC cm)).length)
 | [],cur,h=>by simp[aG,h]
 |c::l,cur,h=>by
  rw[VI];by_cases hc:wC cm c=true
  ·rw[if_pos hc,VS,Wd]
   have ih:=so cm l (cur++[c]) (by simp);rw[List.append_assoc]at ih;have hcc:=hc;unfold wC sB at hc;rw[VK,VR,VR,Wc,beq_eq_false_iff_ne,beq_eq_false_iff_ne,Wa,beq_eq_false_iff_ne]at hc
   conv=>lhs;unfold aG
   rw[if_neg (by rcases hc.2 with h|h<;>simp[h]),if_neg (by simp[hc.1.1,hc.1.2])];exact ih
  ·rw[if_neg hc]
   simp only[Wj,Wi,List.drop_zero];unfold aG;by_cases h35:cm=true∧c=35
   ·rw[if_pos h35,if_neg h,if_pos h35,if_pos rfl]
   ·rw[if_neg h35,if_neg h35]
    have h1:c=32∨c=9:=by
     have h2:sB c=true:=by
      cases hs:sB c with
      |true=>rfl
      |false=>
       exfalso;apply hc;unfold wC;rw[hs];cases cm with
       |false=>rfl
       |true=>have:c≠35:=fun h=>h35 ⟨rfl,h⟩;simp[this]
     unfold sB at h2;rw[Wk,beq_iff_eq,beq_iff_eq]at h2;exact h2
    rw[if_pos h1,if_pos h1,if_neg h,if_pos rfl]
def jO(cm:Bool)(s:Bs)(i:Nat):List Bs:=aG cm [] (s.drop i)
theorem BQ(cm:Bool)(s:Bs)(i:Nat):jO cm s i=jO cm s (runN sB s i):=by unfold jO runN;rw[qK,Wm]
theorem Fq(cm:Bool)(s:Bs):jO cm s s.length=[]:=by unfold jO;rw[List.drop_length];rfl
theorem BR(s:Bs)(i:Nat)(h:s[i]?=some 35):jO true s i=[]:=by
 unfold jO;have e:s.drop i=35::s.drop (i+1):=by obtain⟨h1,h2⟩:=VG.1 h;rw[←h2];exact VQ h1
 rw[e];unfold aG;rw[if_pos ⟨rfl,rfl⟩,if_pos rfl]
theorem BP(cm:Bool)(s:Bs)(i:Nat){c:UInt8}(h:s[i]?=some c)(hc:wC cm c=true):jO cm s i=(s.take (runN (wC cm) s i)).drop i::jO cm s (runN (wC cm) s i):=by
 unfold jO;have e:s.drop i=c::s.drop (i+1):=by obtain⟨h1,h2⟩:=VG.1 h;rw[←h2];exact VQ h1
 have e1:aG cm [] (c::s.drop (i+1))=aG cm [c] (s.drop (i+1)):=by
  have hcc:=hc;unfold wC sB at hcc;rw[VK,VR,VR,Wc,beq_eq_false_iff_ne,beq_eq_false_iff_ne,Wa,beq_eq_false_iff_ne]at hcc
  conv=>lhs;unfold aG
  rw[if_neg (by rcases hcc.2 with h|h<;>simp[h]),if_neg (by simp[hcc.1.1,hcc.1.2])];rfl
 have e2:(s.drop i).takeWhile (wC cm)=c::(s.drop (i+1)).takeWhile (wC cm):=by rw[e,VI,if_pos hc]
 have e3:(s.take (runN (wC cm) s i)).drop i=(s.drop i).takeWhile (wC cm):=by
  unfold runN;rw[Wl,show i+((s.drop i).takeWhile (wC cm)).length - i=((s.drop i).takeWhile (wC cm)).length by omega];generalize s.drop i=l;induction l with
  |nil=>rfl
  |cons a l ih=>
   rw[VI];split
   ·rw[VS,List.take_succ_cons,ih]
   ·rfl
 rw[e3,e2]
 conv=>lhs;rw[e,e1,so cm _ _ (by simp)]
 unfold runN;rw[e2,VS,Wm];congr 3;omega
open Go.RowKit Go.Lib Go.Sort _root_.Go.Proofs.Tryz
theorem EX(l:List UInt8)(a b:Nat):(⟨l.toArray⟩:ByteArray).extract a b=⟨((l.take b).drop a).toArray⟩:=by apply ByteArray.ext;simp[List.extract_eq_take_drop,Wl]
theorem Cd(s:List UInt8)(lo:Nat)(h2:lo≤s.length)(W:World):(Instr.sliceAt 9 (.string ⟨s.toArray⟩) (some (.int .i64 lo)) none none).run prog W=.ok (.string ⟨(s.drop lo).toArray⟩) W:=by
 have hs:(⟨s.toArray⟩:ByteArray).size=s.length:=by simp[ByteArray.size]
 have:=EX s lo s.length;rw[List.take_length]at this;rw[←this];simp[Instr.sliceAt,run_underlying underlying9,Instr.slice,Instr.sliceBounds,Instr.sliceBound,asIntOf,hs,h2]
open Go Go.RowKit Go.Lib Go.Sort
theorem pC{p:Nat→Prop}(h:∃m,p m):∃m,p m∧∀m',p m'→m≤m':=by
 obtain⟨m,hm⟩:=h;induction m using Nat.strongRecOn with
 |_ m ih=>
  by_cases hx:∃m',m' < m∧p m'
  ·obtain⟨m',h1,h2⟩:=hx
   exact ih m' h1 h2
  ·exact⟨m,hm,fun m' h'=>Nat.le_of_not_lt fun hlt=>hx ⟨m',hlt,h'⟩⟩
theorem si{P:Program}{Q:Exit→Act→World→Prop}{a:Act}{w:World}{c rest:Code}(l:Nat)(J:Nat→Act→World→Prop)(hf:findLabel c l=some rest)
  (first:c.wp P (Exit.jump l (fun a w=>∃m,J m a w) Q) a w)
  (pass:∀m a w,J m a w→rest.wp P (Exit.jump l (fun a' w'=>∃m',m' < m∧J m' a' w') Q) a w):(Code.scope c).wp P Q a w:=by
 classical
 let μ:Act→World→Nat:=fun a w=>if h:∃m,J m a w then(pC h).choose else 0
 have hμ:∀a w m,J m a w→μ a w≤m∧J (μ a w) a w:=fun a w m hm=>by have h:∃m,J m a w:=⟨m,hm⟩;have e:μ a w=(pC h).choose:=dif_pos h;rw[e];exact⟨(pC h).choose_spec.2 m hm,(pC h).choose_spec.1⟩
 refine wp_scope_jumps l (fun a w=>∃m,J m a w) μ hf first fun a w ⟨m,hm⟩=>?_
 refine Code.wp_mono (fun e a' w' hq=>?_) (pass (μ a w) a w (hμ a w m hm).2);cases e with
 |goto l'=>obtain⟨he,m',hlt,hj⟩:=hq;exact⟨he,⟨m',hj⟩,Nat.lt_of_le_of_lt (hμ a' w' m' hj).1 hlt⟩
 |normal=>exact hq
 |exit id=>exact hq
 |ret=>exact hq
 |panic ch=>exact hq
 |outgrown=>exact hq
namespace Sx
def An{κ:Type}(l:Nat)(R:κ→Prop)(fr:κ→List (Nat×SV))(mem:κ→List Row)(M:Prop)(k:κ)(K:Exit→St→Prop):Exit→St→Prop
 |.goto l',st=>match Nat.beq l' l with
  |true=>M∧R k∧yK st (fr k) (mem k)
  |false=>cj st
 |e,st=>K e st
def Oc(c:Code)(l:Nat):Code:=(findLabel c l).getD .skip
def DZ:Code→Code
 |.seq _ (.scope c)=>c
 |_=>.skip
def QZ:Code→Code
 |.seq a _=>a
 |_=>.skip
section
variable{P:Program}{w0:aY}{ds:List Deferred}{n:Nat}
theorem wE{κ:Type}{l:Nat}{R:κ→Prop}{fr:κ→List (Nat×SV)}{mem:κ→List Row}{M:Prop}{k:κ}{K:Exit→St→Prop}{e:Exit}{a:Act}{w:World}{J:Act→World→Prop}
  (h:lift ds w0 n (An l R fr mem M k K) e a w) (hJ:∀β,M→R k→Hd ds w0 n β ⟨fr k,mem k⟩ a w→J a w):Exit.jump l J (lift ds w0 n K) e a w:=by
 cases e with
 |goto l'=>
  obtain⟨β,st,hk,h'⟩:=h;simp only[An]at hk;split at hk
  ·rename_i hb
   obtain⟨hm,hr,hs⟩:=hk;obtain⟨β2,h2⟩:=h'.same hs;exact⟨Nat.eq_of_beq_eq_true hb,hJ β2 hm hr h2⟩
  ·exact nomatch hk
 |normal=>exact h
 |exit id=>exact h
 |ret=>exact h
 |panic ch=>exact h
 |outgrown=>exact h
theorem Dn{w:World}{f:FuncId}{fn:Func}{a0 c rest:Code}{S:List Nat}{PP:List PanicEntry→World→Prop}{β:Env}{mem:List Row}{args:List SV}{R:List SV→List Row→Prop}(hF:Rows ⟨w,S,PP⟩ β w mem)
  {κ:Type} (l:Nat) (k0:κ) (Rk:κ→Prop) (frk:κ→List (Nat×SV)) (memk:κ→List Row) (next:κ→κ) (μ:κ→Nat)
  (H0 H:List (Nat×Hint)) (L:List Loop) (hm:P.follows .mixedOrders=true) (hf:P.funcs[f]?=some fn) (hb:fn.body=some (.seq a0 (.scope c))) (hl:findLabel c l=some rest) (hn:args.length≤fn.ntmps) (hw:(eJ (fun r=>lk mem.length r.cs) mem&&eJ (zb mem.length) args)=true)
  (pass:∀k,Rk k→∃H' L',lj P fn.ntmps ⟨w,S,PP⟩ rest H' L' ⟨frk k,memk k⟩ (An l Rk frk memk (μ (next k) < μ k) (next k) (eX P fn R)))
  (first:lj P fn.ntmps ⟨w,S,PP⟩ a0 H0 [] ⟨lB 0 args,mem⟩ (fun e st=>match e with | .normal=>lj P fn.ntmps ⟨w,S,PP⟩ c H L st (An l Rk frk memk True k0 (eX P fn R))|_=>False)) :
  Calls P f (args.map (SV.den β)).toArray w (cI ⟨w,S,PP⟩ R):=by
 rw[VK]at hw;have start:Hd [] ⟨w,S,PP⟩ fn.ntmps β ⟨lB 0 args,mem⟩ { tmps:=(args.map (SV.den β)).toArray++VX (fn.ntmps - (args.map (SV.den β)).toArray.size) undef,defers:=[] } w:=by
  refine⟨by simp;omega,rfl,fun t sv ht=>?_,hF.held,hF.new,hF.inj,hF.aD,fun t sv ht=>?_,fun i r hi=>?_⟩
  ·obtain⟨_,hv⟩:=fC ht
   have hlt:t < args.length:=(VG.1 hv).1;rw[Array.getElem?_append_left (by simpa using hlt)];simp only[Nat.sub_zero]at hv;simp[hv]
  ·obtain⟨_,hv⟩:=fC ht
   exact mX (aQ hw.2 sv (Wb hv))
  ·exact iZ (aQ hw.1 r (Wb hi))
 refine calls_of_wp hf hb ?_;refine wp_seq (Code.wp_mono (fun e a' w' hq=>?_) (gO hm a0 H0 [] _ _ β _ w start first));cases e with
 |normal=>
  obtain⟨β',st',hk,h'⟩:=hq;have main:(Code.scope c).wp P (lift [] ⟨w,S,PP⟩ fn.ntmps (eX P fn R)) a' w':=by
   refine si l (fun m a w'=>∃β k,μ k=m∧Rk k∧Hd [] ⟨w,S,PP⟩ fn.ntmps β ⟨frk k,memk k⟩ a w') hl ?_ ?_
   ·exact Code.wp_mono (fun e a2 w2 hq=>wE hq fun β2 _ hr h2=>⟨μ k0,β2,k0,rfl,hr,h2⟩) (gO hm c H L st' _ β' a' w' h' hk)
   ·rintro m a2 w2 ⟨β2,k,rfl,hr,h2⟩
    obtain⟨H',L',hp⟩:=pass k hr;exact Code.wp_mono (fun e a3 w3 hq=>wE hq fun β3 hlt hr3 h3=>⟨μ (next k),hlt,β3,next k,rfl,hr3,h3⟩) (gO hm rest H' L' _ _ β2 a2 w2 h2 hp)
  exact Code.wp_mono (fun e a w hq=>xm hq) main
 |exit id=>obtain⟨_,_,hk,_⟩:=hq;exact hk.elim
 |goto l=>obtain⟨_,_,hk,_⟩:=hq;exact hk.elim
 |ret=>obtain⟨_,_,hk,_⟩:=hq;exact hk.elim
 |panic ch=>exact⟨hq.1,.inr ⟨ch,rfl,hq.2⟩⟩
 |outgrown=>obtain⟨_,_,hk,_⟩:=hq;exact hk.elim
end
end Sx
set_option maxRecDepth 100000
open Go.RowKit Go.Lib Go.Sort _root_.Go.Proofs.Tryz
set_option maxRecDepth 100000
def lH(s:Bs)(cm:Bool)(i:Nat):List (Nat×Sx.SV):=[(0,.val (ab s)),(1,.val (.bool cm)),(5,.own 0),(6,.val (.int .i64 (i:Int)))]
def DO(s:Bs)(cm:Bool)(o i:Nat):List (Nat×Sx.SV):=[(0,.val (ab s)),(1,.val (.bool cm)),(5,.own o),(6,.val (.int .i64 (i:Int)))]
def jM(s:Bs)(cm:Bool)(b i:Nat):List (Nat×Sx.SV):=(7,.val (.int .i64 (b:Int)))::lH s cm i
def cJ(acc:List Bs):List Sx.Row:=[⟨9,.own 1 acc.length (acc.map ab)⟩]
theorem ll{c:UInt8}{k:Nat}(d:UInt8)(hd:d.toNat=k):VJ ((c.toNat:Int)==(k:Int))=.bool (decide (c=d)):=by congr 1;rw[Bool.eq_iff_iff,beq_iff_eq,decide_eq_true_iff,←UInt8.toNat_inj,hd];omega
theorem Lh{c:UInt8}{k:Nat}(d:UInt8)(hd:d.toNat=k):VJ ((c.toNat:Int) !=(k:Int))=.bool (!decide (c=d)):=by have h:=ll (c:=c) d hd;injection h with h;show VJ (!((c.toNat:Int)==(k:Int)))=_;rw[h]
theorem jT(s:Bs)(lo hi:Nat)(h:lo≤hi)(h2:hi≤s.length)(W:World):(Instr.sliceAt 9 (ab s) (some (.int .i64 (lo:Int))) (some (.int .i64 (hi:Int))) none).run prog W=.ok (ab ((s.take hi).drop lo)) W:=by have:=FA ⟨s.toArray⟩ lo hi h (by simpa[ByteArray.size]using h2) W;rw[EX]at this;exact this
theorem IS(p:UInt8→Bool){s:Bs}{i j:Nat}(hi:i≤s.length)(hj:i≤j∧j≤runN p s i):∃c,(decide (j < s.length)=true→s[j]?=some c)∧(decide (j < s.length)&&p c)=decide (j+1≤runN p s i):=by
 have hle:=kO p s i hi;by_cases hlt:j < runN p s i
 ·obtain⟨c,hc,hp⟩:=MX hj.1 hlt
  exact⟨c,fun _=>hc,by rw[hp,decide_eq_true (show j < s.length by omega),decide_eq_true (show j+1≤runN p s i by omega)];rfl⟩
 ·have he:runN p s i=j:=by omega
  by_cases hl:j < s.length
  ·obtain⟨c,hc,hp⟩:=zy hi (by omega:runN p s i < s.length)
   rw[he]at hc;exact⟨c,fun _=>hc,by rw[hp,Bool.and_false,decide_eq_false (by omega)]⟩
  ·exact⟨0,fun h=>absurd (of_decide_eq_true h) hl,by rw[decide_eq_false hl,decide_eq_false (by omega)];rfl⟩
theorem Pp{PP:List PanicEntry→World→Prop}(w:World)(s:Bs)(cm:Bool)(hs:s.length≤100000000)(i:Nat)(hi:i≤s.length)(acc:List Bs)(Kr:Sx.St→Prop)(j:Nat)(hj:i≤j∧j≤runN sB s i) :
  ∃H' L',Sx.lj prog f90.ntmps ⟨w,[],PP⟩ (Sx.dr f90 0) H' L' ⟨lH s cm j,cJ acc⟩ (Sx.ia (fun j=>i≤j∧j≤runN sB s i) (lH s cm) (fun _=>cJ acc) (fun j=>j+1) (fun j=>s.length+1 - j) (fun(_:Unit)=>True) (fun _=>lH s cm (runN sB s i)) (fun _=>cJ acc) (fun _=>()) (Sx.fX (Sx.dr f90 0) - 1) Kr j):=by
 have hle:=kO sB s i hi;obtain⟨c,hc,st⟩:=IS sB hi hj;obtain⟨e,hre⟩:∃e,runN sB s i=e:=⟨_,rfl⟩;rw[hre]at hj hle st ⊢;have c10:=lz s;have yB:VJ (decide ((j:Int) < (s.length:Int)))=.bool (decide (j < s.length)):=vw rfl;have Bj:VJ ((c.toNat:Int)==32)=.bool (c==32):=ll 32 rfl;have c21:VJ ((c.toNat:Int)==9)=.bool (c==9):=ll 9 rfl;have c25:=uh (i:=j) (by omega);unfold sB at st;have c15:=fun h=>ss s j c (hc h);generalize decide (j < s.length)=z at*;generalize (c==32)=n1 at*;generalize (c==9)=n2 at*;have hs':(z&&(n1||n2))=true→((i≤j+1∧j+1≤e)∧s.length+1 - (j+1) < s.length+1 - j∧lH s cm (j+1)=lH s cm (j+1)∧cJ acc=cJ acc):=fun h=>by rw[st,decide_eq_true_eq]at h;exact⟨⟨by omega,h⟩,by omega,rfl,rfl⟩
 have he:(z&&(n1||n2))=false→True∧lH s cm j=lH s cm e∧cJ acc=cJ acc:=fun h=>by rw[st,decide_eq_false_iff_not]at h;rw[show j=e by omega];exact⟨trivial,rfl,rfl⟩
 have CH:=Sx.t2 c10 yB (dt.mk (b:=!z) (fun h=>c15 (by cases z;cases h;rfl)) (dt.mk (b:=!z) (fun _=>Bj) (dt.mk (b:=!z||n1) (fun h=>c15 (by cases z;cases h;rfl)) (dt.mk (b:=!z||n1) (fun _=>c21) (ir.mk (b:=z&&(n1||n2)) (fun h=>VE c25 (hs' h)) he)))));refine⟨[(10,.is (.int .i64 (s.length:Int))),bq 11 z,(15,.bin (u8 c)),bq 16 n1,(20,.bin (u8 c)),bq 21 n2,oP 25 (j+1)],[],?_⟩;clear hs' he st c15 hc;cases z<;>cases n1<;>cases n2<;>exact VW (by kernel_rfl) CH
theorem Po{PP:List PanicEntry→World→Prop}(w:World)(s:Bs)(cm:Bool)(hs:s.length≤100000000)(i:Nat)(hi:i≤s.length)(acc:List Bs)(Kr:Sx.St→Prop)(j:Nat)(hj:i≤j∧j≤runN (wC cm) s i) :
  ∃H' L',Sx.lj prog f90.ntmps ⟨w,[],PP⟩ (Sx.dr f90 1) H' L' ⟨jM s cm i j,cJ acc⟩ (Sx.ia (fun j=>i≤j∧j≤runN (wC cm) s i) (jM s cm i) (fun _=>cJ acc) (fun j=>j+1) (fun j=>s.length+1 - j) (fun(_:Unit)=>True) (fun _=>jM s cm i (runN (wC cm) s i)) (fun _=>cJ acc) (fun _=>()) (Sx.fX (Sx.dr f90 1) - 1) Kr j):=by
 have hle:=kO (wC cm) s i hi;obtain⟨c,hc,st⟩:=IS (wC cm) hi hj;have c43:=lz s;have c44:VJ (decide ((j:Int) < (s.length:Int)))=.bool (decide (j < s.length)):=vw rfl;have c49:VJ ((c.toNat:Int) !=32)=.bool (!(c==32)):=Lh 32 rfl;have c55:VJ ((c.toNat:Int) !=9)=.bool (!(c==9)):=Lh 9 rfl;have c63:VJ ((c.toNat:Int)==35)=.bool (c==35):=ll 35 rfl;have c68:=uh (i:=j) (by omega);have c48:=fun h=>ss s j c (hc h);obtain⟨e,hre⟩:∃e,runN (wC cm) s i=e:=⟨_,rfl⟩;rw[hre]at hj hle st ⊢;unfold wC sB at st;generalize decide (j < s.length)=z at*;generalize (c==32)=n1 at*;generalize (c==9)=n2 at*;generalize (c==35)=n3 at*;have hs':(z&&(!(n1||n2)&&!(cm&&n3)))=true→((i≤j+1∧j+1≤e)∧s.length+1 - (j+1) < s.length+1 - j∧jM s cm i (j+1)=jM s cm i (j+1)∧cJ acc=cJ acc):=fun h=>by rw[st,decide_eq_true_eq]at h;exact⟨⟨by omega,h⟩,by omega,rfl,rfl⟩
 have he:(z&&(!(n1||n2)&&!(cm&&n3)))=false→True∧jM s cm i j=jM s cm i e∧cJ acc=cJ acc:=fun h=>by rw[st,decide_eq_false_iff_not]at h;rw[show j=e by omega];exact⟨trivial,rfl,rfl⟩
 have CH:=Sx.t2 c43 c44 (dt.mk (b:=!z) (fun h=>c48 (by cases z;cases h;rfl)) (dt.mk (b:=!z) (fun _=>c49) (dt.mk (b:=!z||n1) (fun h=>c48 (by cases z;cases h;rfl)) (dt.mk (b:=!z||n1) (fun _=>c55) (dt.mk (b:=!z||n1||n2||!cm) (fun h=>c48 (by cases z;cases h;rfl)) (dt.mk (b:=!z||n1||n2||!cm) (fun _=>c63) (ir.mk (b:=z&&(!(n1||n2)&&!(cm&&n3))) (fun h=>VE c68 (hs' h)) he)))))));refine⟨[(43,.is (.int .i64 (s.length:Int))),bq 44 z,(48,.bin (u8 c)),(49,.is (.bool !n1)),(54,.bin (u8 c)),(55,.is (.bool !n2)),(62,.bin (u8 c)),bq 63 n3,oP 68 (j+1)],[],?_⟩;clear hs' he st c48 hc hj hre;cases z<;>cases n1<;>cases n2<;>cases cm<;>cases n3<;>exact VW (by kernel_rfl) CH
def fO(s:Bs)(cm:Bool)(k:Nat×List Bs):Nat×List Bs:=(runN (wC cm) s (runN sB s k.1),k.2++[(s.take (runN (wC cm) s (runN sB s k.1))).drop (runN sB s k.1)])
def RW(s:Bs)(cm:Bool)(k:Nat×List Bs):Prop:=k.1≤s.length∧k.2.length≤k.1∧k.2++jO cm s k.1=jO cm s 0
def Mz(s:Bs)(cm:Bool)(l:List Sx.SV)(mem:List Sx.Row):Prop:=∃j,l=[.own j]∧mem[j]?=some ⟨9,.own 1 (aj cm s).length ((aj cm s).map ab)⟩
def Si(s:Bs)(cm:Bool)(i:Nat)(acc:List Bs):Sx.Loop:=.mk Nat i (fun j=>i≤j∧j≤runN sB s i) (lH s cm) (fun _=>cJ acc) (fun j=>j+1) (fun j=>s.length+1 - j) Unit (fun _=>True) (fun _=>lH s cm (runN sB s i)) (fun _=>cJ acc) (fun _=>())
def Sh(s:Bs)(cm:Bool)(i:Nat)(acc:List Bs):Sx.Loop:=.mk Nat i (fun j=>i≤j∧j≤runN (wC cm) s i) (jM s cm i) (fun _=>cJ acc) (fun j=>j+1) (fun j=>s.length+1 - j) Unit (fun _=>True) (fun _=>jM s cm i (runN (wC cm) s i)) (fun _=>cJ acc) (fun _=>())
noncomputable def Ip:Code:=Sx.Oc (Sx.DZ (f90.body.getD .skip)) 0
structure Vy(s:Bs)(cm:Bool)(k:Nat×List Bs)(c:UInt8)(z zc:Bool):Prop where
 Dp:VJ ((runN sB s k.1:Int)==(s.length:Int))=.bool z
 Ho:z=false→∀W:World,(Instr.index 9 (.string ⟨s.toArray⟩) (.int .i64 (runN sB s k.1:Int))).run prog W=.ok (u8 c) W
 Mn:VJ ((c.toNat:Int)==35)=.bool zc
 fin:(z||(cm&&zc))=true→Mz s cm [.own 0] (cJ k.2)
 nx:(z||(cm&&zc))=false→RW s cm (fO s cm k)∧s.length - (fO s cm k).1 < s.length - k.1
 nQ:k.2.length≤1100000
 el:runN (wC cm) s (runN sB s k.1)≤s.length
theorem yT(s:Bs)(cm:Bool)(hs:s.length≤1100000)(k:Nat×List Bs)(hk:RW s cm k):∃c z zc,Vy s cm k c z zc:=by
 have hi:=hk.1;have hbl:=kO sB s k.1 hi;have hsk:=BQ cm s k.1;have hge:=kQ sB s k.1;have hel:=kO (wC cm) s (runN sB s k.1) hbl;have nQ:k.2.length≤1100000:=by have:=hk.2.1;omega
 have hfin:jO cm s (runN sB s k.1)=[]→Mz s cm [.own 0] (cJ k.2):=fun h=>by have:=hk.2.2;rw[hsk,h,Wj]at this;exact⟨0,rfl,by rw[show aj cm s=k.2 from this.symm];rfl⟩
 by_cases hend:runN sB s k.1 < s.length
 ·obtain⟨c,hc,hp⟩:=zy hi hend
  refine⟨c,false,_,xl (by rw[beq_eq_false_iff_ne];omega),fun _=>ss s _ c hc,ll 35 rfl,fun h=>hfin ?_,fun h=>?_,nQ,hel⟩
  ·rw[Wo,VK,decide_eq_true_eq]at h
   rw[h.1];exact BR s _ (by rw[hc,h.2])
  ·have hw:wC cm c=true:=by
    unfold wC;rw[hp,show(c==35)=decide (c=35)from rfl];rw[Wo]at h;rw[h];rfl
   have hwd:=BP cm s (runN sB s k.1) hc hw;have hgt:=IT hc hw;refine⟨⟨hel,?_,?_⟩,by show s.length - runN (wC cm) s (runN sB s k.1) < _; omega⟩
   ·have:=hk.2.1
    simp only[fO,We,VZ];omega
   ·have:=hk.2.2
    rw[hsk,hwd]at this;rw[←this];simp[fO]
 ·have hb:runN sB s k.1=s.length:=by omega
  exact⟨0,true,_,Bk (by rw[hb];simp),fun h=>(by cases h),ll 35 rfl,fun _=>hfin (by rw[hb];exact Fq _ _),fun h=>(by cases h),nQ,hel⟩
theorem My{PP:List PanicEntry→World→Prop}(w:World)(s:Bs)(cm:Bool)(hs:s.length≤1100000)(k:Nat×List Bs)(hk:RW s cm k) :
  ∃H' L',Sx.lj prog f90.ntmps ⟨w,[],PP⟩ Ip H' L' ⟨lH s cm k.1,cJ k.2⟩ (Sx.An 0 (RW s cm) (fun k=>lH s cm k.1) (fun k=>cJ k.2) (s.length - (fO s cm k).1 < s.length - k.1) (fO s cm k) (Sx.eX prog f90 (Mz s cm))):=by
 have hi:=hk.1;have hs':s.length≤100000000:=by omega
 obtain⟨c,z,zc,Dp,Ho,Mn,fin,nx,nQ,el⟩:=yT s cm hs k hk;have c73:=jT s (runN sB s k.1) (runN (wC cm) s (runN sB s k.1)) (kQ _ _ _) el;have c75:=mO (cells:=[ab ((s.take (runN (wC cm) s (runN sB s k.1))).drop (runN sB s k.1))]) (size:=1) (len:=k.2.length) (B:=bytesOf 9) (by kernel_rfl) (by kernel_rfl) nQ (by decide+kernel);have wn:DO s cm 2 (runN (wC cm) s (runN sB s k.1))=DO s cm 2 (fO s cm k).1∧[(⟨9,.own 1 (k.2.length+1) (k.2.map ab++[ab ((s.take (runN (wC cm) s (runN sB s k.1))).drop (runN sB s k.1))])⟩:Sx.Row)]=cJ (fO s cm k).2:=⟨rfl,by simp[cJ,fO]⟩;have vq:=Pp (PP:=PP) w s cm hs' k.1 hi k.2 (Sx.eX prog f90 (Mz s cm) .ret);have rd7:=Po (PP:=PP) w s cm hs' (runN sB s k.1) (kO _ _ _ hi) k.2 (Sx.eX prog f90 (Mz s cm) .ret);have CH:=Sx.t2 (VE (VT k.1) (kQ sB s k.1)) (show lH s cm k.1=lH s cm k.1∧cJ k.2=cJ k.2 from⟨rfl,rfl⟩) (VE vq (fun(_:Unit) (_:True)=>Sx.t2 (lz s) Dp (dt.mk (b:=z||!cm) (fun h=>Ho (by cases z;rfl;cases h)) (dt.mk (b:=z||!cm) (fun _=>Mn) (ir.mk (b:=z||(cm&&zc)) fin (fun h=>Sx.t2 (VE (VT (runN sB s k.1)) (kQ (wC cm) s (runN sB s k.1))) (show jM s cm (runN sB s k.1) (runN sB s k.1)=jM s cm (runN sB s k.1) (runN sB s k.1)∧cJ k.2=cJ k.2 from⟨rfl,rfl⟩) (VE rd7 (fun(_:Unit) (_:True)=>VE c73 (VE c75 (VE (nx h).2 (VE (nx h).1 wn)))))))))));refine⟨[(28,.is (.int .i64 (s.length:Int))),bq 29 z,(35,.bin (u8 c)),bq 36 zc,(73,.bin (ab ((s.take (runN (wC cm) s (runN sB s k.1))).drop (runN sB s k.1))))],[Si s cm k.1 k.2,Sh s cm (runN sB s k.1) k.2],?_⟩;clear wn Dp Ho Mn fin nx nQ el vq rd7 c73 c75;cases z<;>cases cm<;>cases zc<;>exact VW (by kernel_rfl) CH
def RJ(s:Bs)(cm:Bool)(w:World)(e:Ending)(w':World):Prop:=∃(A:Option Go.Addr) (cc:Nat),e=.returned (.slice A (aj cm s).length cc)∧Own w' 9 1 (.slice A (aj cm s).length cc) (aj cm s).length ((aj cm s).map ab)∧(∀k,A.map (·.block)=some k→w.heap.size≤k)∧ah [] w w'
theorem Mv(w:World)(s:Bs)(cm:Bool)(hs:s.length≤1100000):Calls prog 90 #[ab s,.bool cm] w (RJ s cm w):=by
 have key:Calls prog 90 #[ab s,.bool cm] w (Sx.cI ⟨w,[],fun _ _=>False⟩ (Mz s cm)):=by
  have hF:=Sx.fT (w:=w) (S:=[]) (PP:=fun _ _=>False) (G:=[]) (fun q hq=>by cases hq) (fun q hq=>by cases hq) (by simp);have hk:RW s cm (0,[]):=⟨Nat.zero_le _,VT _,rfl⟩;have first:=Sx.Dn (args:=[.val (ab s),.val (.bool cm)]) hF 0 (fO s cm (0,[])) (RW s cm) (fun k=>lH s cm k.1) (fun k=>cJ k.2) (fO s cm) (fun k=>s.length - k.1) [] (P:=prog) (fn:=f90) (a0:=Sx.QZ (f90.body.getD .skip)) (c:=Sx.DZ (f90.body.getD .skip)) (f:=90) (rest:=Ip) (R:=Mz s cm)
  have hs':s.length≤100000000:=by omega
  replace first:=fun H L hx=>first H L (by kernel_rfl) func90 rfl (by kernel_rfl) (dR rfl) rfl (My w s cm hs) hx
  obtain⟨c,z,zc,Dp,Ho,Mn,fin,nx,nQ,el⟩:=yT s cm hs _ hk;have hi:=hk.1;have c73:=jT s (runN sB s 0) (runN (wC cm) s (runN sB s 0)) (kQ _ _ _) el;have c75:=mO (cells:=[ab ((s.take (runN (wC cm) s (runN sB s 0))).drop (runN sB s 0))]) (size:=1) (len:=([]:List Bs).length) (B:=bytesOf 9) (by kernel_rfl) (by kernel_rfl) nQ (by decide+kernel);have wn:DO s cm 2 (runN (wC cm) s (runN sB s 0))=DO s cm 2 (fO s cm (0,[])).1∧[(⟨9,.own 1 (([]:List Bs).length+1) (([]:List Bs).map ab++[ab ((s.take (runN (wC cm) s (runN sB s 0))).drop (runN sB s 0))])⟩:Sx.Row)]=cJ (fO s cm (0,[])).2:=⟨rfl,by simp[cJ,fO]⟩;have vq:=Pp (PP:=fun _ _=>False) w s cm hs' 0 hi [] (Sx.eX prog f90 (Mz s cm) .ret);have rd7:=Po (PP:=fun _ _=>False) w s cm hs' (runN sB s 0) (kO _ _ _ hi) [] (Sx.eX prog f90 (Mz s cm) .ret);have CH:=Sx.t2 (VE (VT 0) (kQ sB s 0)) (show lH s cm 0=lH s cm 0∧cJ []=cJ []from⟨rfl,rfl⟩) (VE vq (fun(_:Unit) (_:True)=>Sx.t2 (lz s) Dp (dt.mk (b:=z||!cm) (fun h=>Ho (by cases z;rfl;cases h)) (dt.mk (b:=z||!cm) (fun _=>Mn) (ir.mk (b:=z||(cm&&zc)) fin (fun h=>Sx.t2 (VE (VT (runN sB s 0)) (kQ (wC cm) s (runN sB s 0))) (show jM s cm (runN sB s 0) (runN sB s 0)=jM s cm (runN sB s 0) (runN sB s 0)∧cJ []=cJ []from⟨rfl,rfl⟩) (VE rd7 (fun(_:Unit) (_:True)=>VE c73 (VE c75 (VE trivial (VE (nx h).1 wn)))))))))));refine first [(5,.ij 9 1),(28,.is (.int .i64 (s.length:Int))),bq 29 z,(35,.bin (u8 c)),bq 36 zc,(73,.bin (ab ((s.take (runN (wC cm) s (runN sB s 0))).drop (runN sB s 0))))] [Si s cm 0 [],Sh s cm (runN sB s 0) []] ?_
  clear wn Dp Ho Mn fin nx nQ el vq rd7 c73 c75 first
  cases z<;>cases cm<;>cases zc<;>exact VW (by kernel_rfl) CH
 refine key.mono fun e w' hp=>?_;rcases hp with⟨β,l,mem,⟨j,rfl,hm⟩,he,hR⟩ | ⟨_,_,hf,_⟩
 ·have h0:β.n j=(aj cm s).length∧Own w' 9 1 (.slice (β.a j) (aj cm s).length (β.c j)) (aj cm s).length ((aj cm s).map ab):=hR.held j _ hm
  refine⟨β.a j,β.c j,?_,h0.2,fun k hk=>?_,hR.aD⟩
  ·rw[he]
   show Ending.returned (.slice (β.a j) (β.n j) (β.c j))=_;rw[h0.1]
  ·rcases hR.new j _ k hm hk with hx|hx
   ·cases hx
   ·exact hx
 ·exact hf.elim
set_option maxRecDepth 100000
open Go.RowKit Go.Lib Go.Sort _root_.Go.Proofs.Tryz
set_option maxRecDepth 100000
theorem kB(cm:Bool):∀(l cur:Bs),(aG cm cur l).length≤l.length+(if cur=[] then 0 else 1)∧∀x∈aG cm cur l,x.length≤cur.length+l.length
 | [],cur=>by
  unfold aG;by_cases h:cur=[]
  ·simp[h]
  ·simp[h]
 |c::l,cur=>by
  unfold aG;have h0:=kB cm l [];have h1:=kB cm l (cur++[c]);rw[if_neg (by simp:¬cur++[c]=[])]at h1;rw[if_pos rfl]at h0;simp only[We,VZ,Wi]at h0 h1;split
  ·by_cases h:cur=[]
   ·simp[h]
   ·rw[if_neg h]
    refine⟨by simp[h],fun x hx=>?_⟩;rw[List.mem_singleton.1 hx];simp
  ·split
   ·by_cases h:cur=[]
    ·rw[if_pos h]
     refine⟨by simp[h];omega,fun x hx=>?_⟩;have:=h0.2 x hx;simp[h];omega
    ·rw[if_neg h]
     refine⟨by simp[h];omega,fun x hx=>?_⟩;rcases VO.1 hx with rfl|hx
     ·omega
     ·have:=h0.2 x hx;simp;omega
   ·refine⟨by have:=h1.1;simp;split<;>omega,fun x hx=>?_⟩
    have:=h1.2 x hx;simp;omega
theorem yR(cm:Bool)(s:Bs):(aj cm s).length≤s.length∧∀x∈aj cm s,x.length≤s.length:=by have:=kB cm s [];simpa[aj]using this
theorem GR(N:Nat)(w:World):Calls prog 92 #[.iface 103 (.pointer (some ⟨N,0,none⟩))] w fun e w'=>e=.returned (.iface 103 (.pointer (some ⟨N,0,none⟩)))∧w'=w:=by
 have hta:∀w,(Instr.typeAssert (.iface 103 (.pointer (some ⟨N,0,none⟩))) 20 103 true).run prog w=.ok (.tuple #[.pointer (some ⟨N,0,none⟩),.bool true]) w:=fun w=>by kernel_rfl
 go_enter func92,ntmps92
 go_wp2
 go_ret
 exact⟨rfl,rfl⟩
theorem Hm(p:Go.Addr)(N:Nat)(older:List PanicEntry)(w:World)(hc:w.cell? p=some .nilIface)(hz:w.frozen? p=false) :
  CallsD prog 130 #[.pointer (some p)] (.panicking ({ v:=.iface 103 (.pointer (some ⟨N,0,none⟩)),recovered:=false }::older)) w fun e u' w'=>e=.returned (.tuple #[])∧u'=.panicking ({ v:=.iface 103 (.pointer (some ⟨N,0,none⟩)),recovered:=true }::older)∧w'=w.setCell p (.iface 103 (.pointer (some ⟨N,0,none⟩))):=by
 refine callsD_of_wpS func130 rfl fun c₀ cs hu=>?_;apply wpS_seq;apply wpS_region;simp[wpOpsS,go_sem,recoverD,hu,ntmps130,Exit.thenS];apply wpS_seq;apply wpS_region;simp[wpOpsS,go_sem,Exit.thenS];refine wpS_cond (t:=true) (by simp[Act.eval,VX]) ?_;simp only[if_true];refine wpS_of_wp ?_;go_wp2_with (go_at_call 92;refine(GR N _).mono ?_;rintro e w2 ⟨rfl,rfl⟩)
 cases c₀;simp_all[bodyPostS,results,results130]
theorem Be(p:Go.Addr)(w:World) :
  CallsD prog 130 #[.pointer (some p)] .returning w fun e u' w'=>e=.returned (.tuple #[])∧u'=.returning∧w'=w:=by
 refine callsD_of_wpS func130 rfl fun c₀ cs hu=>?_;apply wpS_seq;apply wpS_region;simp[wpOpsS,go_sem,recoverD,hu,ntmps130,Exit.thenS];apply wpS_seq;apply wpS_region;simp[wpOpsS,go_sem,Exit.thenS];refine wpS_cond (t:=false) (by simp[Act.eval,VX]) ?_;simp only[Bool.false_eq_true,if_false];refine wpS_of_wp (wp_skip ?_);cases c₀;simp_all[bodyPostS,results,results130]
open Go.RowKit Go.Lib Go.Sort
def cA(gc gd:Nat)(s:fN):List Nat:=[some gc,some gd,s.p.A.map (·.block),s.r.A.map (·.block),s.l.A.map (·.block),s.m.A.map (·.block),s.i.A.map (·.block)].filterMap id
theorem gM(g gc gd:Nat)(s:fN):Aw g gc gd s=g::cA gc gd s:=rfl
structure TK(w:World)(gc gd:Nat)(cf:CF)(d:Nat)(s:fN):Prop where
 at_:oL w gc cf s
 bd:aq w gd 3 [.int .i64 (d:Int)]
 nd:(cA gc gd s).Nodup
 nQ:cf.ag.length≤1100000∧cf.ae.length≤1100000∧cf.rules.length≤1100000∧cf.af.length≤1100000∧cf.aa.length≤1100000
 TU:d≤1100000
 vk:dD w
 s9:∀k∈cA gc gd s,9≤k
theorem dK{gc gd:Nat}{s:fN}{k:Nat}:k∈cA gc gd s↔k=gc∨k=gd∨s.p.A.map (·.block)=some k∨s.r.A.map (·.block)=some k∨s.l.A.map (·.block)=some k∨s.m.A.map (·.block)=some k∨s.i.A.map (·.block)=some k:=by
 unfold cA;simp only[VF,VO,VN,or_false,id_eq];constructor
 ·rintro⟨o,ho,hk⟩
  subst hk;rcases ho with h|h|h|h|h|h|h
  ·injection h with h;exact .inl h
  ·injection h with h;exact .inr (.inl h)
  ·exact .inr (.inr (.inl h.symm))
  ·exact .inr (.inr (.inr (.inl h.symm)))
  ·exact .inr (.inr (.inr (.inr (.inl h.symm))))
  ·exact .inr (.inr (.inr (.inr (.inr (.inl h.symm)))))
  ·exact .inr (.inr (.inr (.inr (.inr (.inr h.symm)))))
 ·rintro(rfl|rfl|h|h|h|h|h)
  ·exact⟨_,.inl rfl,rfl⟩
  ·exact⟨_,.inr (.inl rfl),rfl⟩
  ·exact⟨_,.inr (.inr (.inl rfl)),h⟩
  ·exact⟨_,.inr (.inr (.inr (.inl rfl))),h⟩
  ·exact⟨_,.inr (.inr (.inr (.inr (.inl rfl)))),h⟩
  ·exact⟨_,.inr (.inr (.inr (.inr (.inr (.inl rfl))))),h⟩
  ·exact⟨_,.inr (.inr (.inr (.inr (.inr (.inr rfl))))),h⟩
theorem fb(A:Option Go.Addr)(n c:Nat):(Value.slice A n c).ownBlock=A.map (·.block):=by cases A<;>rfl
theorem oL.lt{w:World}{gc gd:Nat}{cf:CF}{d:Nat}{s:fN}(h:oL w gc cf s)(hb:aq w gd 3 [.int .i64 (d:Int)]):∀k∈cA gc gd s,k < w.heap.size:=fun k hk=>by
 rcases dK.1 hk with rfl|rfl|hk|hk|hk|hk|hk
 ·exact h.bY.lt
 ·exact hb.lt
 ·exact h.p.lt k ((fb _ _ _).trans hk)
 ·exact h.r.lt k ((fb _ _ _).trans hk)
 ·exact h.l.lt k ((fb _ _ _).trans hk)
 ·exact h.m.lt k ((fb _ _ _).trans hk)
 ·exact h.i.lt k ((fb _ _ _).trans hk)
theorem oL.aD{w w':World}{gc gd:Nat}{cf:CF}{s:fN}(h:oL w gc cf s){S:List Nat}(hc:ah S w w')(hS:∀k∈cA gc gd s,k∉S):oL w' gc cf s:=
 ⟨h.bY.aD hc (hS _ (dK.2 (.inl rfl))),h.p.aD hc fun k hk=>hS k (dK.2 (.inr (.inr (.inl ((fb _ _ _).symm.trans hk))))),h.r.aD hc fun k hk=>hS k (dK.2 (.inr (.inr (.inr (.inl ((fb _ _ _).symm.trans hk)))))),
  h.l.aD hc fun k hk=>hS k (dK.2 (.inr (.inr (.inr (.inr (.inl ((fb _ _ _).symm.trans hk))))))),h.m.aD hc fun k hk=>hS k (dK.2 (.inr (.inr (.inr (.inr (.inr (.inl ((fb _ _ _).symm.trans hk)))))))),h.i.aD hc fun k hk=>hS k (dK.2 (.inr (.inr (.inr (.inr (.inr (.inr ((fb _ _ _).symm.trans hk)))))))) ⟩
def yL(l:Bs)(gc gd:Nat)(cf:CF)(d:Nat)(s:fN)(w:World)(e:Ending)(w':World):Prop:=
 (∃cf' i s',cY (aj true l) cf d=.ok cf' i∧e=.returned .nilIface∧oL w' gc cf' s'∧aq w' gd 3 [.int .i64 (dN (aj true l) d:Nat)]∧(cA gc gd s').Nodup∧(∀k∈cA gc gd s',k∈cA gc gd s∨w.heap.size≤k)∧ah (cA gc gd s) w w')∨
 (∃code p N:Nat,cY (aj true l) cf d=.no code p∧e=.returned (.iface 103 ((pt N 0)))∧w.heap.size≤N∧aq w' N 105 [.int .i64 (code:Int),.int .i64 (p:Int)]∧ah (cA gc gd s) w w')
theorem Mx{w w':World}{A:Option Go.Addr}{n c:Nat}{ws:List Bs}{S:List Nat}(h:Own w 9 1 (.slice A n c) n (ws.map ab))(hl:ws.length=n)(hc:ah [] w w')(hS:∀k,A.map (·.block)=some k→k∉S):yP w' S A n ws:=by
 refine⟨hl,fun h0=>?_⟩;rcases h.2 with⟨hv,h1⟩ | ⟨g,o,c',L,hv,hg,hn,hcm,hL,hx⟩
 ·omega
 ·injection hv with h1 h2 h3
  subst h1;refine⟨g,o,rfl,hS g rfl,Nat.lt_of_lt_of_le hg.lt hc.size,fun j x hj=>?_⟩;have hg':=hg.aD hc (by simp);have hjn:j < n:=by rw[←hl];exact(VG.1 hj).1
  refine hg'.cell_of ?_;have e1:((L.drop o).take (n*1))[j]?=some (ab x):=by rw[hx,List.getElem?_map,hj];rfl
  rw[List.getElem?_take,if_pos (by omega),VV]at e1;exact e1
def eH(tg:Option Nat)(cs:List Sx.SV):Sx.Row:=match tg with
 |some g=>⟨46,.iC g cs⟩
 |none=>⟨46,.cU cs⟩
def kr(tg:Option Nat)(d:Nat):Sx.Row:=match tg with
 |some g=>⟨3,.dj g [.int .i64 (d:Int)]⟩
 |none=>⟨3,.ai [.int .i64 (d:Int)]⟩
def ig(k0 k1 k2 k3 k4:Nat)(cf:CF):List Sx.SV:=[.own k0,.own k1,.own k2,.own k3,.own k4,.val (.int .i64 cf.aR)]
structure yO(row:Nat→Option Sx.Row)(tc:Option Nat)(rd:Sx.Row)(kc kd k0 k1 k2 k3 k4:Nat)(cf:CF):Prop where
 c:row kc=some (eH tc (ig k0 k1 k2 k3 k4 cf))
 d:row kd=some rd
 p:row k0=some ⟨3,.own 1 cf.ag.length cf.cp⟩
 r:row k1=some ⟨118,.own 19 cf.ae.length cf.cr⟩
 l:row k2=some ⟨81,.own 49 cf.rules.length cf.cl⟩
 m:row k3=some ⟨122,.own 4 cf.af.length cf.cm⟩
 i:row k4=some ⟨124,.own 3 cf.aa.length cf.ci⟩
abbrev vf(row:Nat→Option Sx.Row)(tc td:Option Nat)(kc kd k0 k1 k2 k3 k4:Nat)(cf:CF)(d:Nat):Prop:=yO row tc (kr td d) kc kd k0 k1 k2 k3 k4 cf
def jS(β:Sx.Env)(k0 k1 k2 k3 k4:Nat):fN:=⟨⟨β.a k0,β.c k0⟩,⟨β.a k1,β.c k1⟩,⟨β.a k2,β.c k2⟩,⟨β.a k3,β.c k3⟩,⟨β.a k4,β.c k4⟩⟩
theorem Hf{β:Sx.Env}{W:World}{tc:Option Nat}{kc:Nat}{cs:List Sx.SV}(h:Sx.aT β W kc (eH tc cs)):aq W (β kc) 46 (cs.map (Sx.SV.den β))∧∀g,tc=some g→β kc=g:=by
 cases tc with
 |some g=>exact⟨h.2,fun g' hg=>by cases hg;exact h.1⟩
 |none=>exact⟨h,fun g hg=>by cases hg⟩
theorem GM{β:Sx.Env}{W:World}{tc:Option Nat}{kc:Nat}{cs:List Sx.SV}(h:aq W (β kc) 46 (cs.map (Sx.SV.den β)))(ht:∀g,tc=some g→β kc=g):Sx.aT β W kc (eH tc cs):=by
 cases tc with
 |some g=>exact⟨ht g rfl,h⟩
 |none=>exact h
theorem Om{β:Sx.Env}{W:World}{td:Option Nat}{kd d:Nat}(h:Sx.aT β W kd (kr td d)):aq W (β kd) 3 [.int .i64 (d:Int)]∧∀g,td=some g→β kd=g:=by
 cases td with
 |some g=>exact⟨h.2,fun g' hg=>by cases hg;exact h.1⟩
 |none=>exact⟨h,fun g hg=>by cases hg⟩
theorem Og{β:Sx.Env}{W:World}{td:Option Nat}{kd d:Nat}(h:aq W (β kd) 3 [.int .i64 (d:Int)])(ht:∀g,td=some g→β kd=g):Sx.aT β W kd (kr td d):=by
 cases td with
 |some g=>exact⟨ht g rfl,h⟩
 |none=>exact h
theorem uM{β:Sx.Env}{tc:Option Nat}{kc:Nat}{cs:List Sx.SV}:Sx.av β kc (eH tc cs)=some (β kc):=by cases tc<;>rfl
theorem CT{β:Sx.Env}{td:Option Nat}{kd d:Nat}:Sx.av β kd (kr td d)=some (β kd):=by cases td<;>rfl
def TY(β:Sx.Env)(kc kd k0 k1 k2 k3 k4:Nat):List (Nat×Option Nat):=[(kc,some (β kc)),(kd,some (β kd)),(k0,(β.a k0).map (·.block)),(k1,(β.a k1).map (·.block)),(k2,(β.a k2).map (·.block)),(k3,(β.a k3).map (·.block)),(k4,(β.a k4).map (·.block))]
theorem ON{b:Sx.aY}{β:Sx.Env}{W:World}{row:Nat→Option Sx.Row}{gh:List Nat}{tc:Option Nat}{rd:Sx.Row}{kc kd k0 k1 k2 k3 k4:Nat}{cf:CF}(hS:Sx.dS b β W row gh)(h:yO row tc rd kc kd k0 k1 k2 k3 k4 cf)(hrd:Sx.av β kd rd=some (β kd))(hs:∀k∈[kc,kd,k0,k1,k2,k3,k4],k∈gh)(hn:[kc,kd,k0,k1,k2,k3,k4].Nodup) :
  oL W (β kc) cf (jS β k0 k1 k2 k3 k4)∧(cA (β kc) (β kd) (jS β k0 k1 k2 k3 k4)).Nodup∧(∀k∈cA (β kc) (β kd) (jS β k0 k1 k2 k3 k4),k∈b.S∨b.w.heap.size≤k):=by
 have c:=Hf (hS.held kc (hs _ (by simp)) _ h.c);have p:β.n k0=cf.ag.length∧Own W 3 1 (.slice (β.a k0) cf.ag.length (β.c k0)) cf.ag.length cf.cp:=hS.held k0 (hs _ (by simp)) _ h.p;have r:β.n k1=cf.ae.length∧Own W 118 19 (.slice (β.a k1) cf.ae.length (β.c k1)) cf.ae.length cf.cr:=hS.held k1 (hs _ (by simp)) _ h.r;have l:β.n k2=cf.rules.length∧Own W 81 49 (.slice (β.a k2) cf.rules.length (β.c k2)) cf.rules.length cf.cl:=hS.held k2 (hs _ (by simp)) _ h.l;have m:β.n k3=cf.af.length∧Own W 122 4 (.slice (β.a k3) cf.af.length (β.c k3)) cf.af.length cf.cm:=hS.held k3 (hs _ (by simp)) _ h.m;have i:β.n k4=cf.aa.length∧Own W 124 3 (.slice (β.a k4) cf.aa.length (β.c k4)) cf.aa.length cf.ci:=hS.held k4 (hs _ (by simp)) _ h.i;have hb:aq W (β kc) 46 [.slice (β.a k0) cf.ag.length (β.c k0),.slice (β.a k1) cf.ae.length (β.c k1),.slice (β.a k2) cf.rules.length (β.c k2),.slice (β.a k3) cf.af.length (β.c k3),.slice (β.a k4) cf.aa.length (β.c k4),.int .i64 cf.aR]:=by have:=c.1;have hh:(ig k0 k1 k2 k3 k4 cf).map (Sx.SV.den β)=[β.sl k0,β.sl k1,β.sl k2,β.sl k3,β.sl k4,.int .i64 cf.aR]:=rfl;rw[hh]at this;unfold Sx.Env.sl at this;rw[p.1,r.1,l.1,m.1,i.1]at this;exact this
 have rows:∀x∈TY β kc kd k0 k1 k2 k3 k4,∀k,x.2=some k→x.1∈gh∧∃r,row x.1=some r∧Sx.av β x.1 r=some k:=by
  intro x hx k hk;simp only[TY,VO,VN,or_false]at hx;rcases hx with rfl|rfl|rfl|rfl|rfl|rfl|rfl
  ·exact⟨hs _ (by simp),_,h.c,uM.trans hk⟩
  ·exact⟨hs _ (by simp),_,h.d,hrd.trans hk⟩
  ·exact⟨hs _ (by simp),_,h.p,hk⟩
  ·exact⟨hs _ (by simp),_,h.r,hk⟩
  ·exact⟨hs _ (by simp),_,h.l,hk⟩
  ·exact⟨hs _ (by simp),_,h.m,hk⟩
  ·exact⟨hs _ (by simp),_,h.i,hk⟩
 have nd:∀(l:List (Nat×Option Nat)),(l.map (·.1)).Nodup→(∀x∈l,∀k,x.2=some k→x.1∈gh∧∃r,row x.1=some r∧Sx.av β x.1 r=some k)→((l.map (·.2)).filterMap id).Nodup:=by
  intro l;induction l with
  |nil=>intro _ _;simp
  |cons x l ih=>
   intro hn hr;rw[VU,VH]at hn;have ih:=ih hn.2 fun y hy=>hr y (VL _ hy);cases hx:x.2 with
   |none=>simpa[hx]using ih
   |some k=>
    have e:((x::l).map (·.2)).filterMap id=k::(l.map (·.2)).filterMap id:=by simp[hx]
    rw[e,VH];refine⟨fun hk=>?_,ih⟩;obtain⟨o,ho,hok⟩:=VF.1 hk;obtain⟨y,hy,rfl⟩:=VM.1 ho;obtain⟨s1,r1,h1,h2⟩:=hr x (by simp) k hx;obtain⟨s2,r2,h3,h4⟩:=hr y (VL _ hy) k hok;have:=hS.inj _ s1 _ s2 _ _ _ h1 h3 h2 h4;exact hn.1 (VM.2 ⟨y,hy,this.symm⟩)
 refine⟨⟨hb,p.2,r.2,l.2,m.2,i.2⟩,nd (TY β kc kd k0 k1 k2 k3 k4) hn rows,fun k hk=>?_⟩;obtain⟨o,ho,hok⟩:=VF.1 hk;have hm:o∈(TY β kc kd k0 k1 k2 k3 k4).map (·.2):=ho;obtain⟨x,hx,rfl⟩:=VM.1 hm;obtain⟨hsee,r,hr,hbk⟩:=rows x hx k hok;exact hS.new x.1 hsee r k hr hbk
theorem KZ{b:Sx.aY}{β:Sx.Env}{W:World}{row:Nat→Option Sx.Row}{gh:List Nat}{tc td:Option Nat}{kc kd k0 k1 k2 k3 k4:Nat}{cf:CF}{d:Nat}(hS:Sx.dS b β W row gh)(h:vf row tc td kc kd k0 k1 k2 k3 k4 cf d)(hs:∀k∈[kc,kd,k0,k1,k2,k3,k4],k∈gh)(hn:[kc,kd,k0,k1,k2,k3,k4].Nodup) :
  oL W (β kc) cf (jS β k0 k1 k2 k3 k4)∧aq W (β kd) 3 [.int .i64 (d:Int)]∧(cA (β kc) (β kd) (jS β k0 k1 k2 k3 k4)).Nodup∧(∀k∈cA (β kc) (β kd) (jS β k0 k1 k2 k3 k4),k∈b.S∨b.w.heap.size≤k):=
 let ⟨a,c,e⟩:=ON hS h CT hs hn
 ⟨a,(Om (hS.held kd (hs _ (by simp)) _ h.d)).1,c,e⟩
def aH(β:Sx.Env)(m:Nat)(cf:CF)(s:fN):Sx.Env:=
 ⟨β.b,fun i=>if i=m then s.p.A else if i=m+1 then s.r.A else if i=m+2 then s.l.A else if i=m+3 then s.m.A else if i=m+4 then s.i.A else β.a i,
  fun i=>if i=m then cf.ag.length else if i=m+1 then cf.ae.length else if i=m+2 then cf.rules.length else if i=m+3 then cf.af.length else if i=m+4 then cf.aa.length else β.n i,
  fun i=>if i=m then s.p.c else if i=m+1 then s.r.c else if i=m+2 then s.l.c else if i=m+3 then s.m.c else if i=m+4 then s.i.c else β.c i⟩
def Ru(tc:Option Nat)(rd:Sx.Row)(kx:List Nat)(kc kd k0 k1 k2 k3 k4 m:Nat)(cf:CF)(v:Value)(Cq:Option Prop):Sx.cn:=
 ⟨kx++[kc,kd,k0,k1,k2,k3,k4],[(kc,eH tc (ig m (m+1) (m+2) (m+3) (m+4) cf)),(kd,rd)],kx++[k0,k1,k2,k3,k4],cF cf,.val v,Cq⟩
theorem La{β:Sx.Env}{W w':World}{row:Nat→Option Sx.Row}{tc:Option Nat}{rd rd':Sx.Row}{kx:List Nat}{kc kd k0 k1 k2 k3 k4 m:Nat}{cf cf':CF}{s':fN}{v:Value}{e:Ending}{Cq:Option Prop}{X:List Nat}
  (h:yO row tc rd kc kd k0 k1 k2 k3 k4 cf) (hrd:Sx.av β kd rd=some (β kd)) (htc:∀g,tc=some g→β kc=g)
  (he:e=.returned v) (hcf:oL w' (β kc) cf' s') (hbd:Sx.aT (aH β m cf' s') w' kd rd') (hnd:(cA (β kc) (β kd) s').Nodup)
  (hX:∀k∈X,∃i∈kx,Sx.cg β row i=some k)
  (hfrom:∀k∈cA (β kc) (β kd) s',k∈X++cA (β kc) (β kd) (jS β k0 k1 k2 k3 k4)∨W.heap.size≤k) (hc:ah (X++cA (β kc) (β kd) (jS β k0 k1 k2 k3 k4)) W w') :
  Sx.DH β W row m (Ru tc rd' kx kc kd k0 k1 k2 k3 k4 m cf' v Cq) e w' (aH β m cf' s'):=by
 have bk:∀{i:Nat} {r:Sx.Row} {k:Nat},row i=some r→Sx.av β i r=some k→Sx.cg β row i=some k:=fun {i r k} hi hk=>by unfold Sx.cg;rw[hi];exact hk
 have dE:∀k∈X++cA (β kc) (β kd) (jS β k0 k1 k2 k3 k4),k∈Sx.cn.dE β row (Ru tc rd' kx kc kd k0 k1 k2 k3 k4 m cf' v Cq):=fun k hk=>by
  show k∈([kc,kd]++(kx++[k0,k1,k2,k3,k4])).filterMap (Sx.cg β row);rcases Wh.1 hk with hk|hk
  ·obtain⟨i,hi,hb⟩:=hX k hk
   exact VF.2 ⟨i,by simp[hi],hb⟩
  ·rcases dK.1 hk with rfl|rfl|hk|hk|hk|hk|hk
   ·exact VF.2 ⟨kc,by simp,bk h.c uM⟩
   ·exact VF.2 ⟨kd,by simp,bk h.d hrd⟩
   ·exact VF.2 ⟨k0,by simp,bk h.p hk⟩
   ·exact VF.2 ⟨k1,by simp,bk h.r hk⟩
   ·exact VF.2 ⟨k2,by simp,bk h.l hk⟩
   ·exact VF.2 ⟨k3,by simp,bk h.m hk⟩
   ·exact VF.2 ⟨k4,by simp,bk h.i hk⟩
 have ea:∀j,j < 5→(aH β m cf' s').a (m+j)=[s'.p.A,s'.r.A,s'.l.A,s'.m.A,s'.i.A].getD j none:=fun j hj=>by
  match j,hj with
  | 0,_=>simp[aH]
  | 1,_=>simp[aH]
  | 2,_=>simp[aH]
  | 3,_=>simp[aH]
  | 4,_=>simp[aH]
 have cells:(ig m (m+1) (m+2) (m+3) (m+4) cf').map (Sx.SV.den (aH β m cf' s'))=[.slice s'.p.A cf'.ag.length s'.p.c,.slice s'.r.A cf'.ae.length s'.r.c,.slice s'.l.A cf'.rules.length s'.l.c,.slice s'.m.A cf'.af.length s'.m.c,.slice s'.i.A cf'.aa.length s'.i.c,.int .i64 cf'.aR]:=by simp[ig,Sx.SV.den,Sx.Env.sl,aH]
 have own5:∀(j:Nat) (r:Sx.Row) (x:Nat),(cF cf')[j]?=some r→Sx.av (aH β m cf' s') (m+j) r=some x→j < 5∧([s'.p.A,s'.r.A,s'.l.A,s'.m.A,s'.i.A].getD j none).map (·.block)=some x:=fun j r x hr hx=>by
  have hj:j < 5:=(VG.1 hr).1;refine⟨hj,?_⟩;rw[←ea j hj];match j,hj,hr with
  | 0,_,hr=>cases hr;exact hx
  | 1,_,hr=>cases hr;exact hx
  | 2,_,hr=>cases hr;exact hx
  | 3,_,hr=>cases hr;exact hx
  | 4,_,hr=>cases hr;exact hx
 have mem5:∀(j x:Nat),j < 5→([s'.p.A,s'.r.A,s'.l.A,s'.m.A,s'.i.A].getD j none).map (·.block)=some x→x∈cA (β kc) (β kd) s':=fun j x hj hx=>by
  refine dK.2 ?_;match j,hj,hx with
  | 0,_,hx=>exact .inr (.inr (.inl hx))
  | 1,_,hx=>exact .inr (.inr (.inr (.inl hx)))
  | 2,_,hx=>exact .inr (.inr (.inr (.inr (.inl hx))))
  | 3,_,hx=>exact .inr (.inr (.inr (.inr (.inr (.inl hx)))))
  | 4,_,hx=>exact .inr (.inr (.inr (.inr (.inr (.inr hx)))))
 have ne2:∀x,(∃j,j < 5∧([s'.p.A,s'.r.A,s'.l.A,s'.m.A,s'.i.A].getD j none).map (·.block)=some x)→x≠β kc∧x≠β kd:=fun x ⟨j,hj,hx⟩=>by
  have h1:cA (β kc) (β kd) s'=β kc::β kd::([s'.p.A,s'.r.A,s'.l.A,s'.m.A,s'.i.A].map (VP (·.block))).filterMap id:=rfl;rw[h1,VH,VH]at hnd;have hin:x∈([s'.p.A,s'.r.A,s'.l.A,s'.m.A,s'.i.A].map (VP (·.block))).filterMap id:=by
   refine VF.2 ⟨some x,?_,rfl⟩;rw[←hx];refine VM.2 ⟨_,?_,rfl⟩;match j,hj with
   | 0,_=>simp
   | 1,_=>simp
   | 2,_=>simp
   | 3,_=>simp
   | 4,_=>simp
  exact⟨fun he=>hnd.1 (by rw[←he];exact VL _ hin),fun he=>hnd.2.1 (by rw[←he];exact hin)⟩
 refine⟨fun i hi=>⟨rfl,?_,?_,?_⟩,he,fun q hq=>?_,fun k r hr=>?_,fun k r x hr hx=>?_,fun k k' r r' x hr hr' hx hx'=>?_,hc.mono fun k hk=>.inl (dE k hk)⟩
 ·simp[aH,show i≠m by omega,show i≠m+1 by omega,show i≠m+2 by omega,show i≠m+3 by omega,show i≠m+4 by omega]
 ·simp[aH,show i≠m by omega,show i≠m+1 by omega,show i≠m+2 by omega,show i≠m+3 by omega,show i≠m+4 by omega]
 ·simp[aH,show i≠m by omega,show i≠m+1 by omega,show i≠m+2 by omega,show i≠m+3 by omega,show i≠m+4 by omega]
 ·have hq:q=(kc,eH tc (ig m (m+1) (m+2) (m+3) (m+4) cf'))∨q=(kd,rd'):=by
   have:q∈[(kc,eH tc (ig m (m+1) (m+2) (m+3) (m+4) cf')),(kd,rd')]:=hq;simpa using this
  rcases hq with rfl|rfl
  ·refine GM ?_ htc
   show aq w' (β kc) 46 _;rw[cells];exact hcf.bY
  ·exact hbd
 ·have hj:k < 5:=(VG.1 (show(cF cf')[k]?=some r from hr)).1
  match k,hj,hr with
  | 0,_,hr=>cases hr;refine⟨by simp[aH],?_⟩;have:=hcf.p;simpa[aH]using this
  | 1,_,hr=>cases hr;refine⟨by simp[aH],?_⟩;have:=hcf.r;simpa[aH]using this
  | 2,_,hr=>cases hr;refine⟨by simp[aH],?_⟩;have:=hcf.l;simpa[aH]using this
  | 3,_,hr=>cases hr;refine⟨by simp[aH],?_⟩;have:=hcf.m;simpa[aH]using this
  | 4,_,hr=>cases hr;refine⟨by simp[aH],?_⟩;have:=hcf.i;simpa[aH]using this
 ·obtain⟨hj,hb⟩:=own5 k r x hr hx
  have hne:=ne2 x ⟨k,hj,hb⟩;rcases hfrom x (mem5 k x hj hb)with hx|hx
  ·refine .inl ?_
   show x∈(kx++[k0,k1,k2,k3,k4]).filterMap (Sx.cg β row);rcases Wh.1 hx with hx|hx
   ·obtain⟨i,hi,hbk⟩:=hX x hx
    exact VF.2 ⟨i,by simp[hi],hbk⟩
   ·rcases dK.1 hx with hx|hx|hk|hk|hk|hk|hk
    ·exact absurd hx hne.1
    ·exact absurd hx hne.2
    ·exact VF.2 ⟨k0,by simp,bk h.p hk⟩
    ·exact VF.2 ⟨k1,by simp,bk h.r hk⟩
    ·exact VF.2 ⟨k2,by simp,bk h.l hk⟩
    ·exact VF.2 ⟨k3,by simp,bk h.m hk⟩
    ·exact VF.2 ⟨k4,by simp,bk h.i hk⟩
  ·exact .inr hx
 ·obtain⟨hj,hb⟩:=own5 k r x hr hx
  obtain⟨hj',hb'⟩:=own5 k' r' x hr' hx';have h1:cA (β kc) (β kd) s'=β kc::β kd::([s'.p.A,s'.r.A,s'.l.A,s'.m.A,s'.i.A].map (VP (·.block))).filterMap id:=rfl;rw[h1,VH,VH]at hnd;have key:∀(l:List (Option Go.Addr)) (j j':Nat),((l.map (VP (·.block))).filterMap id).Nodup→j < l.length→j' < l.length→(l.getD j none).map (·.block)=some x→(l.getD j' none).map (·.block)=some x→j=j':=by
   intro l;induction l with
   |nil=>intro j j' _ hj;simp at hj
   |cons o l ih=>
    intro j j' hn hj hj' hb hb';have no:o.map (·.block)=some x→∀i,i < l.length→(l.getD i none).map (·.block)=some x→False:=fun ho i hi hbi=>by
     have e:((o::l).map (VP (·.block))).filterMap id=x::(l.map (VP (·.block))).filterMap id:=by rw[VU,ho];rfl
     rw[e,VH]at hn;refine hn.1 (VF.2 ⟨some x,VM.2 ⟨l.getD i none,?_,hbi⟩,rfl⟩);rw[List.getD_eq_getElem?_getD,List.getElem?_eq_getElem hi];exact List.getElem_mem hi
    have hn':((l.map (VP (·.block))).filterMap id).Nodup:=by
     rw[VU]at hn;cases ho:o.map (·.block)with
     |none=>rw[ho]at hn;exact hn
     |some y=>rw[ho]at hn;exact(VH.1 hn).2
    cases j with
    |zero=>
     cases j' with
     |zero=>rfl
     |succ j'=>exact(no hb j' (by simpa using hj') hb').elim
    |succ j=>
     cases j' with
     |zero=>exact(no hb' j (by simpa using hj) hb).elim
     |succ j'=>rw[ih j j' hn' (by simpa using hj) (by simpa using hj') hb hb']
  exact key _ k k' hnd.2.2 hj hj' hb hb'
abbrev UL(tc td:Option Nat)(kx:List Nat)(kc kd k0 k1 k2 k3 k4 m:Nat)(cf:CF)(d:Nat)(v:Value)(Cq:Option Prop):Sx.cn:=Ru tc (kr td d) kx kc kd k0 k1 k2 k3 k4 m cf v Cq
theorem OO{β:Sx.Env}{W w':World}{row:Nat→Option Sx.Row}{tc td:Option Nat}{kx:List Nat}{kc kd k0 k1 k2 k3 k4 m:Nat}{cf cf':CF}{d d':Nat}{s':fN}{v:Value}{e:Ending}{Cq:Option Prop}{X:List Nat}
  (h:vf row tc td kc kd k0 k1 k2 k3 k4 cf d) (htc:∀g,tc=some g→β kc=g) (htd:∀g,td=some g→β kd=g)
  (he:e=.returned v) (hcf:oL w' (β kc) cf' s') (hbd:aq w' (β kd) 3 [.int .i64 (d':Int)]) (hnd:(cA (β kc) (β kd) s').Nodup)
  (hX:∀k∈X,∃i∈kx,Sx.cg β row i=some k)
  (hfrom:∀k∈cA (β kc) (β kd) s',k∈X++cA (β kc) (β kd) (jS β k0 k1 k2 k3 k4)∨W.heap.size≤k) (hc:ah (X++cA (β kc) (β kd) (jS β k0 k1 k2 k3 k4)) W w') :
  Sx.DH β W row m (UL tc td kx kc kd k0 k1 k2 k3 k4 m cf' d' v Cq) e w' (aH β m cf' s'):=
 La h CT htc he hcf (Og hbd htd) hnd hX hfrom hc
end Go.Proofs.YtnncigmpcdehnaaGreatDoor
