import Derived.Test.YtnncigmpcdehnaaGreatDoorQh03
import Derived.Test.YtnncigmpcdehnaaGreatDoorQh05
import Derived.Lib.OthersKept
import Derived.Laws.RangeAny
import Derived.Deep.CutRange
open Go.Value renaming bool→Xy,int→XC,tuple→XI,string→XN
open List renaming length_cons→Xz,length_append→XB,length_nil→XD,getElem?_eq_some_iff→XF,getElem?_eq_getElem→XH,getElem?_eq_none_iff→XS,range→XU,length_singleton→XX,mem_singleton→X0,getElem?_drop→X1,append_nil→X3,mem_range→X6,map_cons→X9,map_map→Yb,map_id→Yc,take→Yf,drop→Yg
open Go.IntKind renaming i64→XA,u8→XY
open And renaming intro→XE
open Eq renaming mp→XG
open Nat renaming zero_le→XJ,lt_of_lt_of_le→XM,le_refl→XR,div_le_div_left→XZ,strongRecOn→X4,div_lt_self→X5,mul_one→Yd
open Bool renaming and_eq_true→XL,eq_iff_iff→XQ,true_and→XW
open Int renaming toNat_natCast→XO,tmod_eq_emod_of_nonneg→XT
open Go.Sem renaming run_bind→XP
open Go.Instr renaming sliceAt→XV,indexAt→X7,loadAt→Ya
namespace Go.Proofs.YtnncigmpcdehnaaGreatDoor
open Go.RowKit Go.Lib Go.Sort
def vo(i:Nat)(c:UInt8):Bool:=(decide (97≤c.toNat)&&decide (c.toNat≤122))||(decide (0 < i)&&(decide (48≤c.toNat)&&decide (c.toNat≤57)||decide (c.toNat=45)||decide (c.toNat=95)))
def aK(l:List UInt8):Bool:=decide (1≤l.length)&&decide (l.length≤16)&&(XU l.length).all fun i=>vo i (l[i]?.getD 0)
theorem kT{l:List UInt8}{i:Nat}{c:UInt8}(h:l[i]?=some c)(hc:vo i c=false):aK l=false:=by have hlt:i < l.length:=(XF.1 h).1;unfold aK;rw[Bool.and_eq_false_iff];right;rw[List.all_eq_false];exact⟨i,X6.2 hlt,by rw[h];simpa using hc⟩
theorem zG{l:List UInt8}(h1:1≤l.length)(h2:l.length≤16)(h:∀i c,l[i]?=some c→vo i c=true):aK l=true:=by unfold aK;rw[decide_eq_true h1,decide_eq_true h2,XW,XW,List.all_eq_true];intro i hi;have hlt:=X6.1 hi;rw[XH hlt];exact h i _ (XH hlt)
theorem Qo{i:Nat}{c:UInt8}{x:Int}(hx:x=(c.toNat:Int))(h1:97≤x)(h2:x≤122):vo i c=true:=by unfold vo;rw[decide_eq_true (show 97≤c.toNat by omega),decide_eq_true (show c.toNat≤122 by omega)];rfl
theorem AY{i:Nat}{c:UInt8}{x:Int}(hx:x=(c.toNat:Int))(hi:0 < i)(h:(48≤x∧x≤57)∨x=45∨x=95):vo i c=true:=by
 unfold vo;rw[decide_eq_true hi];rcases h with⟨h1,h2⟩ | h|h
 ·rw[decide_eq_true (show 48≤c.toNat by omega),decide_eq_true (show c.toNat≤57 by omega)];simp
 ·rw[decide_eq_true (show c.toNat=45 by omega)];simp
 ·rw[decide_eq_true (show c.toNat=95 by omega)];simp
theorem zF{i:Nat}{c:UInt8}{x:Int}(hx:x=(c.toNat:Int))(h1:¬(97≤x∧x≤122))(h2:¬(0 < i∧((48≤x∧x≤57)∨x=45∨x=95))):vo i c=false:=by unfold vo;apply Bool.eq_false_iff.2;intro h;simp only[Bool.or_eq_true,XL,decide_eq_true_eq]at h;omega
theorem Pw(s:ByteArray)(pos:Nat)(h:pos < s.size):((s[pos]'h).toNat < 128∧Utf8.decode s pos=((s[pos]'h).toNat,1))∨(128≤(s[pos]'h).toNat∧128≤(Utf8.decode s pos).1):=by
 by_cases ha:(s[pos]'h).toNat < 128
 ·exact .inl ⟨ha,decode_ascii s pos h ha⟩
 ·exact .inr ⟨by omega,(decode_high s pos h (by omega)).1⟩
open Go.RowKit Go.Lib Go.Sort
abbrev Bs:=List UInt8
inductive Out (α:Type) where
 |ok (a:α) (i:Nat)
 |no (code:Nat) (place:Nat)
def Out.bind{α β:Type}(r:Out α)(f:α→Nat→Out β):Out β:=match r with
 |.ok a i=>f a i
 |.no c p=>.no c p
def Out.okB{α:Type}:Out α→Bool
 |.ok _ _=>true
 |.no _ _=>false
def Out.val{α:Type} [Inhabited α]:Out α→α
 |.ok a _=>a
 |.no _ _=>default
def Out.pos{α:Type}:Out α→Nat
 |.ok _ i=>i
 |.no _ p=>p
theorem Out.Hg{α:Type} [Inhabited α]{r:Out α}(h:r.okB=true):r=.ok r.val r.pos:=by
 cases r with
 |ok a i=>rfl
 |no c p=>cases h
def iO:Bs:=[97,110,121]
def yK:Bs:=[105,110]
def nS:Bs:=[115,114,99]
def pv:Bs:=[100,115,116]
def gE:Bs:=[112,114,111,116,111]
def jh:Bs:=[115,112,111,114,116]
def jV:Bs:=[100,112,111,114,116]
def kj:Bs:=[116,99,112]
def kY:Bs:=[117,100,112]
def bZ:Bs:=[114,111,117,116,101]
def jb:Bs:=[100,114,111,112]
def eC:Bs:=[114,101,106,101,99,116]
def mj:Bs:=[111,117,116]
def oz:Bs:=[45,62]
def bc:Bs:=[109,101,116,101,114]
def aT:Bs:=[109,105,114,114,111,114]
def gD:Bs:=[112,111,114,116]
def fT:Bs:=[114,117,108,101]
def aO:Bs:=[100,101,102,97,117,108,116]
structure Px where
 v:Bool
 n:Nat
 k:Int
def ov:Px:=⟨false,0,0⟩
instance:Inhabited Px:=⟨ov⟩
def Px.cells(p:Px):List Value:=dt p.v p.n p.k
noncomputable def ou(s:Bs):Option Px:=by
 classical
 exact if h:∃p:Px,tb s p.v p.n p.k then some h.choose else none
def cZ(s:Bs):Nat:=s.foldl (fun a c=>10*a+mq c) 0
def aS(most:Nat)(s:Bs):Bool:=decide (cZ s≤most)&&decide (aq 10 (cZ s)=s)
def aV(ws:List Bs)(i:Nat):Out Bs:=match ws[i]? with
 |some x=>.ok x (i+1)
 |none=>.no 200 (i+1)
def dm(ws:List Bs)(i:Nat)(s:Bs):Out Bool:=if ws[i]?=some s then .ok true (i+1)else .ok false i
def aY{α:Type}(b:Bool)(code:Nat)(a:α)(i:Nat):Out α:=match b with
 |true=>.ok a i
 |false=>.no code i
def bE(most:Nat)(ws:List Bs)(i:Nat):Out Nat:=(aV ws i).bind fun x j=>aY (aS most x) 200 (cZ x) j
def ji(ws:List Bs)(i:Nat):Out Nat:=bE 9223372036854775807 ws i
def fO(ws:List Bs)(i:Nat):Out Bs:=(aV ws i).bind fun x j=>aY (aK x) 201 x j
noncomputable def dE(ws:List Bs)(i:Nat):Out Px:=(aV ws i).bind fun x j=>aY (ou x).isSome 151 ((ou x).getD ov) j
def cP(x:Bs):Bs×Bs:=match(Lib.cut x [45]).2.2 with
 |true=>((Lib.cut x [45]).1,(Lib.cut x [45]).2.1)
 |false=>((Lib.cut x [45]).1,(Lib.cut x [45]).1)
def jD(ws:List Bs)(i:Nat):Out (Nat×Nat):=(aV ws i).bind fun x j=>aY (aS 65535 (cP x).1&&aS 65535 (cP x).2) 200 (cZ (cP x).1,cZ (cP x).2) j
def eJ(ws:List Bs)(i:Nat):Out Nat:=(dm ws i kj).bind fun a j=>match a with
 |true=>.ok 6 j
 |false=>(dm ws j kY).bind fun b k=>match b with
  |true=>.ok 17 k
  |false=>bE 255 ws k
structure Mt where
 asks:Nat
 fU:Nat×Nat
 src:Px
 dst:Px
 bw:Nat
 sp:Nat×Nat
 dp:Nat×Nat
def kU:Mt:=⟨0,(0,0),ov,ov,0,(0,0),(0,0)⟩
instance:Inhabited Mt:=⟨kU⟩
def Mt.cells(m:Mt):List Value:=
 [.int .u8 (m.asks:Int),.int .u16 (m.fU.1:Int),.int .u16 (m.fU.2:Int)]++(m.src.cells++(m.dst.cells++[.int .u8 (m.bw:Int),.int .u16 (m.sp.1:Int),.int .u16 (m.sp.2:Int),.int .u16 (m.dp.1:Int),.int .u16 (m.dp.2:Int)]))
def mn(x:Bs):Option Nat:=
 if x=yK then some 0 else if x=nS then some 1 else if x=pv then some 2 else if x=gE then some 3 else if x=jh then some 4 else if x=jV then some 5 else none
noncomputable def cF(k:Nat)(m:Mt)(ws:List Bs)(i:Nat):Out Mt:=match k with
 | 0=>(jD ws i).bind fun s j=>.ok { m with fU:=s } j
 | 1=>(dE ws i).bind fun s j=>.ok { m with src:=s } j
 | 2=>(dE ws i).bind fun s j=>.ok { m with dst:=s } j
 | 3=>(eJ ws i).bind fun s j=>.ok { m with bw:=s } j
 | 4=>(jD ws i).bind fun s j=>.ok { m with sp:=s } j
 |_=>(jD ws i).bind fun s j=>.ok { m with dp:=s } j
noncomputable def aQ(ws:List Bs)(i:Nat)(m:Mt):Out (Bool×Mt):=match ws[i]? with
 |none=>.ok (false,m) i
 |some x=>match mn x with
  |none=>.ok (false,m) i
  |some k=>match m.asks.testBit k with
   |true=>.no 200 (i+1)
   |false=>(cF k { m with asks:=m.asks|||2^k } ws (i+1)).bind fun m' j=>.ok (true,m') j
noncomputable def ec(ws:List Bs):Nat→Nat→Mt→Out Mt
 | 0,i,m=>.ok m i
 |f+1,i,m=>(aQ ws i m).bind fun r j=>match r.1 with
  |true=>ec ws f j r.2
  |false=>.ok m j
noncomputable def eO(ws:List Bs)(i:Nat):Out Mt:=(dm ws i iO).bind fun a j=>match a with
 |true=>.ok kU j
 |false=>(aQ ws j kU).bind fun r k=>match r.1 with
  |true=>ec ws (ws.length+1 - k) k r.2
  |false=>(aV ws k).bind fun _ l=>.no 200 l
def pS(out:Bool)(ws:List Bs)(i:Nat):Out (Int×Int):=(aV ws i).bind fun x j=>
 if x=bZ then .ok (1,0) j else if x=jb then .ok (2,0) j else if x=eC then .ok (4,0) j else
 if x=mj∧out=true then(ji ws j).bind fun n k=>.ok (3,(n:Int)) k else .no 200 j
def iG(s:Nat×Nat):Bool:=decide (s=(0,0))
def Ex(p:Px):Bool:=decide (p.v=false∧p.n=0∧p.k=0)
def bq(m:Mt):Bool:=
 (decide (m.asks < 64)&&((m.asks.testBit 0||iG m.fU)&&((m.asks.testBit 1||Ex m.src)&&((m.asks.testBit 2||Ex m.dst)&&((m.asks.testBit 3||decide (m.bw=0))&&((m.asks.testBit 4||iG m.sp)&&(m.asks.testBit 5||iG m.dp)))))))&&
 ((decide (m.fU.1≤m.fU.2)&&(decide (m.fU.2≤255)&&(decide (m.sp.1≤m.sp.2)&&decide (m.dp.1≤m.dp.2))))&&
 (((!m.asks.testBit 1||gy m.src.v m.src.n m.src.k)&&((!m.asks.testBit 2||gy m.dst.v m.dst.n m.dst.k)&&(!(m.asks.testBit 1&&m.asks.testBit 2)||decide (m.src.v=m.dst.v))))&&
 (!(m.asks.testBit 4||m.asks.testBit 5)||(decide (m.bw=6)||decide (m.bw=17)))))
structure Rl where
 name:Bs
 mt:Mt
 act:Int
 out:Int
 dx:Bs
 cA:Bs
def W0:Rl:=⟨[],kU,0,0,[],[]⟩
instance:Inhabited Rl:=⟨W0⟩
def Rl.cells(r:Rl):List Value:=.string ⟨r.name.toArray⟩::(r.mt.cells++[.int .i64 r.act,.int .i64 r.out,.string ⟨r.dx.toArray⟩,.string ⟨r.cA.toArray⟩])
def o5(s:Bs)(ws:List Bs)(i:Nat):Out Bs:=(dm ws i s).bind fun b j=>match b with
 |true=>fO ws j
 |false=>.ok [] j
def Fx(m:Mt)(ws:List Bs)(i:Nat):Out Unit:=(aV ws i).bind fun x i=>(aY (decide (x=oz)) 200 () i).bind fun _ i=>aY (bq m) 190 () i
noncomputable def od(ws:List Bs)(i:Nat):Out Rl:=(fO ws i).bind fun nm i=>(eO ws i).bind fun m i=>(Fx m ws i).bind fun _ i=>(pS true ws i).bind fun a i=>(o5 bc ws i).bind fun me i=>(o5 aT ws i).bind fun mi i=>.ok ⟨nm,m,a.1,a.2,me,mi⟩ i
structure Rt where
 pf:Px
 out:Int
instance:Inhabited Rt:=⟨⟨ov,0⟩⟩
def Rt.cells(r:Rt):List Value:=r.pf.cells++[.int .i64 r.out]
structure Me where
 name:Bs
 num:Nat
 den:Nat
 qR:Nat
instance:Inhabited Me:=⟨⟨[],0,0,0⟩⟩
def Me.cells(m:Me):List Value:=[.string ⟨m.name.toArray⟩,.int .u64 (m.num:Int),.int .u64 (m.den:Int),.int .u64 (m.qR:Int)]
structure Mi where
 name:Bs
 out:Int
 room:Int
instance:Inhabited Mi:=⟨⟨[],0,0⟩⟩
def Mi.cells(m:Mi):List Value:=[.string ⟨m.name.toArray⟩,.int .i64 m.out,.int .i64 m.room]
structure CF where
 aj:List Int
 af:List Rt
 rules:List Rl
 ag:List Me
 ab:List Mi
 aZ:Int
def uU:CF:=⟨[],[],[],[],[],0⟩
instance:Inhabited CF:=⟨uU⟩
noncomputable def fC(x:Bs)(ws:List Bs)(i:Nat)(cf:CF)(d:Nat):Out CF:=
 if x=gD then(ji ws i).bind fun n i=>.ok { cf with aj:=cf.aj++[(n:Int)] } i
 else if x=bZ then(dE ws i).bind fun p i=>(ji ws i).bind fun n i=>.ok { cf with af:=cf.af++[⟨p,(n:Int)⟩] } i
 else if x=bc then(fO ws i).bind fun nm i=>(bE 18446744073709551615 ws i).bind fun a i=>(bE 18446744073709551615 ws i).bind fun b i=>(bE 18446744073709551615 ws i).bind fun c i=>.ok { cf with ag:=cf.ag++[⟨nm,a,b,c⟩] } i
 else if x=aT then(fO ws i).bind fun nm i=>(ji ws i).bind fun a i=>(ji ws i).bind fun b i=>.ok { cf with ab:=cf.ab++[⟨nm,(a:Int),(b:Int)⟩] } i
 else if x=fT then(od ws i).bind fun r i=>.ok { cf with rules:=cf.rules++[r] } i
 else if x=aO then(aY (decide (d=0)) 200 () i).bind fun _ i=>(pS false ws i).bind fun a i=>.ok { cf with aZ:=a.1 } i
 else .no 200 i
def qG{α:Type}(ws:List Bs)(a:α)(i:Nat):Out α:=match decide (i < ws.length)with
 |true=>.no 200 (i+1)
 |false=>.ok a i
noncomputable def pz(ws:List Bs)(i:Nat)(cf:CF)(d:Nat):Out CF:=(aV ws i).bind fun x i=>(fC x ws i cf d).bind fun c i=>qG ws c i
noncomputable def ef(ws:List Bs)(cf:CF)(d:Nat):Out CF:=match ws with
 | []=>.ok cf 0
 |_=>pz ws 0 cf d
def dN(ws:List Bs)(d:Nat):Nat:=if ws[0]?=some aO then d+1 else d
def bB(cm:Bool):Bs→Bs→List Bs
 |cur,[]=>if cur=[] then [] else [cur]
 |cur,c::r=>if cm=true∧c=35 then(if cur=[] then [] else [cur])else
  if c=32∨c=9 then(if cur=[] then bB cm [] r else cur::bB cm [] r)else bB cm (cur++[c]) r
def aD(cm:Bool)(s:Bs):List Bs:=bB cm [] s
inductive OV where
 |ok (cf:CF)
 |no (code line:Nat)
noncomputable def ei:List Bs→Nat→CF→Nat→OV
 | [],_,cf,d=>.ok (if d=0 then { cf with aZ:=2 }else cf)
 |l::ls,k,cf,d=>match ef (aD true l) cf d with
  |.ok c _=>ei ls (k+1) c (dN (aD true l) d)
  |.no code _=>.no code k
set_option maxRecDepth 100000
open Go.RowKit Go.Lib Go.Sort _root_.Go.Proofs.Tryz
def EB(code at_:Int)(w:World)(chain:List PanicEntry)(w':World):Prop:=
 ∃N,chain=[{ v:=.iface 103 ((pt N 0)),recovered:=false }]∧w.heap.size≤N∧aw w' N 105 [.int .i64 code,.int .i64 at_]
set_option maxHeartbeats 4000000 in
theorem tY(lp:Value)(code at_:Int)(w:World):Calls prog 94 #[lp,.int .i64 code,.int .i64 at_] w fun e w'=>∃chain,e=.panicked chain∧EB code at_ w chain w'∧ai [] w w':=by
 go_enter func94,ntmps94
 go_wp2
 refine⟨rfl,_,rfl,⟨w.heap.size,rfl,XR _,?_⟩,(ai.refl [] w).alloc _⟩;exact aw.new w 105 #[.int .i64 code,.int .i64 at_]
open Go Go.RowKit Go.Lib Go.Sort
section
variable{P:Program}{ops:Array Oper}{Q:Exit→Act→World→Prop}{a:Act}{w:World}{rest:List Oper}{o:Oper}{C:World→Prop}
theorem sf(cs:List Value)(b off:Nat)(ty:TypeId)(x:Operand)(d:TypeDesc)(hw:Region.wanted o (yielded ops a.tmps)=true)(ho:o.op=.load ty x)(hx:a.eval x=.pointer (some ⟨b,off,none⟩))(hc:w.rangeAt b off cs)
  (hu:P.underlying ty=some d) (hd:d.isRow=true) (hi:(P.info? ty).map (·.size)=some cs.length) (h:wpList P ops Q rest (a.put o.dst (.agg cs.toArray)) w):wpList P ops Q (o::rest) a w:=by
 unfold wpList;rw[if_pos hw];exact .inl (wp_load_mid ty x ho b off hx cs d hc hu hd hi h)
end
set_option maxRecDepth 100000
open Go.RowKit Go.Lib Go.Sort _root_.Go.Proofs.Tryz
set_option maxRecDepth 100000
set_option maxHeartbeats 1000000 in
theorem r7(v:Bool)(n:Nat)(w:World) :
  Calls prog 51 #[.agg (cD v n).toArray] w fun e w'=>e=.returned (.int .i64 (wid v:Nat))∧ai [] w w':=by
 have b0:=aw.new w 24 (cD v n).toArray;have c0:=b0.cell_of (i:=0) (v:=.bool v) rfl;have fin:=hid ((ai.refl [] w).alloc (.cells (cD v n).toArray 24));cases v
 ·go_enter func51,ntmps51
  go_wp2
  go_ret
  exact⟨rfl,fin.out⟩
 ·go_enter func51,ntmps51
  go_wp2
  go_ret
  exact⟨rfl,fin.out⟩
theorem Rw(n i:Nat)(hi:i < 128):((((ah n (i / 8):Nat):Int) / 2^(7 - i%8)).tmod 2==1)=nh n i:=by
 rw[←Ec n i hi];have e:(((ah n (i / 8):Nat):Int) / 2^(7 - i%8))=((ah n (i / 8) / 2^(7 - i%8):Nat):Int):=by rw[Int.natCast_ediv,Int.natCast_pow];rfl
 rw[e];generalize ah n (i / 8) / 2^(7 - i%8)=q;rw[XT (by omega),XQ,beq_iff_eq,decide_eq_true_eq];omega
theorem VP(v:Bool)(n i:Nat)(hi:i < 128)(w:World) :
  Calls prog 120 #[.agg (cD v n).toArray,.int .i64 i] w fun e w'=>e=.returned (.bool (nh n i))∧ai [] w w':=by
 have b0:=aw.new w 24 (cD v n).toArray;have c0:=b0.cell_of (cM v (ah n) (i / 8) (by omega));have fin:=hid ((ai.refl [] w).alloc (.cells (cD v n).toArray 24));have hb:=hid (Rw n i hi);have i0:(0:Int)≤(i:Int):=by omega
 have i1:(i:Int) < 128:=by omega
 have i2:(0:Int)≤(i:Int) / 8:=by omega
 have i3:(i:Int) / 8 < 16:=by omega
 go_enter func120,ntmps120
 go_wp2
 go_ret
 exact⟨by rw[←hb.out];rfl,fin.out⟩
set_option maxHeartbeats 1000000 in
theorem iI(v:Bool)(n:Nat)(hn:n < 2^128)(w:World) :
  Calls prog 101 #[.agg (cD v n).toArray] w fun e w'=>e=.returned (.int .i64 (dM v n))∧ai [] w w':=by
 have HB:=hid (aw.new w 24 (cD v n).toArray);have HC:=hid ((ai.refl [] w).alloc (.cells (cD v n).toArray 24));have HW:=hid (r7 v n);have hq:(wid v:Int) / 8=((wid v / 8:Nat):Int):=by omega
 have hq16:wid v / 8≤16:=by have:=fG v; omega
 have HOK:=hid (Jw v n hn);obtain⟨q,hqq⟩:∃q,q=wid v / 8:=⟨_,rfl⟩;rw[←hqq]at hq hq16 HOK;clear hqq;go_enter func101,ntmps101
 go_upto_region 2 with(first
  | (go_at_call 51;refine(HW.out _).mono ?_;rintro e w2 ⟨rfl,C2⟩)
  | (refine jH rfl _ rfl w.heap.size rfl 24 v n HB.out ?_))
 have B2:=hid (HB.out.aJ C2 (by simp));have D2:=hid (HC.out.trans C2);clear HB HC C2 HW;go_loop [3] (fun iv=>∃i:Nat,q≤i∧i≤16∧iv=.int .i64 i∧∀j,q≤j→j < i→ah n j=0) (fun iv=>16 - (RowKit.intOf iv).toNat)
 case atStart=>exact⟨q,XR _,hq16,rfl,fun j h1 h2=>by omega⟩
 case round=>
  obtain⟨i,hqi,hi,rfl,hz⟩:=hrel;have HZ:=hid hz;clear hz;by_cases hlt:(i:Int) < 16
  ·have i0:(0:Int)≤(i:Int):=by omega
   have c1:=B2.out.cell_of (cM v (ah n) i (by omega));by_cases hx:ah n i=0
   ·rw[hx]at c1
    go_wp2
    go_round
    case measure=>simp[RowKit.intOf];omega
    case rel=>
     refine⟨i+1,by omega,by omega,by go_num,fun j h1 h2=>?_⟩;by_cases hj:j=i
     ·rw[hj];exact hx
     ·exact HZ.out j h1 (by omega)
   ·have hne:(((ah n i:Nat):Int) !=0)=true:=by rw[bne_iff_ne];omega
    have fin:dM v n=150:=by unfold dM;rw[if_neg (fun h=>hx (HOK.out.1 h i hqi (by omega)))]
    have FIN:=hid fin;clear fin;go_wp2
    go_ret
    exact⟨by rw[FIN.out];rfl,D2.out⟩
  ·have hi16:i=16:=by omega
   subst hi16;have fin:dM v n=0:=by unfold dM;rw[if_pos (HOK.out.2 fun j h1 h2=>HZ.out j h1 h2)]
   have FIN:=hid fin;clear fin;go_wp2
   go_ret
   exact⟨by rw[FIN.out];rfl,D2.out⟩
open Go.RowKit Go.Lib Go.Sort
attribute [local go_sem] DL xW
theorem aw.LI{w:World}{g:Nat}{t:TypeId}{v:Bool}{n:Nat}{k:Int}(hb:aw w g t (dt v n k)):w.rangeAt g 0 (cD v n):=fun j x hx=>by rw[Nat.zero_add];exact hb.cell_of (vm v n k j x hx)
set_option maxHeartbeats 2000000 in
theorem Fi(v:Bool)(n:Nat)(k:Int)(hn:n < 2^128)(hbad:jt v n=false∨k < 0∨(wid v:Int) < k)(w:World) :
  Calls prog 59 #[.agg (dt v n k).toArray] w fun e w'=>e=.returned (.int .i64 151)∧ai [] w w':=by
 have HB:=hid (aw.new w 29 (dt v n k).toArray);have HC:=hid ((ai.refl [] w).alloc (.cells (dt v n k).toArray 29));have HW:=hid (pI (r7 v n));have HK:=pI (iI v n hn);cases hA:jt v n with
 |false=>
  have he:dM v n=150:=by unfold dM;rw[hA];rfl
  rw[he]at HK;have HK:=hid HK;clear he hA hbad;go_enter func59,ntmps59
  go_upto_region 1 with fail
  obtain⟨w1,hw1⟩:∃w1,w1=w.alloc (.cells (dt v n k).toArray 29):=⟨_,rfl⟩;rw[←hw1];have B1:aw w1 w.heap.size 29 (dt v n k):=by rw[hw1];exact HB.out
  have C1:ai [] w w1:=by rw[hw1];exact HC.out
  clear hw1 HB HC;have ck:=cell_regrown (B1.cell_of (iK v n k));have R:=B1.Jj;refine wp_region_quiet_below (by kernel_rfl) (by kernel_rfl) ?_;repeat (first | (go_big_quiet_want;refine ia 24 _ rfl w.heap.size 0 rfl (cD v n) _ R.cD underlying24 rfl (fH.trans (by rw[cg])) ?_;go_big_quiet_on)|go_big_quiet_step ((first | (go_at_call 51;with_reducible exact HW.out _ _ _) | (go_at_call 101;with_reducible exact HK.out _ _ _)))|quiet_step ((first | (go_at_call 51;with_reducible exact HW.out _ _ _) | (go_at_call 101;with_reducible exact HK.out _ _ _))))
  refine wpQuiet_nil ?_;intro w3 hw3;have C3:=fV hw3;clear hw3 ck R;have HF:=hid (C1.trans C3);go_wp2
  go_ret
  exact⟨rfl,HF.out⟩
 |true=>
  have he:dM v n=0:=by unfold dM;rw[hA];rfl
  rw[he]at HK;rw[hA]at hbad;have HK:=hid HK;clear he hA;have hbad2:k < 0∨(wid v:Int) < k:=by simpa using hbad
  clear hbad;by_cases h1:k < 0
  ·have d1:decide (k < 0)=true:=decide_eq_true h1
   clear hbad2;go_enter func59,ntmps59
   go_upto_region 1 with fail
   obtain⟨w1,hw1⟩:∃w1,w1=w.alloc (.cells (dt v n k).toArray 29):=⟨_,rfl⟩;rw[←hw1];have B1:aw w1 w.heap.size 29 (dt v n k):=by rw[hw1];exact HB.out
   have C1:ai [] w w1:=by rw[hw1];exact HC.out
   clear hw1 HB HC;have ck:=cell_regrown (B1.cell_of (iK v n k));have R:=B1.Jj;refine wp_region_quiet_below (by kernel_rfl) (by kernel_rfl) ?_;repeat (first | (go_big_quiet_want;refine ia 24 _ rfl w.heap.size 0 rfl (cD v n) _ R.cD underlying24 rfl (fH.trans (by rw[cg])) ?_;go_big_quiet_on)|go_big_quiet_step ((first | (go_at_call 51;with_reducible exact HW.out _ _ _) | (go_at_call 101;with_reducible exact HK.out _ _ _)))|quiet_step ((first | (go_at_call 51;with_reducible exact HW.out _ _ _) | (go_at_call 101;with_reducible exact HK.out _ _ _))))
   refine wpQuiet_nil ?_;intro w3 hw3;have C3:=fV hw3;clear hw3 ck R;have HF:=hid (C1.trans C3);go_wp2
   go_ret
   exact⟨rfl,HF.out⟩
  ·obtain⟨K,rfl⟩:∃K:Nat,k=(K:Int):=⟨k.toNat,by omega⟩
   have d1:decide ((K:Int) < 0)=false:=decide_eq_false (by omega);have d2:decide (wid v < K)=true:=decide_eq_true (by omega);clear hbad2 h1;go_enter func59,ntmps59
   go_upto_region 1 with fail
   obtain⟨w1,hw1⟩:∃w1,w1=w.alloc (.cells (dt v n K).toArray 29):=⟨_,rfl⟩;rw[←hw1];have B1:aw w1 w.heap.size 29 (dt v n K):=by rw[hw1];exact HB.out
   have C1:ai [] w w1:=by rw[hw1];exact HC.out
   clear hw1 HB HC;have ck:=cell_regrown (B1.cell_of (iK v n K));have R:=B1.Jj;refine wp_region_quiet_below (by kernel_rfl) (by kernel_rfl) ?_;repeat (first | (go_big_quiet_want;refine ia 24 _ rfl w.heap.size 0 rfl (cD v n) _ R.cD underlying24 rfl (fH.trans (by rw[cg])) ?_;go_big_quiet_on)|go_big_quiet_step ((first | (go_at_call 51;with_reducible exact HW.out _ _ _) | (go_at_call 101;with_reducible exact HK.out _ _ _)))|quiet_step ((first | (go_at_call 51;with_reducible exact HW.out _ _ _) | (go_at_call 101;with_reducible exact HK.out _ _ _))))
   refine wpQuiet_nil ?_;intro w3 hw3;have C3:=fV hw3;clear hw3 ck R;have HF:=hid (C1.trans C3);go_wp2
   go_ret
   exact⟨rfl,HF.out⟩
set_option maxHeartbeats 2000000 in
theorem CD(v:Bool)(n K:Nat)(hn:n < 2^128)(hA:jt v n=true)(hK:K≤wid v)(w:World) :
  Calls prog 59 #[.agg (dt v n K).toArray] w fun e w'=>e=.returned (.int .i64 (dh v n K))∧ai [] w w':=by
 have HB:=hid (aw.new w 29 (dt v n K).toArray);have HC:=hid ((ai.refl [] w).alloc (.cells (dt v n K).toArray 29));have HW:=hid (pI (r7 v n));have HK:=pI (iI v n hn);have he:dM v n=0:=by unfold dM;rw[hA];rfl
 rw[he]at HK;have HK:=hid HK;have HOK:=hid (Jt v n K hA hK);have HBT:=hid (VP v n);have HWW:=hid (r7 v n);have hw128:=fG v;clear he hA;have d1:decide ((K:Int) < 0)=false:=decide_eq_false (by omega);have d2:decide (wid v < K)=false:=decide_eq_false (by omega);go_enter func59,ntmps59
 go_upto_region 1 with fail
 obtain⟨w1,hw1⟩:∃w1,w1=w.alloc (.cells (dt v n K).toArray 29):=⟨_,rfl⟩;rw[←hw1];have B1:aw w1 w.heap.size 29 (dt v n K):=by rw[hw1];exact HB.out
 have C1:ai [] w w1:=by rw[hw1];exact HC.out
 clear hw1 HB HC;have ck:=cell_regrown (B1.cell_of (iK v n K));have R:=B1.Jj;refine wp_region_quiet_below (by kernel_rfl) (by kernel_rfl) ?_;repeat (first | (go_big_quiet_want;refine ia 24 _ rfl w.heap.size 0 rfl (cD v n) _ R.cD underlying24 rfl (fH.trans (by rw[cg])) ?_;go_big_quiet_on)|go_big_quiet_step ((first | (go_at_call 51;with_reducible exact HW.out _ _ _) | (go_at_call 101;with_reducible exact HK.out _ _ _)))|quiet_step ((first | (go_at_call 51;with_reducible exact HW.out _ _ _) | (go_at_call 101;with_reducible exact HK.out _ _ _))))
 refine wpQuiet_nil ?_;intro w3 hw3;have C3:=fV hw3;clear hw3 ck R;have B3:=hid (B1.aJ C3 (by simp));have HF:=hid (C1.trans C3);clear B1 C1 C3;have ck:=B3.out.cell_of (iK v n K);go_upto_region 4 with fail
 go_loopw [3] (fun iv wr=>∃i:Nat,K≤i∧i≤wid v∧iv=.int .i64 i∧aw wr w.heap.size 29 (dt v n K)∧ai [] w wr∧∀j,K≤j→j < i→nh n j=false) (fun iv _=>128 - (RowKit.intOf iv).toNat)
 case atStart=>exact⟨K,XR _,hK,rfl,B3.out,HF.out,fun j h1 h2=>by omega⟩
 case round=>
  obtain⟨i,hKi,hi,rfl,hB,hC,hz⟩:=hrel;have HZ:=hid hz;have HB:=hid hB;have HC:=hid hC;clear hz hB hC HF B3 ck d1 d2;by_cases hlt:i < wid v
  ·have i0:(0:Int)≤(i:Int):=by omega
   have i1:(i:Int) < 128:=by omega
   have hltz:(i:Int) < (wid v:Int):=by omega
   cases hb:nh n i with
   |false=>
    have HBi:=HBT.out i (by omega);rw[hb]at HBi;have HBj:=hid HBi;have HBB:=hid hb;clear HBi hb
    go_wp2_with (first
     | (go_at_call 51;refine(HWW.out _).mono ?_;rintro e c1 ⟨rfl,D1⟩)
     | (go_at_call 120;refine(HBj.out _).mono ?_;rintro e c2 ⟨rfl,D2⟩)
     | (refine sf (cD v n) w.heap.size 0 24 _ _ (by rfl) rfl rfl (HB.out.aJ D1 (by simp)).LI underlying24 rfl (fH.trans (by rw[cg])) ?_)
     | (refine sf (cD v n) w.heap.size 0 24 _ _ (by rfl) rfl rfl HB.out.LI underlying24 rfl (fH.trans (by rw[cg])) ?_))
    go_roundw
    case measure=>simp[RowKit.intOf];omega
    case rel=>
     refine⟨i+1,by omega,by omega,by go_num,(HB.out.aJ D1 (by simp)).aJ D2 (by simp),(HC.out.trans D1).trans D2,fun j h1 h2=>?_⟩;by_cases hj:j=i
     ·rw[hj];exact HBB.out
     ·exact HZ.out j h1 (by omega)
   |true=>
    have HBi:=HBT.out i (by omega);rw[hb]at HBi;have HBj:=hid HBi;have fin:dh v n K=151:=by unfold dh;rw[if_neg (fun h=>by have:=HOK.out.1 h i hKi hlt;rw[hb]at this;cases this)]
    have FIN:=hid fin;clear HBi hb fin
    go_wp2_with (first
     | (go_at_call 51;refine(HWW.out _).mono ?_;rintro e c1 ⟨rfl,D1⟩)
     | (go_at_call 120;refine(HBj.out _).mono ?_;rintro e c2 ⟨rfl,D2⟩)
     | (refine sf (cD v n) w.heap.size 0 24 _ _ (by rfl) rfl rfl (HB.out.aJ D1 (by simp)).LI underlying24 rfl (fH.trans (by rw[cg])) ?_)
     | (refine sf (cD v n) w.heap.size 0 24 _ _ (by rfl) rfl rfl HB.out.LI underlying24 rfl (fH.trans (by rw[cg])) ?_))
    go_ret
    exact⟨by rw[FIN.out];rfl,(HC.out.trans D1).trans D2⟩
  ·have hi16:i=wid v:=by omega
   subst hi16;have fin:dh v n K=0:=by unfold dh;rw[if_pos (HOK.out.2 fun j h1 h2=>HZ.out j h1 h2)]
   have FIN:=hid fin;clear fin
   go_wp2_with (first
    | (go_at_call 51;refine(HWW.out _).mono ?_;rintro e c1 ⟨rfl,D1⟩)
    | (refine sf (cD v n) w.heap.size 0 24 _ _ (by rfl) rfl rfl HB.out.LI underlying24 rfl (fH.trans (by rw[cg])) ?_))
   go_ret
   exact⟨by rw[FIN.out];rfl,HC.out.trans D1⟩
theorem CE(v:Bool)(n:Nat)(k:Int)(hn:n < 2^128)(w:World) :
  Calls prog 59 #[.agg (dt v n k).toArray] w (Rn w (.int .i64 (dh v n k))):=by
 by_cases h:jt v n=true∧0≤k∧k≤(wid v:Int)
 ·obtain⟨K,rfl⟩:∃K:Nat,k=(K:Int):=⟨k.toNat,by omega⟩
  exact CD v n K hn h.1 (by omega) w
 ·have e:dh v n k=151:=by
   unfold dh;rw[if_neg];intro hp;unfold gy at hp;simp only[XL,decide_eq_true_eq]at hp;refine h ⟨?_,hp.1⟩;unfold jt;rw[decide_eq_true_eq]
   conv=>lhs;rw[←hp.2,xl,Nat.min_eq_left (by omega)]
   exact hp.2
  rw[e];refine Fi v n k hn ?_ w;cases hA:jt v n
  ·exact .inl rfl
  ·refine .inr ?_
   have h2:¬(0≤k∧k≤(wid v:Int)):=fun h2=>h ⟨hA,h2⟩;omega
open Go.RowKit Go.Lib Go.Sort
open Go.RowKit Go.Lib Go.Sort
open Go.RowKit Go.Lib Go.Sort
open Go.RowKit Go.Lib Go.Sort
set_option maxRecDepth 100000
open Go.RowKit Go.Lib Go.Sort _root_.Go.Proofs.Tryz
set_option maxRecDepth 100000
theorem yW(s:ByteArray)(lo hi:Nat)(h:lo≤hi)(h2:hi≤s.size)(W:World):(XV 9 (.string s) (some (.int .i64 lo)) (some (.int .i64 hi)) none).run prog W=.ok (.string (s.extract lo hi)) W:=by simp[XV,run_underlying underlying9,Instr.slice,Instr.sliceBounds,Instr.sliceBound,asIntOf,h,h2]
def RX:ByteArray:=⟨#[48,49,50,51,52,53,54,55,56,57,97,98,99,100,101,102]⟩
theorem Pm:∀d:Fin 16,RX.extract d.val (d.val+1)=⟨#[sig d.val]⟩:=by decide+kernel
theorem Ln(d:Nat)(hd:d < 16)(W:World):(XV 9 (.string ⟨#[48,49,50,51,52,53,54,55,56,57,97,98,99,100,101,102]⟩) (some (.int .i64 (d:Int))) (some (.int .i64 ((d+1:Nat):Int))) none).run prog W=.ok (.string ⟨#[sig d]⟩) W:=by have h:=yW RX d (d+1) (by omega) (by show d+1≤16;omega) W;rw[Pm ⟨d,hd⟩]at h;exact h
theorem db(x y:Operand)(a b:List UInt8)(h:a.length+b.length≤9000000000000000000)(W:World):(do eqGuard .add 9 x y (.string ⟨a.toArray⟩) (.string ⟨b.toArray⟩);binOp .add 9 (.string ⟨a.toArray⟩) (.string ⟨b.toArray⟩):Sem Value).run prog W=.ok (.string ⟨(a++b).toArray⟩) W:=by
 have e:¬(((⟨a.toArray⟩:ByteArray).size+(⟨b.toArray⟩:ByteArray).size:Nat):Int) > XA.max:=by
  have:XA.max=9223372036854775807:=by decide
  rw[this];simp[ByteArray.size];omega
 show(Op.stringOp .add (⟨a.toArray⟩) (⟨b.toArray⟩)).run prog W=_;unfold Op.stringOp;simp only[if_neg e];show Result.ok (XN (⟨a.toArray⟩++⟨b.toArray⟩)) W=_;congr 2
theorem NF{b:Nat}(hb:2≤b):∀(n:Nat),(aq b n).length≤n+1:=by
 intro n;induction n using X4 with
 |_ n ih=>
  by_cases h:n < b
  ·rw[bh h];simp
  ·rw[dQ hb h]
   have h1:=ih (n / b) (X5 (by omega) (by omega));have h2:n / b≤n / 2:=XZ hb (by omega);simp only[XB,Xz,XD];omega
theorem iw{a b:Int}(h:a=b):XC .i64 a=.int .i64 b:=by rw[h]
theorem kC{a:Int}(h0 : -9223372036854775808≤a)(h1:a≤9223372036854775807):XA.wrap a=a:=IntWalk.i64_in _ ⟨h0,h1⟩
theorem tE(b:Nat)(hb:b=10∨b=16):∀(n:Nat),n≤4000000000000000000→∀w,Calls prog 102 #[.int .i64 (n:Int),.int .i64 (b:Int)] w (Rn w (.string ⟨(aq b n).toArray⟩)):=by
 intro n;induction n using X4 with
 |_ n ih=>
  intro hn w;by_cases h:n < b
  ·have c7:Xy (decide ((n:Int) < (b:Int)))=.bool true:=by rw[decide_eq_true (by omega)]
   have c10:=mW (i:=n) (by omega);have iB:=Ln n (by omega);have z0:XN ⟨#[sig n]⟩=.string ⟨(aq b n).toArray⟩:=by rw[bh h]
   refine Sx.av (args:=[.int .i64 (n:Int),.int .i64 (b:Int)]) [ao 7 true,cO 10 (n+1),(11,.bin (.string ⟨#[sig n]⟩))] [] (by kernel_rfl) func102 rfl (bN rfl) ?_;exact XG (by kernel_rfl) (Sx.t2 c7 c10 (XE iB z0))
  ·have c7:Xy (decide ((n:Int) < (b:Int)))=.bool false:=by rw[decide_eq_false (by omega)]
   have hq:n / b≤n / 2:=XZ (by omega) (by omega);have hm:n%b < b:=Nat.mod_lt _ (by omega);have kq:=fun W (_:ai [] w W)=>ih (n / b) (X5 (by omega) (by omega)) (by omega) W;have c24:=Ln (n%b) (by omega);have c23:XC .i64 (XA.wrap (((n%b:Nat):Int)+1))=.int .i64 ((n%b+1:Nat):Int):=iw (by rw[kC (by omega) (by omega)];rfl);have hl:=NF (b:=b) (by omega) (n / b);have c25:=db (.tmp 16) (.tmp 24) (aq b (n / b)) [sig (n%b)] (by simp only[Xz,XD]; omega);have z0:XN ⟨(aq b (n / b)++[sig (n%b)]).toArray⟩=.string ⟨(aq b n).toArray⟩:=by rw[dQ (by omega) h]
   have ed:((n:Int).tdiv (b:Int))=((n / b:Nat):Int):=by rw[Int.tdiv_eq_ediv_of_nonneg (by omega)]; rfl
   have em:((n:Int).tmod (b:Int))=((n%b:Nat):Int):=by rw[XT (by omega)];rfl
   rcases hb with rfl|rfl
   ·have c14:XC .i64 (XA.wrap ((n:Int).tdiv 10))=.int .i64 ((n / 10:Nat):Int):=iw (by rw[show((10:Int))=((10:Nat):Int)from rfl,ed,kC (by omega) (by omega)])
    have c19:XC .i64 ((n:Int).tmod 10)=.int .i64 ((n%10:Nat):Int):=iw em;have c22:=c19;refine Sx.av (args:=[.int .i64 (n:Int),.int .i64 ((10:Nat):Int)]) [ao 7 false,cO 14 (n / 10),(16,.call (.string ⟨(aq 10 (n / 10)).toArray⟩)),cO 19 (n%10),cO 22 (n%10),cO 23 (n%10+1),(24,.bin (.string ⟨#[sig (n%10)]⟩)),(25,.bin (.string ⟨(aq 10 (n / 10)++[sig (n%10)]).toArray⟩))] [] (by kernel_rfl) func102 rfl (bN rfl) ?_;exact XG (by kernel_rfl) (Sx.t8 c7 c14 kq c19 c22 c23 c24 c25 z0)
   ·have c14:XC .i64 (XA.wrap ((n:Int).tdiv 16))=.int .i64 ((n / 16:Nat):Int):=iw (by rw[show((16:Int))=((16:Nat):Int)from rfl,ed,kC (by omega) (by omega)])
    have c19:XC .i64 ((n:Int).tmod 16)=.int .i64 ((n%16:Nat):Int):=iw em;have c22:=c19;refine Sx.av (args:=[.int .i64 (n:Int),.int .i64 ((16:Nat):Int)]) [ao 7 false,cO 14 (n / 16),(16,.call (.string ⟨(aq 16 (n / 16)).toArray⟩)),cO 19 (n%16),cO 22 (n%16),cO 23 (n%16+1),(24,.bin (.string ⟨#[sig (n%16)]⟩)),(25,.bin (.string ⟨(aq 16 (n / 16)++[sig (n%16)]).toArray⟩))] [] (by kernel_rfl) func102 rfl (bN rfl) ?_;exact XG (by kernel_rfl) (Sx.t8 c7 c14 kq c19 c22 c23 c24 c25 z0)
theorem BI(v:Bool)(n j:Nat)(hj:j < 16):(cD v n)[1+j]?=some (.int .u8 (ah n j:Int)):=cM v (ah n) j hj
theorem NX(n j:Nat):(0:Int)≤(ah n j:Int)∧(ah n j:Int)≤255:=by have:=ba n j;omega
theorem CO(v:Bool)(n i:Nat)(hi:i < 8)(w:World):Calls prog 104 #[.agg (cD v n).toArray,.int .i64 (i:Int)] w (Rn w (.int .i64 (eE n i:Nat))):=by
 obtain⟨a0,a1⟩:=NX n (2*i);obtain⟨b0,b1⟩:=NX n (2*i+1);have c6:XC .i64 (XA.wrap (2*(i:Int)))=.int .i64 ((2*i:Nat):Int):=iw (by rw[kC (by omega) (by omega)];rfl);have c8:(0:Int)≤((2*i:Nat):Int)∧((2*i:Nat):Int) < ((16:Nat):Int):=by omega
 have c9:(cD v n)[1+((2*i:Nat):Int).toNat*1]?=some (.int .u8 (ah n (2*i):Int)):=by rw[XO,Yd];exact BI v n _ (by omega)
 have c10:XC .i64 (XA.wrap (ah n (2*i):Int))=.int .i64 (ah n (2*i):Int):=iw (kC (by omega) (by omega));have iB:XC .i64 (XA.wrap ((ah n (2*i):Int)*256))=.int .i64 ((ah n (2*i):Int)*256):=iw (kC (by omega) (by omega));have c13:=c6;have c14:XC .i64 (XA.wrap (((2*i:Nat):Int)+1))=.int .i64 ((2*i+1:Nat):Int):=iw (by rw[kC (by omega) (by omega)];rfl);have kq:(0:Int)≤((2*i+1:Nat):Int)∧((2*i+1:Nat):Int) < ((16:Nat):Int):=by omega
 have c17:(cD v n)[1+((2*i+1:Nat):Int).toNat*1]?=some (.int .u8 (ah n (2*i+1):Int)):=by rw[XO,Yd];exact BI v n _ (by omega)
 have c18:XC .i64 (XA.wrap (ah n (2*i+1):Int))=.int .i64 (ah n (2*i+1):Int):=iw (kC (by omega) (by omega));have c19:XC .i64 (XA.wrap ((ah n (2*i):Int)*256+(ah n (2*i+1):Int)))=.int .i64 (eE n i:Nat):=iw (by rw[kC (by omega) (by omega)];unfold eE;omega);have z0:XC .i64 (eE n i:Nat)=.int .i64 (eE n i:Nat):=rfl;refine Sx.av (args:=[.agg (cD v n).toArray,.int .i64 (i:Int)]) [cO 6 (2*i),(8,.ix),(9,.ld (.int .u8 (ah n (2*i):Int))),(10,.is (.int .i64 (ah n (2*i):Int))),(11,.is (.int .i64 ((ah n (2*i):Int)*256))),cO 13 (2*i),cO 14 (2*i+1),(16,.ix),(17,.ld (.int .u8 (ah n (2*i+1):Int))),(18,.is (.int .i64 (ah n (2*i+1):Int))),(19,.is (.int .i64 (eE n i:Nat)))] [] (by kernel_rfl) func104 rfl (bN rfl) ?_;exact XG (by kernel_rfl) (Sx.t8 c6 c8 c9 c10 iB c13 c14 kq (Sx.t2 c17 c18 (XE c19 z0)))
def gG(n i:Nat):Nat:=iU ((zs (aP n)).drop i)
theorem AB(n i:Nat)(hi:i≤8):i+gG n i≤8:=by
 have:=AA ((zs (aP n)).drop i);have e:((zs (aP n)).drop i).length=8 - i:=by simp[zs,aP]
 unfold gG;omega
theorem KL(n j:Nat)(hj:j < 8):(zs (aP n))[j]?=some (eE n j==0):=by
 match j,hj with
 | 0,_=>rfl
 | 1,_=>rfl
 | 2,_=>rfl
 | 3,_=>rfl
 | 4,_=>rfl
 | 5,_=>rfl
 | 6,_=>rfl
 | 7,_=>rfl
theorem GS:∀(l:List Bool) (m:Nat),m < iU l→l[m]?=some true
 |true::l,0,_=>rfl
 |true::l,m+1,h=>by simpa using GS l m (by simpa[iU]using h)
 |false::l,m,h=>by simp[iU]at h
 | [],m,h=>by simp[iU]at h
theorem Cq:∀(l:List Bool),iU l < l.length→l[iU l]?=some false
 |true::l,h=>by simpa[iU]using Cq l (by simpa[iU]using h)
 |false::l,_=>rfl
 | [],h=>by simp at h
theorem SH{n i m:Nat}(h:m < gG n i)(h8:i+m < 8):eE n (i+m)=0:=by have:=GS _ m h;rw[X1,KL n (i+m) h8]at this;simpa using this
theorem Py{n i:Nat}(h8:i+gG n i < 8):eE n (i+gG n i)≠0:=by have:=Cq ((zs (aP n)).drop i) (by simp[zs,aP];exact Nat.lt_sub_of_add_lt (by rw[Nat.add_comm];exact h8));rw[X1,show i+iU ((zs (aP n)).drop i)=i+gG n i from rfl,KL n _ h8]at this;simpa using this
structure ve where
 i:Nat
 a:Nat
 l:Nat
structure Eu(n:Nat)(k:ve):Prop where
 i8:k.i≤8
 a8:k.a≤8
 l8:k.l≤8
 rest:I0 (zs (aP n)) (8 - k.i) k.i k.a k.l=jQ (zs (aP n))
def lD(n:Nat)(k:ve):ve:=⟨k.i+1,if gG n k.i > k.l then k.i else k.a,if gG n k.i > k.l then gG n k.i else k.l⟩
def qL(k:ve):List (Nat×Sx.SV):=[(1,.ptr 0 0),(4,.val (.int .i64 (k.a:Int))),(5,.val (.int .i64 (k.l:Int))),(6,.val (.int .i64 (k.i:Int)))]
def bG(v:Bool)(n:Nat):List Sx.Row:=[⟨24,.an (cD v n)⟩]
def AH(n:Nat):List (Nat×Sx.SV):=[(4,.val (.int .i64 ((jQ (zs (aP n))).1:Int))),(5,.val (.int .i64 ((jQ (zs (aP n))).2:Int)))]
def fg(k:ve)(m:Nat):List (Nat×Sx.SV):=(7,.val (.int .i64 (m:Int)))::qL k
def RY(v:Bool)(n:Nat)(k:ve):Sx.Loop:=.mk Nat 0 (fun m=>m≤gG n k.i) (fg k) (fun _=>bG v n) (fun m=>m+1) (fun m=>8 - m) Unit (fun _=>True) (fun _=>fg k (gG n k.i)) (fun _=>bG v n) (fun _=>())
def Wn(v:Bool)(n:Nat):Sx.Loop:=.mk ve ⟨0,0,0⟩ (Eu n) qL (fun _=>bG v n) (lD n) (fun k=>8 - k.i) Unit (fun _=>True) (fun _=>AH n) (fun _=>bG v n) (fun _=>())
theorem IZ{n:Nat}{k:ve}(h:Eu n k)(hi:k.i < 8):Eu n (lD n k):=by
 have hr:=AB n k.i (by omega);refine⟨by show k.i+1≤8;omega,?_,?_,?_⟩
 ·show(if gG n k.i > k.l then k.i else k.a)≤8
  have:=h.a8;split<;>omega
 ·show(if gG n k.i > k.l then gG n k.i else k.l)≤8
  have:=h.l8;split<;>omega
 ·rw[←h.rest]
  show I0 _ (8 - (k.i+1)) (k.i+1) (if gG n k.i > k.l then k.i else k.a) (if gG n k.i > k.l then gG n k.i else k.l)=_;rw[show 8 - k.i=(8 - (k.i+1))+1 by omega,I0];unfold gG;by_cases hc:iU ((zs (aP n)).drop k.i) > k.l
  ·rw[if_pos hc,if_pos hc,if_pos hc]
  ·rw[if_neg hc,if_neg hc,if_neg hc]
theorem LH{n:Nat}{k:ve}(h:Eu n k)(hi:k.i=8):(jQ (zs (aP n)))=(k.a,k.l):=by have:=h.rest;rw[hi]at this;exact this.symm
theorem bz{a b:Bool}(h:a=b):Xy a=.bool b:=by rw[h]
section
variable{v:Bool}{n:Nat}{w:World}{Kr:Sx.St→Prop}
theorem SK(k:ve)(hi:k.i < 8)(m:Nat)(hm:m≤gG n k.i):∃H' L',Sx.ex prog 33 w (Sx.inBody (Sx.a7 f103 0) 0) H' L' ⟨fg k m,bG v n⟩ (Sx.dP (fun m=>m≤gG n k.i) (fg k) (fun _=>bG v n) (fun m=>m+1) (fun m=>8 - m) (fun _=>True) (fun _=>fg k (gG n k.i)) (fun _=>bG v n) (fun _=>()) 2 Kr m):=by
 have hr:=AB n k.i (by omega);have e14:XA.wrap ((k.i:Int)+(m:Int))=((k.i+m:Nat):Int):=by rw[kC (by omega) (by omega)];rfl
 have c14:XC .i64 (XA.wrap ((k.i:Int)+(m:Int)))=.int .i64 ((k.i+m:Nat):Int):=iw e14;by_cases h8:k.i+m < 8
 ·have c15:Xy (decide (((k.i+m:Nat):Int) < 8))=.bool true:=bz (decide_eq_true (by omega))
  have c20:=c14;have c21:=fun W (_:ai [] w W)=>CO v n (k.i+m) h8 W;by_cases hlt:m < gG n k.i
  ·rw[SH hlt h8]at c21
   have c25:=mW (i:=m) (by omega);have h0:m+1≤gG n k.i:=hlt;have h1:8 - (m+1) < 8 - m:=by omega
   refine⟨[cO 14 (k.i+m),ao 15 true,cO 20 (k.i+m),(21,.call (.int .i64 ((0:Nat):Int))),cO 25 (m+1)],[],?_⟩;have h2:fg k (m+1)=fg k (m+1):=rfl;have z3:bG v n=bG v n:=rfl;exact XG (by kernel_rfl) (Sx.t8 c14 c15 c20 c21 c25 h0 h1 h2 z3)
  ·have e:m=gG n k.i:=by omega
   have hne:=Py (n:=n) (i:=k.i) (by omega);rw[←e]at hne;have c22:Xy (((eE n (k.i+m):Nat):Int)==0)=.bool false:=bz (beq_eq_false_iff_ne.2 (by omega));refine⟨[cO 14 (k.i+m),ao 15 true,cO 20 (k.i+m),(21,.call (.int .i64 (eE n (k.i+m):Nat))),ao 22 false],[],?_⟩;have h0:True:=trivial;have h1:fg k m=fg k (gG n k.i):=congrArg (fg k) e;have z2:bG v n=bG v n:=rfl;exact XG (by kernel_rfl) (Sx.t4 c14 c15 c20 c21 (Sx.t2 c22 h0 (XE h1 z2)))
 ·have c15:Xy (decide (((k.i+m:Nat):Int) < 8))=.bool false:=bz (decide_eq_false (by omega))
  refine⟨[cO 14 (k.i+m),ao 15 false],[],?_⟩;have h0:True:=trivial;have h1:fg k m=fg k (gG n k.i):=congrArg (fg k) (by omega);have z2:bG v n=bG v n:=rfl;exact XG (by kernel_rfl) (Sx.t4 c14 c15 h0 h1 z2)
theorem PK(k:ve)(hk:Eu n k):∃H' L',Sx.ex prog 33 w (Sx.a7 f103 0) H' L' ⟨qL k,bG v n⟩ (Sx.dP (Eu n) qL (fun _=>bG v n) (lD n) (fun k=>8 - k.i) (fun _=>True) (fun _=>AH n) (fun _=>bG v n) (fun _=>()) 0 Kr k):=by
 have i8:=hk.i8;have a8:=hk.a8;have l8:=hk.l8;by_cases hi:k.i < 8
 ·have hr:=AB n k.i (by omega)
  have c9:Xy (decide ((k.i:Int) < 8))=.bool true:=bz (decide_eq_true (by omega));have iB:XC .i64 (XA.wrap ((k.i:Int)+1))=.int .i64 ((k.i+1:Nat):Int):=iw (by rw[kC (by omega) (by omega)];rfl);have h0:0≤gG n k.i:=XJ _;have e1:fg k 0=fg k 0∧bG v n=bG v n:=⟨rfl,rfl⟩;have iZ:=fun(m:Nat) (hm:m≤gG n k.i)=>SK (v:=v) (w:=w) (Kr:=Kr) k hi m hm;have hnext:=IZ hk hi;have hmu:8 - (lD n k).i < 8 - k.i:=by show 8 - (k.i+1) < 8 - k.i; omega
  have hz:bG v n=bG v n:=rfl;by_cases hc:gG n k.i > k.l
  ·have c28:Xy (decide (((gG n k.i:Nat):Int) > (k.l:Int)))=.bool true:=bz (decide_eq_true (by omega))
   have hf:qL ⟨k.i+1,k.i,gG n k.i⟩=qL (lD n k):=by unfold lD;rw[if_pos hc,if_pos hc]
   refine⟨[ao 9 true,cO 11 (k.i+1),ao 28 true],[RY v n k],?_⟩;have e1:fg k 0=fg k 0∧bG v n=bG v n:=⟨rfl,rfl⟩;have h5:=hnext;have h6:=hmu;have h7:=hf;have z8:bG v n=bG v n:=rfl;exact XG (by kernel_rfl) (Sx.t4 c9 h0 e1 iZ (fun(x:Unit) (hx4:True)=>(Sx.t4 c28 iB h5 h6 (XE h7 z8))))
  ·have c28:Xy (decide (((gG n k.i:Nat):Int) > (k.l:Int)))=.bool false:=bz (decide_eq_false (by omega))
   have hf:qL ⟨k.i+1,k.a,k.l⟩=qL (lD n k):=by unfold lD;rw[if_neg hc,if_neg hc]
   refine⟨[ao 9 true,cO 11 (k.i+1),ao 28 false],[RY v n k],?_⟩;have e1:fg k 0=fg k 0∧bG v n=bG v n:=⟨rfl,rfl⟩;have h5:=hnext;have h6:=hmu;have h7:=hf;have z8:bG v n=bG v n:=rfl;exact XG (by kernel_rfl) (Sx.t4 c9 h0 e1 iZ (fun(x:Unit) (hx4:True)=>(Sx.t4 c28 iB h5 h6 (XE h7 z8))))
 ·have c9:Xy (decide ((k.i:Int) < 8))=.bool false:=bz (decide_eq_false (by omega))
  have he:=LH hk (by omega);have h0:True:=trivial;have h1:[(4,Sx.SV.val (.int .i64 (k.a:Int))),(5,Sx.SV.val (.int .i64 (k.l:Int)))]=AH n:=by unfold AH;rw[he]
  have z2:bG v n=bG v n:=rfl;refine⟨[ao 9 false],[],?_⟩;exact XG (by kernel_rfl) (Sx.t2 c9 h0 (XE h1 z2))
theorem UP(v:Bool)(n:Nat)(w:World):Calls prog 103 #[.agg (cD v n).toArray] w (Rn w (.tuple #[.int .i64 ((jQ (zs (aP n))).1:Int),.int .i64 ((jQ (zs (aP n))).2:Int)])):=by refine Sx.av (args:=[.agg (cD v n).toArray]) [] [Wn v n] (by kernel_rfl) func103 rfl (bN rfl) ?_;have h0:Eu n ⟨0,0,0⟩:=⟨by simp,by simp,by simp,rfl⟩;have e1:qL ⟨0,0,0⟩=qL ⟨0,0,0⟩∧bG v n=bG v n:=⟨rfl,rfl⟩;have iZ:=fun(k:ve) (hk:Eu n k)=>PK (v:=v) (w:=w) (Kr:=Sx.atEnd prog f103 (fun u=>u=.tuple #[.int .i64 ((jQ (zs (aP n))).1:Int),.int .i64 ((jQ (zs (aP n))).2:Int)]) .ret) k hk;have z5:XI #[.int .i64 ((jQ (zs (aP n))).1:Int),.int .i64 ((jQ (zs (aP n))).2:Int)]=.tuple #[.int .i64 ((jQ (zs (aP n))).1:Int),.int .i64 ((jQ (zs (aP n))).2:Int)]:=rfl;exact XG (by kernel_rfl) (Sx.t2 h0 e1 (XE iZ (fun(x:Unit) (hx4:True)=>z5)))
end
theorem Jg{v:Bool}{n:Nat}(hn:n < 2^128)(h:jt v n=false)(w:World):Calls prog 47 #[.agg (cD v n).toArray] w (Rn w (.tuple #[.string ⟨#[]⟩,.int .i64 150])):=by have c9:=fun W (_:ai [] w W)=>iI v n hn W;rw[show dM v n=150 by unfold dM;rw[h];rfl]at c9;have z0:XI #[.string ⟨#[]⟩,.int .i64 150]=.tuple #[.string ⟨#[]⟩,.int .i64 150]:=rfl;refine Sx.av (args:=[.agg (cD v n).toArray]) [(9,.call (.int .i64 150))] [] (by kernel_rfl) func47 rfl (bN rfl) ?_;exact XG (by kernel_rfl) (XE c9 z0)
theorem V2(n j:Nat):XC .i64 (XA.wrap (ah n j:Int))=.int .i64 ((ah n j:Nat):Int):=iw (by have:=ba n j;exact kC (by omega) (by omega))
theorem PW{n:Nat}(hn:n < 2^128)(h:jt false n=true)(w:World):Calls prog 47 #[.agg (cD false n).toArray] w (Rn w (.tuple #[.string ⟨(fq n).toArray⟩,.int .i64 0])):=by
 have c9:=fun W (_:ai [] w W)=>iI false n hn W;rw[show dM false n=0 by unfold dM;rw[h];rfl]at c9;have d:=fun j=>gh (u:=ah n j) (by have:=ba n j;omega);have dn:=fun j W (_:ai [] w W)=>tE 10 (.inl rfl) (ah n j) (by have:=ba n j;omega) W;have c17:=V2 n 0;have c23:=V2 n 1;have c30:=V2 n 2;have c37:=V2 n 3;have c18:=dn 0;have c24:=dn 1;have c31:=dn 2;have c38:=dn 3;obtain⟨d0,h0⟩:∃x,x=aq 10 (ah n 0):=⟨_,rfl⟩;obtain⟨d1,h1⟩:∃x,x=aq 10 (ah n 1):=⟨_,rfl⟩;obtain⟨d2,h2⟩:∃x,x=aq 10 (ah n 2):=⟨_,rfl⟩;obtain⟨d3,h3⟩:∃x,x=aq 10 (ah n 3):=⟨_,rfl⟩;have l0:=d 0;have l1:=d 1;have l2:=d 2;have l3:=d 3;rw[←h0]at c18 l0;rw[←h1]at c24 l1;rw[←h2]at c31 l2;rw[←h3]at c38 l3;have c19:=db (.tmp 18) (.const (.string ⟨#[46]⟩)) d0 [46] (by simp only[Xz,XD];omega);have c25:=db (.tmp 19) (.tmp 24) (d0++[46]) d1 (by simp only[XB,Xz,XD];omega);have c26:=db (.tmp 25) (.const (.string ⟨#[46]⟩)) (d0++[46]++d1) [46] (by simp only[XB,Xz,XD];omega);have c32:=db (.tmp 26) (.tmp 31) (d0++[46]++d1++[46]) d2 (by simp only[XB,Xz,XD];omega);have c33:=db (.tmp 32) (.const (.string ⟨#[46]⟩)) (d0++[46]++d1++[46]++d2) [46] (by simp only[XB,Xz,XD];omega);have c39:=db (.tmp 33) (.tmp 38) (d0++[46]++d1++[46]++d2++[46]) d3 (by simp only[XB,Xz,XD];omega);have e:d0++[46]++d1++[46]++d2++[46]++d3=fq n:=by unfold fq;rw[←h0,←h1,←h2,←h3];simp[ay]
 have z0:XI #[.string ⟨(d0++[46]++d1++[46]++d2++[46]++d3).toArray⟩,.int .i64 0]=.tuple #[.string ⟨(fq n).toArray⟩,.int .i64 0]:=by rw[e]
 refine Sx.av (args:=[.agg (cD false n).toArray]) [(9,.call (.int .i64 0)),cO 17 (ah n 0),(18,.call (.string ⟨d0.toArray⟩)),(19,.bin (.string ⟨(d0++[46]).toArray⟩)),cO 23 (ah n 1),(24,.call (.string ⟨d1.toArray⟩)),(25,.bin (.string ⟨(d0++[46]++d1).toArray⟩)),(26,.bin (.string ⟨(d0++[46]++d1++[46]).toArray⟩)),cO 30 (ah n 2),(31,.call (.string ⟨d2.toArray⟩)),(32,.bin (.string ⟨(d0++[46]++d1++[46]++d2).toArray⟩)),(33,.bin (.string ⟨(d0++[46]++d1++[46]++d2++[46]).toArray⟩)),cO 37 (ah n 3),(38,.call (.string ⟨d3.toArray⟩)),(39,.bin (.string ⟨(d0++[46]++d1++[46]++d2++[46]++d3).toArray⟩))] [] (by kernel_rfl) func47 rfl (bN rfl) ?_;exact XG (by kernel_rfl) (Sx.t8 c9 c17 c18 c19 c23 c24 c25 c26 (Sx.t4 c30 c31 c32 c33 (Sx.t2 c37 c38 (XE c39 z0))))
def tF(n a k i:Nat):List UInt8:=(XU i).flatMap fun j=>eK a k j (aq 16 (eE n j))
theorem zj(n a k i:Nat):tF n a k (i+1)=tF n a k i++eK a k i (aq 16 (eE n i)):=by unfold tF;rw[List.range_succ,List.flatMap_append];simp
theorem S4(n a k:Nat):tF n a k 8=dr a k (aP n) 0:=by unfold tF aP;simp[dr,XU,XU.loop]
theorem N5(n a k i:Nat):(eK a k i (aq 16 (eE n i))).length≤7:=by have:=fk (xF n i);unfold eK;simp only[XB];split<;>split<;>(try split)<;>simp<;>omega
theorem CG(n a k:Nat):∀i,(tF n a k i).length≤7*i
 | 0=>by simp[tF]
 |i+1=>by have h1:=CG n a k i;have h2:=N5 n a k i;rw[zj,XB];omega
def qZ(n a k i:Nat):List (Nat×Sx.SV):=[(1,.ptr 0 0),(4,.val (.int .i64 (a:Int))),(5,.val (.int .i64 (k:Int))),(6,.val (.string ⟨(tF n a k i).toArray⟩)),(7,.val (.int .i64 (i:Int)))]
def OI(a k i:Nat)(s:List UInt8):List (Nat×Sx.SV):=[(1,.ptr 0 0),(4,.val (.int .i64 (a:Int))),(5,.val (.int .i64 (k:Int))),(6,.val (.string ⟨s.toArray⟩)),(7,.val (.int .i64 (i:Int)))]
def KX(n a k:Nat):List (Nat×Sx.SV):=[(6,.val (.string ⟨(tF n a k 8).toArray⟩))]
def Xh(n a k:Nat):Sx.Loop:=.mk Nat 0 (fun i=>i≤8) (qZ n a k) (fun _=>bG true n) (fun i=>i+1) (fun i=>8 - i) Unit (fun _=>True) (fun _=>KX n a k) (fun _=>bG true n) (fun _=>())
theorem nu{n a k i:Nat}{s:List UInt8}(h:s=tF n a k i):OI a k i s=qZ n a k i:=by rw[h];rfl
section
variable{n a k:Nat}{w:World}{Kr:Sx.St→Prop}
theorem KW(ha:a≤8)(hk:k≤8)(i:Nat)(hi:i≤8):∃H' L',Sx.ex prog 95 w (Sx.a7 f47 0) H' L' ⟨qZ n a k i,bG true n⟩ (Sx.dP (fun i=>i≤8) (qZ n a k) (fun _=>bG true n) (fun i=>i+1) (fun i=>8 - i) (fun _=>True) (fun _=>KX n a k) (fun _=>bG true n) (fun _=>()) 0 Kr i):=by
 by_cases h8:i < 8
 ·have c46:Xy (decide ((i:Int) < 8))=.bool true:=bz (decide_eq_true (by omega))
  have c48:=mW (i:=i) (by omega);have c91:=fun W (_:ai [] w W)=>CO true n i h8 W;have c92:=fun W (_:ai [] w W)=>tE 16 (.inr rfl) (eE n i) (by have:=xF n i;omega) W;have ld:=fk (xF n i);have lp:=CG n a k i;have hs:=zj n a k i;obtain⟨d,hd⟩:∃d,d=aq 16 (eE n i):=⟨_,rfl⟩;obtain⟨s,hsd⟩:∃s,s=tF n a k i:=⟨_,rfl⟩;have hfr:qZ n a k i=OI a k i s:=(nu hsd).symm;rw[←hd]at c92 ld hs;rw[←hsd]at lp hs;rw[hfr];have nx:i+1≤8:=h8;have mu:8 - (i+1) < 8 - i:=by omega
  have zm:bG true n=bG true n:=rfl;have c69:XC .i64 (XA.wrap ((a:Int)+(k:Int)))=.int .i64 ((a+k:Nat):Int):=iw (by rw[kC (by omega) (by omega)];rfl);have c81:=c69;by_cases hL:1 < k
  ·by_cases hia:i=a
   ·have c50:Xy (decide ((k:Int) > 1))=.bool true:=bz (decide_eq_true (by omega))
    have c59:Xy (decide ((k:Int) > 1))=.bool true:=bz (decide_eq_true (by omega));have c54:Xy ((i:Int)==(a:Int))=.bool true:=bz (beq_iff_eq.2 (by omega));have c57:=db (.tmp 56) (.const (.string ⟨#[58,58]⟩)) s [58,58] (by simp only[Xz,XD];omega);have c63:Xy (decide ((i:Int)≥(a:Int)))=.bool true:=bz (decide_eq_true (by omega));have c70:Xy (decide ((i:Int) < ((a+k:Nat):Int)))=.bool true:=bz (decide_eq_true (by omega));have h2:OI a k (i+1) (s++[58,58])=qZ n a k (i+1):=nu (by rw[hs];unfold eK;rw[if_pos (by omega),if_pos (by omega)];simp);have h0:=nx;have h1:=mu;have z3:=zm;refine⟨[ao 46 true,cO 48 (i+1),ao 50 true,ao 59 true,ao 54 true,(57,.bin (.string ⟨(s++[58,58]).toArray⟩)),ao 63 true,cO 69 (a+k),ao 70 true],[],?_⟩;exact XG (by kernel_rfl) (Sx.t8 c46 c50 c54 c57 c59 c63 c69 c70 (Sx.t4 c48 h0 h1 h2 z3))
   ·by_cases hge:a≤i
    ·by_cases hlt:i < a+k
     ·have c50:Xy (decide ((k:Int) > 1))=.bool true:=bz (decide_eq_true (by omega))
      have c59:Xy (decide ((k:Int) > 1))=.bool true:=bz (decide_eq_true (by omega));have c54:Xy ((i:Int)==(a:Int))=.bool false:=bz (beq_eq_false_iff_ne.2 (by omega));have c63:Xy (decide ((i:Int)≥(a:Int)))=.bool true:=bz (decide_eq_true (by omega));have c70:Xy (decide ((i:Int) < ((a+k:Nat):Int)))=.bool true:=bz (decide_eq_true (by omega));have h2:OI a k (i+1) s=qZ n a k (i+1):=nu (by rw[hs];unfold eK;rw[if_neg (by omega),if_pos (by omega)];simp);have h0:=nx;have h1:=mu;have z3:=zm;refine⟨[ao 46 true,cO 48 (i+1),ao 50 true,ao 59 true,ao 54 false,ao 63 true,cO 69 (a+k),ao 70 true],[],?_⟩;exact XG (by kernel_rfl) (Sx.t8 c46 c50 c54 c59 c63 c69 c70 c48 (Sx.t2 h0 h1 (XE h2 z3)))
     ·by_cases hend:i=a+k
      ·have c50:Xy (decide ((k:Int) > 1))=.bool true:=bz (decide_eq_true (by omega))
       have c59:Xy (decide ((k:Int) > 1))=.bool true:=bz (decide_eq_true (by omega));have c54:Xy ((i:Int)==(a:Int))=.bool false:=bz (beq_eq_false_iff_ne.2 (by omega));have c63:Xy (decide ((i:Int)≥(a:Int)))=.bool true:=bz (decide_eq_true (by omega));have c70:Xy (decide ((i:Int) < ((a+k:Nat):Int)))=.bool false:=bz (decide_eq_false (by omega));have c73:Xy (decide ((i:Int) > 0))=.bool true:=bz (decide_eq_true (by omega));have c76:Xy (decide ((k:Int) > 1))=.bool true:=bz (decide_eq_true (by omega));have c82:Xy ((i:Int)==((a+k:Nat):Int))=.bool true:=bz (beq_iff_eq.2 (by omega));have c93:=db (.tmp 88) (.tmp 92) s d (by omega);have h2:OI a k (i+1) (s++d)=qZ n a k (i+1):=nu (by rw[hs];unfold eK;rw[if_neg (by omega),if_neg (by omega),if_neg (by omega)];simp);have h0:=nx;have h1:=mu;have z3:=zm;refine⟨[ao 46 true,cO 48 (i+1),ao 50 true,ao 59 true,ao 54 false,ao 63 true,cO 69 (a+k),ao 70 false,ao 73 true,ao 76 true,cO 81 (a+k),ao 82 true,(91,.call (.int .i64 (eE n i:Nat))),(92,.call (.string ⟨d.toArray⟩)),(93,.bin (.string ⟨(s++d).toArray⟩))],[],?_⟩;exact XG (by kernel_rfl) (Sx.t8 c46 c50 c54 c59 c63 c69 c70 c73 (Sx.t8 c76 c81 c82 c91 c92 c93 c48 h0 (Sx.t2 h1 h2 z3)))
      ·have c50:Xy (decide ((k:Int) > 1))=.bool true:=bz (decide_eq_true (by omega))
       have c59:Xy (decide ((k:Int) > 1))=.bool true:=bz (decide_eq_true (by omega));have c54:Xy ((i:Int)==(a:Int))=.bool false:=bz (beq_eq_false_iff_ne.2 (by omega));have c63:Xy (decide ((i:Int)≥(a:Int)))=.bool true:=bz (decide_eq_true (by omega));have c70:Xy (decide ((i:Int) < ((a+k:Nat):Int)))=.bool false:=bz (decide_eq_false (by omega));have c73:Xy (decide ((i:Int) > 0))=.bool true:=bz (decide_eq_true (by omega));have c76:Xy (decide ((k:Int) > 1))=.bool true:=bz (decide_eq_true (by omega));have c82:Xy ((i:Int)==((a+k:Nat):Int))=.bool false:=bz (beq_eq_false_iff_ne.2 (by omega));have c87:=db (.tmp 86) (.const (.string ⟨#[58]⟩)) s [58] (by simp only[Xz,XD];omega);have c93:=db (.tmp 88) (.tmp 92) (s++[58]) d (by simp only[XB,Xz,XD];omega);have h2:OI a k (i+1) ((s++[58])++d)=qZ n a k (i+1):=nu (by rw[hs];unfold eK;rw[if_neg (by omega),if_neg (by omega),if_pos (by omega)];simp);have h0:=nx;have h1:=mu;have z3:=zm;refine⟨[ao 46 true,cO 48 (i+1),ao 50 true,ao 59 true,ao 54 false,ao 63 true,cO 69 (a+k),ao 70 false,ao 73 true,ao 76 true,cO 81 (a+k),ao 82 false,(87,.bin (.string ⟨(s++[58]).toArray⟩)),(91,.call (.int .i64 (eE n i:Nat))),(92,.call (.string ⟨d.toArray⟩)),(93,.bin (.string ⟨((s++[58])++d).toArray⟩))],[],?_⟩;exact XG (by kernel_rfl) (Sx.t8 c46 c50 c54 c59 c63 c69 c70 c73 (Sx.t8 c76 c81 c82 c87 c91 c92 c93 c48 (Sx.t2 h0 h1 (XE h2 z3))))
    ·by_cases hp:0 < i
     ·have c50:Xy (decide ((k:Int) > 1))=.bool true:=bz (decide_eq_true (by omega))
      have c59:Xy (decide ((k:Int) > 1))=.bool true:=bz (decide_eq_true (by omega));have c54:Xy ((i:Int)==(a:Int))=.bool false:=bz (beq_eq_false_iff_ne.2 (by omega));have c63:Xy (decide ((i:Int)≥(a:Int)))=.bool false:=bz (decide_eq_false (by omega));have c73:Xy (decide ((i:Int) > 0))=.bool true:=bz (decide_eq_true (by omega));have c76:Xy (decide ((k:Int) > 1))=.bool true:=bz (decide_eq_true (by omega));have c82:Xy ((i:Int)==((a+k:Nat):Int))=.bool false:=bz (beq_eq_false_iff_ne.2 (by omega));have c87:=db (.tmp 86) (.const (.string ⟨#[58]⟩)) s [58] (by simp only[Xz,XD];omega);have c93:=db (.tmp 88) (.tmp 92) (s++[58]) d (by simp only[XB,Xz,XD];omega);have h2:OI a k (i+1) ((s++[58])++d)=qZ n a k (i+1):=nu (by rw[hs];unfold eK;rw[if_neg (by omega),if_neg (by omega),if_pos (by omega)];simp);have h0:=nx;have h1:=mu;have z3:=zm;refine⟨[ao 46 true,cO 48 (i+1),ao 50 true,ao 59 true,ao 54 false,ao 63 false,ao 73 true,ao 76 true,cO 81 (a+k),ao 82 false,(87,.bin (.string ⟨(s++[58]).toArray⟩)),(91,.call (.int .i64 (eE n i:Nat))),(92,.call (.string ⟨d.toArray⟩)),(93,.bin (.string ⟨((s++[58])++d).toArray⟩))],[],?_⟩;exact XG (by kernel_rfl) (Sx.t8 c46 c50 c54 c59 c63 c73 c76 c81 (Sx.t8 c82 c87 c91 c92 c93 c48 h0 h1 (XE h2 z3)))
     ·have c50:Xy (decide ((k:Int) > 1))=.bool true:=bz (decide_eq_true (by omega))
      have c59:Xy (decide ((k:Int) > 1))=.bool true:=bz (decide_eq_true (by omega));have c54:Xy ((i:Int)==(a:Int))=.bool false:=bz (beq_eq_false_iff_ne.2 (by omega));have c63:Xy (decide ((i:Int)≥(a:Int)))=.bool false:=bz (decide_eq_false (by omega));have c73:Xy (decide ((i:Int) > 0))=.bool false:=bz (decide_eq_false (by omega));have c93:=db (.tmp 88) (.tmp 92) s d (by omega);have h2:OI a k (i+1) (s++d)=qZ n a k (i+1):=nu (by rw[hs];unfold eK;rw[if_neg (by omega),if_neg (by omega),if_neg (by omega)];simp);have h0:=nx;have h1:=mu;have z3:=zm;refine⟨[ao 46 true,cO 48 (i+1),ao 50 true,ao 59 true,ao 54 false,ao 63 false,ao 73 false,(91,.call (.int .i64 (eE n i:Nat))),(92,.call (.string ⟨d.toArray⟩)),(93,.bin (.string ⟨(s++d).toArray⟩))],[],?_⟩;exact XG (by kernel_rfl) (Sx.t8 c46 c50 c54 c59 c63 c73 c91 c92 (Sx.t4 c93 c48 h0 h1 (XE h2 z3)))
  ·by_cases hp:0 < i
   ·have c50:Xy (decide ((k:Int) > 1))=.bool false:=bz (decide_eq_false (by omega))
    have c59:Xy (decide ((k:Int) > 1))=.bool false:=bz (decide_eq_false (by omega));have c73:Xy (decide ((i:Int) > 0))=.bool true:=bz (decide_eq_true (by omega));have c76:Xy (decide ((k:Int) > 1))=.bool false:=bz (decide_eq_false (by omega));have c87:=db (.tmp 86) (.const (.string ⟨#[58]⟩)) s [58] (by simp only[Xz,XD];omega);have c93:=db (.tmp 88) (.tmp 92) (s++[58]) d (by simp only[XB,Xz,XD];omega);have h2:OI a k (i+1) ((s++[58])++d)=qZ n a k (i+1):=nu (by rw[hs];unfold eK;rw[if_neg (by omega),if_neg (by omega),if_pos (by omega)];simp);have h0:=nx;have h1:=mu;have z3:=zm;refine⟨[ao 46 true,cO 48 (i+1),ao 50 false,ao 59 false,ao 73 true,ao 76 false,(87,.bin (.string ⟨(s++[58]).toArray⟩)),(91,.call (.int .i64 (eE n i:Nat))),(92,.call (.string ⟨d.toArray⟩)),(93,.bin (.string ⟨((s++[58])++d).toArray⟩))],[],?_⟩;exact XG (by kernel_rfl) (Sx.t8 c46 c50 c59 c73 c76 c87 c91 c92 (Sx.t4 c93 c48 h0 h1 (XE h2 z3)))
   ·have c50:Xy (decide ((k:Int) > 1))=.bool false:=bz (decide_eq_false (by omega))
    have c59:Xy (decide ((k:Int) > 1))=.bool false:=bz (decide_eq_false (by omega));have c73:Xy (decide ((i:Int) > 0))=.bool false:=bz (decide_eq_false (by omega));have c93:=db (.tmp 88) (.tmp 92) s d (by omega);have h2:OI a k (i+1) (s++d)=qZ n a k (i+1):=nu (by rw[hs];unfold eK;rw[if_neg (by omega),if_neg (by omega),if_neg (by omega)];simp);have h0:=nx;have h1:=mu;have z3:=zm;refine⟨[ao 46 true,cO 48 (i+1),ao 50 false,ao 59 false,ao 73 false,(91,.call (.int .i64 (eE n i:Nat))),(92,.call (.string ⟨d.toArray⟩)),(93,.bin (.string ⟨(s++d).toArray⟩))],[],?_⟩;exact XG (by kernel_rfl) (Sx.t8 c46 c50 c59 c73 c91 c92 c93 c48 (Sx.t2 h0 h1 (XE h2 z3)))
 ·have c46:Xy (decide ((i:Int) < 8))=.bool false:=bz (decide_eq_false (by omega))
  have h0:True:=trivial;have h1:[(6,Sx.SV.val (.string ⟨(tF n a k i).toArray⟩))]=KX n a k:=by rw[show i=8 by omega];rfl
  have z2:bG true n=bG true n:=rfl;refine⟨[ao 46 false],[],?_⟩;exact XG (by kernel_rfl) (Sx.t2 c46 h0 (XE h1 z2))
end
theorem PV{n:Nat}(hn:n < 2^128)(h:jt true n=true)(w:World):Calls prog 47 #[.agg (cD true n).toArray] w (Rn w (.tuple #[.string ⟨(cK (aP n)).toArray⟩,.int .i64 0])):=by
 have c9:=fun W (_:ai [] w W)=>iI true n hn W;rw[show dM true n=0 by unfold dM;rw[h];rfl]at c9;have qy:=fun W (_:ai [] w W)=>UP true n W;have hb:=Bn (eE n 0==0) (eE n 1==0) (eE n 2==0) (eE n 3==0) (eE n 4==0) (eE n 5==0) (eE n 6==0) (eE n 7==0);have ht:=EM n;have hz:zs (aP n)=[eE n 0==0,eE n 1==0,eE n 2==0,eE n 3==0,eE n 4==0,eE n 5==0,eE n 6==0,eE n 7==0]:=rfl;rw[←hz]at hb;obtain⟨a,ha⟩:∃a,a=(jQ (zs (aP n))).1:=⟨_,rfl⟩;obtain⟨k,hk⟩:∃k,k=(jQ (zs (aP n))).2:=⟨_,rfl⟩;have hak:=hb.2.1;rw[←ha,←hk]at hak qy ht;have z5:XI #[.string ⟨(tF n a k 8).toArray⟩,.int .i64 0]=.tuple #[.string ⟨(cK (aP n)).toArray⟩,.int .i64 0]:=by rw[S4,ht]
 refine Sx.av (args:=[.agg (cD true n).toArray]) [(9,.call (.int .i64 0)),(42,.call (.tuple #[.int .i64 (a:Int),.int .i64 (k:Int)]))] [Xh n a k] (by kernel_rfl) func47 rfl (bN rfl) ?_;have h0:0≤8:=by omega
 have e1:qZ n a k 0=qZ n a k 0∧bG true n=bG true n:=⟨rfl,rfl⟩;have iZ:=fun(i:Nat) (hi:i≤8)=>KW (n:=n) (a:=a) (k:=k) (w:=w) (Kr:=Sx.atEnd prog f47 (fun u=>u=.tuple #[.string ⟨(cK (aP n)).toArray⟩,.int .i64 0]) .ret) (by omega) (by omega) i hi;exact XG (by kernel_rfl) (Sx.t4 c9 qy h0 e1 (XE iZ (fun(x:Unit) (hx4:True)=>z5)))
theorem uy(v:Bool)(n:Nat)(hn:n < 2^128)(w:World):Calls prog 47 #[.agg (cD v n).toArray] w (Rn w (.tuple #[.string ⟨(gk v n).toArray⟩,.int .i64 (dM v n)])):=by
 cases h:jt v n with
 |false=>rw[show gk v n=[] by unfold gk;rw[h];rfl,show dM v n=150 by unfold dM;rw[h];rfl];exact Jg hn h w
 |true=>
  rw[show gk v n=eL v n by unfold gk;rw[if_pos h],show dM v n=0 by unfold dM;rw[if_pos h]];cases v with
  |false=>exact PW hn h w
  |true=>exact PV hn h w
theorem Lz{v:Bool}{n K:Nat}(hn:n < 2^128)(h:gy v n K=true)(w:World):Calls prog 52 #[.agg (dt v n K).toArray] w (Rn w (.tuple #[.string ⟨(iX v n K).toArray⟩,.int .i64 0])):=by
 have hb:=o6 h;have c7:=fun W (_:ai [] w W)=>CE v n K hn W;rw[show dh v n K=0 by unfold dh;rw[if_pos h]]at c7;have c12:=fun W (_:ai [] w W)=>uy v n hn W;have hA:=qj h;rw[show gk v n=eL v n by unfold gk;rw[if_pos hA],show dM v n=0 by unfold dM;rw[if_pos hA]]at c12;have hl:=tp v n;have h4:=gh (u:=K) (by omega);have kq:=db (.tmp 15) (.const (.string ⟨#[47]⟩)) (eL v n) [47] (by simp only[Xz,XD];omega);have c19:=fun W (_:ai [] w W)=>tE 10 (.inl rfl) K (by omega) W;have c20:=db (.tmp 16) (.tmp 19) (eL v n++[47]) (aq 10 K) (by simp only[XB,Xz,XD];omega);have z0:XI #[.string ⟨(eL v n++[47]++aq 10 K).toArray⟩,.int .i64 0]=.tuple #[.string ⟨(iX v n K).toArray⟩,.int .i64 0]:=by unfold iX;rw[XO];simp
 refine Sx.av (args:=[.agg (dt v n K).toArray]) [(7,.call (.int .i64 0)),(12,.call (.tuple #[.string ⟨(eL v n).toArray⟩,.int .i64 0])),(16,.bin (.string ⟨(eL v n++[47]).toArray⟩)),(19,.call (.string ⟨(aq 10 K).toArray⟩)),(20,.bin (.string ⟨(eL v n++[47]++aq 10 K).toArray⟩))] [] (by kernel_rfl) func52 rfl (bN rfl) ?_;exact XG (by kernel_rfl) (Sx.t4 c7 c12 kq c19 (XE c20 z0))
theorem IT{v:Bool}{n:Nat}{k:Int}(hn:n < 2^128)(h:gy v n k=false)(w:World):Calls prog 52 #[.agg (dt v n k).toArray] w (Rn w (.tuple #[.string ⟨#[]⟩,.int .i64 151])):=by have c7:=fun W (_:ai [] w W)=>CE v n k hn W;rw[show dh v n k=151 by unfold dh;rw[h];rfl]at c7;have z0:XI #[.string ⟨#[]⟩,.int .i64 151]=.tuple #[.string ⟨#[]⟩,.int .i64 151]:=rfl;refine Sx.av (args:=[.agg (dt v n k).toArray]) [(7,.call (.int .i64 151))] [] (by kernel_rfl) func52 rfl (bN rfl) ?_;exact XG (by kernel_rfl) (XE c7 z0)
theorem PD(v:Bool)(n:Nat)(k:Int)(hn:n < 2^128)(w:World):Calls prog 52 #[.agg (dt v n k).toArray] w (Rn w (.tuple #[.string ⟨(j8 v n k).toArray⟩,.int .i64 (dh v n k)])):=by
 cases h:gy v n k with
 |false=>rw[show j8 v n k=[] by unfold j8;rw[h];rfl,show dh v n k=151 by unfold dh;rw[h];rfl];exact IT hn h w
 |true=>rw[show j8 v n k=iX v n k by unfold j8;rw[if_pos h],show dh v n k=0 by unfold dh;rw[if_pos h]];obtain⟨k0,_⟩:=o6 h;obtain⟨K,rfl⟩:=Int.eq_ofNat_of_zero_le k0;exact Lz hn h w
set_option maxRecDepth 100000
open Go.RowKit Go.Lib Go.Sort _root_.Go.Proofs.Tryz
set_option maxRecDepth 100000
def u8(c:UInt8):Value:=.int .u8 (c.toNat:Int)
theorem KU(c:UInt8):c.toNat < 256:=c.toNat_lt
theorem iu{a b:Int}(h:a=b):XC .u8 a=.int .u8 b:=by rw[h]
theorem Ui{a:Int}(h0:0≤a)(h1:a≤255):XY.wrap a=a:=IntWalk.u8_in _ ⟨h0,h1⟩
theorem Vz(c:UInt8)(w:World):Calls prog 162 #[u8 c] w (Rn w (.int .i64 (gJ c))):=by
 have hc:=KU c;have fin:∀(h1:Bool) (h2:Bool),h1=decide ((c.toNat:Int)≥48)→h2=decide ((c.toNat:Int)≤57)→(h1&&h2)=false→Calls prog 162 #[u8 c] w (Rn w (.int .i64 (gJ c))):=by
  intro h1 h2 e1 e2 he;have c4:Xy (decide ((c.toNat:Int)≥48))=.bool h1:=by rw[e1]
  have c7:Xy (decide ((c.toNat:Int)≤57))=.bool h2:=by rw[e2]
  have hno:¬(48≤c.toNat∧c.toNat≤57):=by rintro⟨a,b⟩;rw[e1,e2,decide_eq_true (by omega),decide_eq_true (by omega)]at he;cases he
  clear e1 e2;by_cases h3:97≤c.toNat
  ·have c13:Xy (decide ((c.toNat:Int)≥97))=.bool true:=by rw[decide_eq_true (by omega)]
   by_cases h4:c.toNat≤102
   ·have kq:Xy (decide ((c.toNat:Int)≤102))=.bool true:=by rw[decide_eq_true (by omega)]
    have c19:XC .u8 (XY.wrap ((c.toNat:Int) - 97))=.int .u8 ((c.toNat:Int) - 97):=iu (Ui (by omega) (by omega));have c20:XC .i64 (XA.wrap ((c.toNat:Int) - 97))=.int .i64 ((c.toNat:Int) - 97):=iw (kC (by omega) (by omega));have c21:XC .i64 (XA.wrap ((c.toNat:Int) - 97+10))=.int .i64 ((c.toNat:Int) - 97+10):=iw (kC (by omega) (by omega));have z0:XC .i64 ((c.toNat:Int) - 97+10)=.int .i64 (gJ c):=by unfold gJ; rw[if_neg hno,if_pos ⟨h3,h4⟩]
    cases h1 with
    |false=>refine Sx.av (args:=[u8 c]) [ao 4 false,ao 13 true,ao 16 true,(19,.is (.int .u8 ((c.toNat:Int) - 97))),(20,.is (.int .i64 ((c.toNat:Int) - 97))),(21,.is (.int .i64 ((c.toNat:Int) - 97+10)))] [] (by kernel_rfl) func162 rfl (bN rfl) ?_;exact XG (by kernel_rfl) (Sx.t4 c4 c13 kq c19 (Sx.t2 c20 c21 z0))
    |true=>cases h2 with
     |true=>cases he
     |false=>refine Sx.av (args:=[u8 c]) [ao 4 true,ao 7 false,ao 13 true,ao 16 true,(19,.is (.int .u8 ((c.toNat:Int) - 97))),(20,.is (.int .i64 ((c.toNat:Int) - 97))),(21,.is (.int .i64 ((c.toNat:Int) - 97+10)))] [] (by kernel_rfl) func162 rfl (bN rfl) ?_;exact XG (by kernel_rfl) (Sx.t4 c4 c7 c13 kq (Sx.t2 c19 c20 (XE c21 z0)))
   ·have kq:Xy (decide ((c.toNat:Int)≤102))=.bool false:=by rw[decide_eq_false (by omega)]
    have z0:XC .i64 (-1)=.int .i64 (gJ c):=by unfold gJ;rw[if_neg hno,if_neg (by omega)]
    cases h1 with
    |false=>refine Sx.av (args:=[u8 c]) [ao 4 false,ao 13 true,ao 16 false] [] (by kernel_rfl) func162 rfl (bN rfl) ?_;exact XG (by kernel_rfl) (Sx.t2 c4 c13 (XE kq z0))
    |true=>cases h2 with
     |true=>cases he
     |false=>refine Sx.av (args:=[u8 c]) [ao 4 true,ao 7 false,ao 13 true,ao 16 false] [] (by kernel_rfl) func162 rfl (bN rfl) ?_;exact XG (by kernel_rfl) (Sx.t4 c4 c7 c13 kq z0)
  ·have c13:Xy (decide ((c.toNat:Int)≥97))=.bool false:=by rw[decide_eq_false (by omega)]
   have z0:XC .i64 (-1)=.int .i64 (gJ c):=by unfold gJ;rw[if_neg hno,if_neg (by omega)]
   cases h1 with
   |false=>refine Sx.av (args:=[u8 c]) [ao 4 false,ao 13 false] [] (by kernel_rfl) func162 rfl (bN rfl) ?_;exact XG (by kernel_rfl) (Sx.t2 c4 c13 z0)
   |true=>cases h2 with
    |true=>cases he
    |false=>refine Sx.av (args:=[u8 c]) [ao 4 true,ao 7 false,ao 13 false] [] (by kernel_rfl) func162 rfl (bN rfl) ?_;exact XG (by kernel_rfl) (Sx.t2 c4 c7 (XE c13 z0))
 by_cases h:(decide ((c.toNat:Int)≥48)&&decide ((c.toNat:Int)≤57))=false
 ·exact fin _ _ rfl rfl h
 ·rw[Bool.not_eq_false,XL]at h
  have h1:=of_decide_eq_true h.1;have h2:=of_decide_eq_true h.2;have c4:Xy (decide ((c.toNat:Int)≥48))=.bool true:=by rw[decide_eq_true h1]
  have c7:Xy (decide ((c.toNat:Int)≤57))=.bool true:=by rw[decide_eq_true h2]
  have c10:XC .u8 (XY.wrap ((c.toNat:Int) - 48))=.int .u8 ((c.toNat:Int) - 48):=iu (Ui (by omega) (by omega));have iB:XC .i64 (XA.wrap ((c.toNat:Int) - 48))=.int .i64 ((c.toNat:Int) - 48):=iw (kC (by omega) (by omega));have z0:XC .i64 ((c.toNat:Int) - 48)=.int .i64 (gJ c):=by unfold gJ; rw[if_pos (by omega)]
  refine Sx.av (args:=[u8 c]) [ao 4 true,ao 7 true,(10,.is (.int .u8 ((c.toNat:Int) - 48))),(11,.is (.int .i64 ((c.toNat:Int) - 48)))] [] (by kernel_rfl) func162 rfl (bN rfl) ?_;exact XG (by kernel_rfl) (Sx.t4 c4 c7 c10 iB z0)
structure BR where
 i:Nat
 n:Nat
 m:Nat
 out:List Nat
def ints(l:List Nat):List Value:=l.map fun(n:Nat)=>.int .i64 (n:Int)
def ju(s:List UInt8)(k:BR):BR:=match s[k.i]? with
 |none=>⟨k.i+1,0,0,k.out++[k.n]⟩
 |some c=>if c=58 then⟨k.i+1,0,0,k.out++[k.n]⟩else⟨k.i+1,16*k.n+(gJ c).toNat,k.m+1,k.out⟩
def Fp(s:List UInt8)(T:Option (List Nat))(k:BR):Prop:=k.m≤5∧k.n < 16^k.m∧k.out.length≤8∧((k.i≤s.length∧ow (s.drop k.i) k.n k.m k.out=T)∨(k.i=s.length+1∧T=some k.out))
def jT(T:Option (List Nat)):Sx.gV:=match T with
 |some l=>.oo [] 3 1 l.length (ints l) [.bool true]
 |none=>.val (.tuple #[.slice none 0 0,.bool false])
def MA(s:List UInt8)(k:BR):List (Nat×Sx.SV):=[(0,.val (.string ⟨s.toArray⟩)),(4,.own 0),(5,.val (.int .i64 (k.n:Int))),(6,.val (.int .i64 (k.m:Int))),(7,.val (.int .i64 (k.i:Int)))]
def Fs(k:BR):List Sx.Row:=[⟨3,.own 1 k.out.length (ints k.out)⟩]
theorem kE(s:List UInt8)(i:Nat)(c:UInt8)(h:s[i]?=some c)(W:World):(Instr.index 9 (.string ⟨s.toArray⟩) (.int .i64 (i:Int))).run prog W=.ok (u8 c) W:=by obtain⟨hlt,hc⟩:=XF.1 h;rw[run_index_string W 9 ⟨s.toArray⟩ .i64 (i:Int) underlying9,dif_pos ⟨by omega,by simpa[ByteArray.size]using hlt⟩];subst hc;simp[u8,ByteArray.getElem_eq_getElem_data]
theorem ik{κ ι:Type}{R:κ→Prop}{fr:κ→List (Nat×Sx.SV)}{mem:κ→List Sx.Row}{next:κ→κ}{μ:κ→Nat}{Ro:ι→Prop}{fro:ι→List (Nat×Sx.SV)}{memo:ι→List Sx.Row}{which:κ→ι}{id:Nat}{Kr:Sx.St→Prop}{k k':κ}(h:next k=k') :
  Sx.dP R fr mem next μ Ro fro memo which id Kr k=Sx.dP R fr mem (fun _=>k') μ Ro fro memo which id Kr k:=by
 funext e st;cases e<;>simp only[Sx.dP,h]
theorem gz(s:List UInt8):XC .i64 (((⟨s.toArray⟩:ByteArray).size:Nat):Int)=.int .i64 (s.length:Int):=iw (by simp[ByteArray.size])
theorem rY{b:Bool}(h:b=true):Xy b=.bool true:=by rw[h]
theorem qQ{b:Bool}(h:b=false):Xy b=.bool false:=by rw[h]
theorem Jx(s:List UInt8)(T:Option (List Nat))(w:World)(hs:s.length≤100000000)(k:BR)(hk:Fp s T k):∃H' L',Sx.ex prog 61 w (Sx.a7 f100 0) H' L' ⟨MA s k,Fs k⟩
  (Sx.dP (Fp s T) (MA s) Fs (ju s) (fun k=>s.length+2 - k.i) (fun(out:List Nat)=>T=some out) (fun _=>[(4,.own 0)]) (fun out=>[⟨3,.own 1 out.length (ints out)⟩]) (fun k=>k.out) (Sx.ej (Sx.a7 f100 0) - 1) (Sx.rR prog f100 (fun u=>u=jT T) .ret) k):=by
 obtain⟨i,n,m,out⟩:=k;obtain⟨hm,hn,ho,hk⟩:=hk;simp only at hm hn ho hk;have hn':n < 16^5:=XM hn (Nat.pow_le_pow_right (by omega) hm);have hn':n < 1048576:=hn';have c13:=gz s;have c19:=gz s;rcases hk with⟨hi,hk⟩ | ⟨hi,hk⟩
 ·have c14:=bT ((i:Int)≤(s.length:Int)) (by omega)
  have kq:=mW (i:=i) (by omega);have KH:True∧(Yf (1*1) (Yg 0 (XC XA (n:Int)).cells.toList)).length=1*1∧(∀(u:Value),u∈Yf (1*1) (Yg 0 (XC XA (n:Int)).cells.toList)→u.oneCell'=true)∧out.length+1≤maxLen∧(out.length+1)*8≤140737488355328:=by refine⟨trivial,rfl,?_,by unfold maxLen;omega,by omega⟩;intro u hu;have hu:u∈[XC XA (n:Int)]:=hu;rw[X0.1 hu];rfl
  have z3:[(⟨3,.own 1 (out.length+1) (ints out++[.int .i64 (n:Int)])⟩:Sx.Row)]=[⟨3,.own 1 (out++[n]).length (ints (out++[n]))⟩]:=by simp[ints]
  rcases Nat.lt_or_eq_of_le hi with hlt|he
  ·obtain⟨c,hc⟩:∃c,s[i]?=some c:=⟨_,XH hlt⟩
   have hdrop:s.drop i=c::s.drop (i+1):=by rw[List.drop_eq_getElem_cons hlt];have:=XH hlt;rw[hc]at this;rw[Option.some.inj this]
   rw[hdrop,ow]at hk;have c20:Xy ((i:Int)==(s.length:Int))=.bool false:=qQ (by simp;omega);have c24:=kE s i c hc;by_cases h58:c=58
   ·rw[if_pos h58]at hk
    have c25:Xy ((c.toNat:Int)==58)=.bool true:=rY (by rw[h58];rfl);have hnx:ju s ⟨i,n,m,out⟩=⟨i+1,0,0,out++[n]⟩:=by simp only[ju,hc,if_pos h58]
    by_cases hm0:m=0
    ·have hT:T=none:=by rw[if_pos (.inl hm0)]at hk;exact hk.symm
     have c28:Xy ((m:Int)==0)=.bool true:=rY (by simp;omega);have z0:Sx.gV.val (.tuple #[.slice none 0 0,.bool false])=jT T:=by rw[hT];rfl
     refine⟨[(13,.is (.int .i64 (s.length:Int))),ao 14 true,(19,.is (.int .i64 (s.length:Int))),ao 20 false,(24,.bin (u8 c)),ao 25 true,ao 28 true],[],?_⟩;exact XG (by kernel_rfl) (Sx.t4 c13 c14 c19 c20 (Sx.t2 c24 c25 (XE c28 z0)))
    ·have c28:Xy ((m:Int)==0)=.bool false:=qQ (by simp;omega)
     by_cases h4:4 < m
     ·have hT:T=none:=by rw[if_pos (.inr (.inl h4))]at hk;exact hk.symm
      have c31:=bT ((m:Int) > 4) (by omega);have z0:Sx.gV.val (.tuple #[.slice none 0 0,.bool false])=jT T:=by rw[hT];rfl
      refine⟨[(13,.is (.int .i64 (s.length:Int))),ao 14 true,(19,.is (.int .i64 (s.length:Int))),ao 20 false,(24,.bin (u8 c)),ao 25 true,ao 28 false,ao 31 true],[],?_⟩;exact XG (by kernel_rfl) (Sx.t8 c13 c14 c19 c20 c24 c25 c28 c31 z0)
     ·have c31:=bF ((m:Int) > 4) (by omega)
      by_cases h8:out.length=8
      ·have hT:T=none:=by rw[if_pos (.inr (.inr h8))]at hk;exact hk.symm
       have yO:Xy ((out.length:Int)==8)=.bool true:=rY (by simp;omega);have z0:Sx.gV.val (.tuple #[.slice none 0 0,.bool false])=jT T:=by rw[hT];rfl
       refine⟨[(13,.is (.int .i64 (s.length:Int))),ao 14 true,(19,.is (.int .i64 (s.length:Int))),ao 20 false,(24,.bin (u8 c)),ao 25 true,ao 28 false,ao 31 false,ao 36 true],[],?_⟩;exact XG (by kernel_rfl) (Sx.t8 c13 c14 c19 c20 c24 c25 c28 c31 (XE yO z0))
      ·have yO:Xy ((out.length:Int)==8)=.bool false:=qQ (by simp;omega)
       rw[if_neg (by omega)]at hk;have h0:Fp s T ⟨i+1,0,0,out++[n]⟩:=⟨XJ _,by show 0 < 16^0;decide,by show(out++[n]).length≤8;rw[XB,XX];omega,.inl ⟨hlt,hk⟩⟩;have h1:s.length+2 - (⟨i+1,0,0,out++[n]⟩:BR).i < s.length+2 - i:=by show s.length+2 - (i+1) < _; omega
       have h2:[((0:Nat),Sx.SV.val (.string ⟨s.toArray⟩)),(4,.own 2),(5,.val (.int .i64 ((0:Nat):Int))),(6,.val (.int .i64 ((0:Nat):Int))),(7,.val (.int .i64 ((i+1:Nat):Int)))]=[((0:Nat),Sx.SV.val (.string ⟨s.toArray⟩)),(4,.own 2),(5,.val (.int .i64 ((0:Nat):Int))),(6,.val (.int .i64 ((0:Nat):Int))),(7,.val (.int .i64 ((i+1:Nat):Int)))]:=rfl;refine⟨[(13,.is (.int .i64 (s.length:Int))),ao 14 true,(19,.is (.int .i64 (s.length:Int))),ao 20 false,(24,.bin (u8 c)),ao 25 true,ao 28 false,ao 31 false,ao 36 false,cO 16 (i+1)],[],?_⟩;rw[ik hnx];exact XG (by kernel_rfl) (Sx.t8 c13 c14 c19 c20 c24 c25 c28 c31 (Sx.t4 yO KH kq h0 (Sx.t2 h1 h2 z3)))
   ·rw[if_neg h58]at hk
    have c25:Xy ((c.toNat:Int)==58)=.bool false:=qQ (by have:c.toNat≠58:=fun h=>h58 (UInt8.toNat_inj.1 (by rw[h];rfl));simp;omega);have hnx:ju s ⟨i,n,m,out⟩=⟨i+1,16*n+(gJ c).toNat,m+1,out⟩:=by simp only[ju,hc,if_neg h58]
    have c44:=c24;have c45:=fun W (_:ai [] w W)=>Vz c W;have c55:=c24;have c56:=c45;have hx15:gJ c < 16:=by
     have:=KU c;unfold gJ;split
     ·omega
     ·split<;>omega
    by_cases hneg:gJ c < 0
    ·have hT:T=none:=by rw[if_pos (.inl hneg)]at hk;exact hk.symm
     have c46:Xy (decide (gJ c < 0))=.bool true:=rY (decide_eq_true hneg);have z0:Sx.gV.val (.tuple #[.slice none 0 0,.bool false])=jT T:=by rw[hT];rfl
     refine⟨[(13,.is (.int .i64 (s.length:Int))),ao 14 true,(19,.is (.int .i64 (s.length:Int))),ao 20 false,(24,.bin (u8 c)),ao 25 false,(44,.bin (u8 c)),(45,.call (.int .i64 (gJ c))),ao 46 true],[],?_⟩;exact XG (by kernel_rfl) (Sx.t8 c13 c14 c19 c20 c24 c25 c44 c45 (XE c46 z0))
    ·have c46:Xy (decide (gJ c < 0))=.bool false:=qQ (decide_eq_false hneg)
     by_cases h4:4 < m
     ·have hT:T=none:=by rw[if_pos (.inr h4)]at hk;exact hk.symm
      have c49:=bT ((m:Int) > 4) (by omega);have z0:Sx.gV.val (.tuple #[.slice none 0 0,.bool false])=jT T:=by rw[hT];rfl
      refine⟨[(13,.is (.int .i64 (s.length:Int))),ao 14 true,(19,.is (.int .i64 (s.length:Int))),ao 20 false,(24,.bin (u8 c)),ao 25 false,(44,.bin (u8 c)),(45,.call (.int .i64 (gJ c))),ao 46 false,ao 49 true],[],?_⟩;exact XG (by kernel_rfl) (Sx.t8 c13 c14 c19 c20 c24 c25 c44 c45 (Sx.t2 c46 c49 z0))
     ·rw[if_neg (by omega)]at hk
      have c49:=bF ((m:Int) > 4) (by omega);obtain⟨d,hd⟩:∃d:Nat,gJ c=d:=⟨(gJ c).toNat,by omega⟩;have hd':(gJ c).toNat=d:=by omega
      have hd16:d < 16:=by omega
      rw[hd']at hk hnx;have c52:XC .i64 (XA.wrap (16*(n:Int)))=.int .i64 ((16*n:Nat):Int):=iw (by rw[kC (by omega) (by omega)];omega);have c57:XC .i64 (XA.wrap (((16*n:Nat):Int)+gJ c))=.int .i64 ((16*n+d:Nat):Int):=iw (by rw[hd,kC (by omega) (by omega)];omega);have c59:=mW (i:=m) (by omega);have h0:Fp s T (ju s ⟨i,n,m,out⟩):=by rw[hnx];refine⟨by show m+1≤5;omega,?_,ho,.inl ⟨hlt,hk⟩⟩;show 16*n+d < 16^(m+1);rw[Nat.pow_succ];omega
      have h1:s.length+2 - (ju s ⟨i,n,m,out⟩).i < s.length+2 - i:=by rw[hnx]; show s.length+2 - (i+1) < _; omega
      rw[hnx]at h0 h1;have h2:[((0:Nat),Sx.SV.val (.string ⟨s.toArray⟩)),(4,.own 0),(5,.val (.int .i64 ((16*n+d:Nat):Int))),(6,.val (.int .i64 ((m+1:Nat):Int))),(7,.val (.int .i64 ((i+1:Nat):Int)))]=[((0:Nat),Sx.SV.val (.string ⟨s.toArray⟩)),(4,.own 0),(5,.val (.int .i64 ((16*n+d:Nat):Int))),(6,.val (.int .i64 ((m+1:Nat):Int))),(7,.val (.int .i64 ((i+1:Nat):Int)))]:=rfl;have z3:[(⟨3,.own 1 out.length (ints out)⟩:Sx.Row)]=[⟨3,.own 1 out.length (ints out)⟩]:=rfl;refine⟨[(13,.is (.int .i64 (s.length:Int))),ao 14 true,(19,.is (.int .i64 (s.length:Int))),ao 20 false,(24,.bin (u8 c)),ao 25 false,(44,.bin (u8 c)),(45,.call (.int .i64 (gJ c))),ao 46 false,ao 49 false,cO 52 (16*n),(55,.bin (u8 c)),(56,.call (.int .i64 (gJ c))),cO 57 (16*n+d),cO 59 (m+1),cO 16 (i+1)],[],?_⟩;rw[ik hnx];exact XG (by kernel_rfl) (Sx.t8 c13 c14 c19 c20 c24 c25 c44 c45 (Sx.t8 c46 c49 c52 c55 c56 c57 c59 kq (Sx.t2 h0 h1 (XE h2 z3))))
  ·have c20:Xy ((i:Int)==(s.length:Int))=.bool true:=rY (by simp;omega)
   have hdrop:s.drop i=[]:=List.drop_of_length_le (by omega);rw[hdrop,ow]at hk;have hnone:s[i]?=none:=List.getElem?_eq_none (by omega);have hnx:ju s ⟨i,n,m,out⟩=⟨i+1,0,0,out++[n]⟩:=by simp only[ju,hnone]
   by_cases hm0:m=0
   ·have hT:T=none:=by rw[if_pos (.inl hm0)]at hk;exact hk.symm
    have c28:Xy ((m:Int)==0)=.bool true:=rY (by simp;omega);have z0:Sx.gV.val (.tuple #[.slice none 0 0,.bool false])=jT T:=by rw[hT];rfl
    refine⟨[(13,.is (.int .i64 (s.length:Int))),ao 14 true,(19,.is (.int .i64 (s.length:Int))),ao 20 true,ao 28 true],[],?_⟩;exact XG (by kernel_rfl) (Sx.t4 c13 c14 c19 c20 (XE c28 z0))
   ·have c28:Xy ((m:Int)==0)=.bool false:=qQ (by simp;omega)
    by_cases h4:4 < m
    ·have hT:T=none:=by rw[if_pos (.inr (.inl h4))]at hk;exact hk.symm
     have c31:=bT ((m:Int) > 4) (by omega);have z0:Sx.gV.val (.tuple #[.slice none 0 0,.bool false])=jT T:=by rw[hT];rfl
     refine⟨[(13,.is (.int .i64 (s.length:Int))),ao 14 true,(19,.is (.int .i64 (s.length:Int))),ao 20 true,ao 28 false,ao 31 true],[],?_⟩;exact XG (by kernel_rfl) (Sx.t4 c13 c14 c19 c20 (Sx.t2 c28 c31 z0))
    ·have c31:=bF ((m:Int) > 4) (by omega)
     by_cases h8:out.length=8
     ·have hT:T=none:=by rw[if_pos (.inr (.inr h8))]at hk;exact hk.symm
      have yO:Xy ((out.length:Int)==8)=.bool true:=rY (by simp;omega);have z0:Sx.gV.val (.tuple #[.slice none 0 0,.bool false])=jT T:=by rw[hT];rfl
      refine⟨[(13,.is (.int .i64 (s.length:Int))),ao 14 true,(19,.is (.int .i64 (s.length:Int))),ao 20 true,ao 28 false,ao 31 false,ao 36 true],[],?_⟩;exact XG (by kernel_rfl) (Sx.t4 c13 c14 c19 c20 (Sx.t2 c28 c31 (XE yO z0)))
     ·have yO:Xy ((out.length:Int)==8)=.bool false:=qQ (by simp;omega)
      rw[if_neg (by omega)]at hk;have h0:Fp s T ⟨i+1,0,0,out++[n]⟩:=⟨XJ _,by show 0 < 16^0;decide,by show(out++[n]).length≤8;rw[XB,XX];omega,.inr ⟨by show i+1=s.length+1;omega,hk.symm⟩⟩;have h1:s.length+2 - (⟨i+1,0,0,out++[n]⟩:BR).i < s.length+2 - i:=by show s.length+2 - (i+1) < _; omega
      have h2:[((0:Nat),Sx.SV.val (.string ⟨s.toArray⟩)),(4,.own 2),(5,.val (.int .i64 ((0:Nat):Int))),(6,.val (.int .i64 ((0:Nat):Int))),(7,.val (.int .i64 ((i+1:Nat):Int)))]=[((0:Nat),Sx.SV.val (.string ⟨s.toArray⟩)),(4,.own 2),(5,.val (.int .i64 ((0:Nat):Int))),(6,.val (.int .i64 ((0:Nat):Int))),(7,.val (.int .i64 ((i+1:Nat):Int)))]:=rfl;refine⟨[(13,.is (.int .i64 (s.length:Int))),ao 14 true,(19,.is (.int .i64 (s.length:Int))),ao 20 true,ao 28 false,ao 31 false,ao 36 false,cO 16 (i+1)],[],?_⟩;rw[ik hnx];exact XG (by kernel_rfl) (Sx.t8 c13 c14 c19 c20 c28 c31 yO KH (Sx.t4 kq h0 h1 h2 z3))
 ·have c14:=bF ((i:Int)≤(s.length:Int)) (by omega)
  have h0:T=some out:=hk;have h1:[((4:Nat),Sx.SV.own 0)]=[(4,.own 0)]:=rfl;have z2:[(⟨3,.own 1 out.length (ints out)⟩:Sx.Row)]=[⟨3,.own 1 out.length (ints out)⟩]:=rfl;refine⟨[(13,.is (.int .i64 (s.length:Int))),ao 14 false],[],?_⟩;exact XG (by kernel_rfl) (Sx.t4 c13 c14 h0 h1 z2)
theorem Aq(x y:Operand)(a b:List UInt8){r:Bool}(h:decide (a=b)=r)(W:World):(do eqGuard .eql 9 x y (.string ⟨a.toArray⟩) (.string ⟨b.toArray⟩);binOp .eql 9 (.string ⟨a.toArray⟩) (.string ⟨b.toArray⟩):Sem Value).run prog W=.ok (.bool r) W:=by show Result.ok (Xy ((⟨a.toArray⟩:ByteArray).toList==(⟨b.toArray⟩:ByteArray).toList)) W=_;rw[ByteArray.toList_eq,ByteArray.toList_eq,←h];congr 2;rw[XQ];simp
theorem Ap(x y:Operand)(a b:List UInt8){r:Bool}(h:decide (a=b)=!r)(W:World):(do eqGuard .neq 9 x y (.string ⟨a.toArray⟩) (.string ⟨b.toArray⟩);binOp .neq 9 (.string ⟨a.toArray⟩) (.string ⟨b.toArray⟩):Sem Value).run prog W=.ok (.bool r) W:=by
 show Result.ok (Xy (!((⟨a.toArray⟩:ByteArray).toList==(⟨b.toArray⟩:ByteArray).toList))) W=_;have e:((⟨a.toArray⟩:ByteArray).toList==(⟨b.toArray⟩:ByteArray).toList)=decide (a=b):=by rw[ByteArray.toList_eq,ByteArray.toList_eq,XQ];simp
 rw[e,h,Bool.not_not]
theorem zA(s:List UInt8)(hs:s.length≤100000000)(w:World):Calls prog 100 #[.string ⟨s.toArray⟩] w (Sx.eh w (jT (ja s))):=by
 by_cases h0:s=[]
 ·subst h0
  have c9:=Aq (.tmp 8) (.const (.string ⟨#[]⟩)) [] [] (r:=true) (by simp);have z0:Sx.gV.oo [] 3 1 0 [] [.bool true]=jT (ja []):=rfl;refine Sx.ng (args:=[.string ⟨#[]⟩]) [(4,.jG 3 1),(9,.bin (.bool true))] [] (by kernel_rfl) func100 rfl (bN rfl) ?_;exact XG (by kernel_rfl) (XE c9 z0)
 ·have hT:ja s=ow s 0 0 []:=by unfold ja;rw[if_neg h0]
  have c9:=Aq (.tmp 8) (.const (.string ⟨#[]⟩)) s [] (r:=false) (by simpa using h0);generalize ja s=T at*;have h0:Fp s T ⟨0,0,0,[]⟩:=⟨XJ _,by show 0 < 16^0;decide,XJ _,.inl ⟨XJ _,hT.symm⟩⟩;have e1:[((0:Nat),Sx.SV.val (.string ⟨s.toArray⟩)),(4,.own 0),(5,.val (.int .i64 0)),(6,.val (.int .i64 0)),(7,.val (.int .i64 0))]=[((0:Nat),Sx.SV.val (.string ⟨s.toArray⟩)),(4,.own 0),(5,.val (.int .i64 0)),(6,.val (.int .i64 0)),(7,.val (.int .i64 0))]∧[(⟨3,.own 1 0 []⟩:Sx.Row)]=[⟨3,.own 1 0 []⟩]:=⟨rfl,rfl⟩;have iZ:=Jx s T w hs;have z5:∀x,T=some x→Sx.gV.oo [] 3 1 x.length (ints x) [.bool true]=jT T:=fun x hx=>by rw[hx];rfl
  refine Sx.ng (args:=[.string ⟨s.toArray⟩]) [(4,.jG 3 1),(9,.bin (.bool false))] [.mk BR ⟨0,0,0,[]⟩ (Fp s T) (MA s) Fs (ju s) (fun k=>s.length+2 - k.i) (List Nat) (fun(out:List Nat)=>T=some out) (fun _=>[(4,.own 0)]) (fun out=>[⟨3,.own 1 out.length (ints out)⟩]) (fun k=>k.out)] (by kernel_rfl) func100 rfl (bN rfl) ?_;exact XG (by kernel_rfl) (Sx.t4 c9 h0 e1 iZ (fun(x:List Nat) (hx4:T=Option.some x)=>z5 x hx4))
set_option maxRecDepth 100000
open Go.RowKit Go.Lib Go.Sort _root_.Go.Proofs.Tryz
set_option maxRecDepth 100000
theorem EB.up{code at_:Int}{w W w':World}{chain:List PanicEntry}(h:EB code at_ W chain w')(hs:w.heap.size≤W.heap.size):EB code at_ w chain w':=by obtain⟨N,h1,h2,h3⟩:=h;exact⟨N,h1,Nat.le_trans hs h2,h3⟩
theorem mN{P:Program}{f:FuncId}{args:Array Value}{b:Sx.bu}{W:World}{vs:List Value}{ps:List (Nat×Nat)}(h:Calls P f args W fun e w'=>∃chain,e=.panicked chain∧b.PP chain w'∧ai [] W w'):Calls P f args W (Sx.qJ b W vs (.G9 ps)):=
 h.mono fun _ _ ⟨ch,he,hp,hc⟩=>⟨ch,[],he,hp,hc,fun _ hx=>by cases hx⟩
theorem O6(g:Nat)(ws:Value)(at_ code:Int)(w:World)(hb:aw w g 154 [ws,.int .i64 at_]):Calls prog 191 #[.pointer (some ⟨g,0,none⟩),.bool false,.int .i64 code] w (Sx.iP ⟨w,[g],EB code at_ w⟩ fun _ _=>False):=by have c14:=fun W (hW:ai [g] w W) (_:aw W g 154 [ws,.int .i64 at_])=>mN (b:=⟨w,[g],EB code at_ w⟩) (vs:=[.pointer (some ⟨g,0,none⟩),.int .i64 code,.int .i64 at_]) (ps:=[(0,0)]) ((tY (.pointer (some ⟨g,0,none⟩)) code at_ W).mono fun _ _ ⟨ch,he,hf,hc⟩=>⟨ch,he,hf.up hW.size,hc⟩);have z0:=trivial;refine Sx.il (args:=[.ptr 0 0,.val (.bool false),.val (.int .i64 code)]) [(g,154,[ws,.int .i64 at_])] (by simpa using hb) (by simp) (EB code at_ w) [(14,.sY)] [] (by kernel_rfl) func191 rfl (bN rfl) rfl ?_;exact XG (by kernel_rfl) (XE c14 z0)
theorem KR(lp:Value)(code:Int)(w:World):Calls prog 191 #[lp,.bool true,.int .i64 code] w (Rn w (.tuple #[])):=by have z0:XI #[]=.tuple #[]:=rfl;refine Sx.av (args:=[lp,.bool true,.int .i64 code]) [] [] (by kernel_rfl) func191 rfl (bN rfl) ?_;exact XG (by kernel_rfl) z0
def ee(A:Option Go.Addr)(n c:Nat)(at_:Nat):List Value:=[.slice A n c,.int .i64 (at_:Int)]
theorem Qs(g:Nat)(A:Option Go.Addr)(n c:Nat)(hn:n≤1100000)(w:World)(hb:aw w g 154 (ee A n c n)):Calls prog 154 #[.pointer (some ⟨g,0,none⟩)] w (Sx.iP ⟨w,[g],EB 200 ((n:Int)+1) w⟩ fun _ _=>False):=by have c12:Xy ((n:Int)==(n:Int))=.bool true:=rY (by simp);have c18:XC .i64 (XA.wrap ((n:Int)+1))=.int .i64 ((n:Int)+1):=iw (kC (by omega) (by omega));have c19:=fun W (hW:ai [g] w W) (_:aw W g 154 (ee A n c n))=>mN (b:=⟨w,[g],EB 200 ((n:Int)+1) w⟩) (vs:=[.pointer (some ⟨g,0,none⟩),.int .i64 200,.int .i64 ((n:Int)+1)]) (ps:=[(0,0)]) ((tY (.pointer (some ⟨g,0,none⟩)) 200 ((n:Int)+1) W).mono fun _ _ ⟨ch,he,hf,hc⟩=>⟨ch,he,hf.up hW.size,hc⟩);have z0:=trivial;refine Sx.il (args:=[.ptr 0 0]) [(g,154,ee A n c n)] (by simpa using hb) (by simp) (EB 200 ((n:Int)+1) w) [ao 12 true,(18,.is (.int .i64 ((n:Int)+1))),(19,.sY)] [] (by kernel_rfl) func154 rfl (bN rfl) rfl ?_;exact XG (by kernel_rfl) (Sx.t2 c12 c18 (XE c19 z0))
open Go Go.RowKit Go.Lib Go.Sort
theorem Pz{P:Program}{t:TypeId}{b off:Nat}{d:TypeDesc}{v:Value}(hu:P.underlying t=some d)(hd:d.isRow=false){W:World}(hc:W.cell? ⟨b,off,none⟩=some v) :
  (Ya t (.pointer (some ⟨b,off,none⟩))).run P W=.ok v W:=by
 have hagg:(isAgg t).run P W=.ok false W:=by unfold isAgg;rw[XP,run_underlying hu W];cases d<;>simp_all
 rw[Sx.si];simp[loadVar,XP,hagg,load,Sem.run,hc]
set_option maxRecDepth 100000
open Go.RowKit Go.Lib Go.Sort _root_.Go.Proofs.Tryz
structure BO(w:World)(S:List Nat)(A:Option Go.Addr)(n:Nat)(ws:List (List UInt8)):Prop where
 len:ws.length=n
 row:0 < n→∃b o,A=some ⟨b,o,none⟩∧b∉S∧b < w.heap.size∧∀(j:Nat) (x:List UInt8),ws[j]?=some x→w.cell? ⟨b,o+j,none⟩=some (.string ⟨x.toArray⟩)
theorem BO.aJ{w w':World}{S:List Nat}{A:Option Go.Addr}{n:Nat}{ws:List (List UInt8)}(h:BO w S A n ws)(hc:ai S w w'):BO w' S A n ws:=
 ⟨h.len,fun h0=>by obtain⟨b,o,h1,h2,h3,h4⟩:=h.row h0;exact⟨b,o,h1,h2,XM h3 hc.size,fun j x hx=>(hc.cell (p:=⟨b,o+j,none⟩) h3 h2).trans (h4 j x hx)⟩⟩
theorem BO.sub{w:World}{S S':List Nat}{A:Option Go.Addr}{n:Nat}{ws:List (List UInt8)}(h:BO w S A n ws)(hs:∀x∈S',x∈S):BO w S' A n ws:=
 ⟨h.len,fun h0=>by obtain⟨b,o,h1,h2,h3,h4⟩:=h.row h0;exact⟨b,o,h1,fun hb=>h2 (hs b hb),h3,h4⟩⟩
theorem BO.cons{w w':World}{S:List Nat}{A:Option Go.Addr}{n x:Nat}{ws:List (List UInt8)}(h:BO w S A n ws)(hc:ai S w w')(hx:w.heap.size≤x):BO w' (x::S) A n ws:=
 ⟨h.len,fun h0=>by
  obtain⟨b,o,h1,h2,h3,h4⟩:=h.row h0;refine⟨b,o,h1,fun hb=>?_,XM h3 hc.size,fun j y hy=>(hc.cell (p:=⟨b,o+j,none⟩) h3 h2).trans (h4 j y hy)⟩;rcases List.mem_cons.1 hb with rfl|hb
  ·omega
  ·exact h2 hb⟩
theorem BO.at{w:World}{S:List Nat}{A:Option Go.Addr}{n c:Nat}{ws:List (List UInt8)}(h:BO w S A n ws){i:Nat}{x:List UInt8}(hx:ws[i]?=some x) :
  ∃p,(∀W,(X7 70 (.slice A n c) (.int .i64 (i:Int))).run prog W=.ok p W)∧∀W,ai S w W→(Ya 9 p).run prog W=.ok (.string ⟨x.toArray⟩) W:=by
 have hi:i < n:=by rw[←h.len];exact(XF.1 hx).1
 obtain⟨b,o,rfl,hb,_,hr⟩:=h.row (by omega);refine⟨.pointer (some ⟨b,o+i,none⟩),fun W=>?_,fun W hW=>?_⟩
 ·have hs:(prog.info? 9).map (·.size)=some 1:=by kernel_rfl
  cases hq:prog.info? 9 with
  |none=>rw[hq]at hs;cases hs
  |some inf=>
   rw[hq]at hs;have hs:inf.size=1:=by simpa using hs
   simp[X7,run_underlying underlying70,asIntOf,hi,sizeOf,typeInfo,hq,hs,Addr.add_lit]
 ·obtain⟨_,_,h1,_,_,h4⟩:=(h.aJ hW).row (by omega)
  injection h1 with h1;injection h1 with h1 h2 h3;subst h1 h2;exact Pz underlying9 rfl (h4 i x hx)
set_option maxRecDepth 100000
open Go.RowKit Go.Lib Go.Sort _root_.Go.Proofs.Tryz
def VX(g:Nat)(v:Value)(cs:List Value)(r:Sx.gV)(gl:List (Nat×TypeId×List Value)):Prop:=r=.val v∧gl=[(g,154,cs)]
theorem MB(g:Nat)(A:Option Go.Addr)(n c i:Nat)(ws:List (List UInt8))(x:List UInt8)(hn:n≤1100000)(w:World)(hb:aw w g 154 (ee A n c i))(hw:BO w [g] A n ws)(hx:ws[i]?=some x)(PP:List PanicEntry→World→Prop):Calls prog 154 #[.pointer (some ⟨g,0,none⟩)] w (Sx.iP ⟨w,[g],PP⟩ (VX g (.string ⟨x.toArray⟩) (ee A n c (i+1)))):=by
 have hi:i < n:=by rw[←hw.len];exact(XF.1 hx).1
 obtain⟨p,hp1,hp2⟩:=hw.at (c:=c) hx;have c12:Xy ((i:Int)==(n:Int))=.bool false:=qQ (by rw[beq_eq_false_iff_ne];omega);have c24:=mW (i:=i) (by omega);have vz:XC .i64 (XA.wrap (((i+1:Nat):Int) - 1))=.int .i64 (i:Int):=iw (by rw[kC (by omega) (by omega)]; omega);have yO:=fun W (_:ai [g] w W)=>hp1 W;have c37:=hp2;have h0:Sx.gV.val (XN ⟨x.toArray⟩)=.val (.string ⟨x.toArray⟩):=rfl;have z1:[(g,154,ee A n c (i+1))]=[(g,154,ee A n c (i+1))]:=rfl;refine Sx.il (args:=[.ptr 0 0]) [(g,154,ee A n c i)] (by simpa using hb) (by simp) PP [ao 12 false,cO 24 (i+1),(35,.is (.int .i64 (i:Int))),(36,.any p),(37,.any (.string ⟨x.toArray⟩))] [] (by kernel_rfl) func154 rfl (bN rfl) rfl ?_;exact XG (by kernel_rfl) (Sx.t4 c12 c24 vz yO (Sx.t2 c37 h0 z1))
open Go.RowKit Go.Lib Go.Sort _root_.Go.Proofs.Tryz
theorem VQ(x y:Operand)(v v':Bool)(n m:Nat)(k j:Int)(hn:n < 2^128)(hm:m < 2^128)(hk : -9223372036854775808≤k∧k≤9223372036854775807)(hj : -9223372036854775808≤j∧j≤9223372036854775807)(W:World):(do eqGuard .neq 29 x y (.agg (dt v n k).toArray) (.agg (dt v' m j).toArray); binOp .neq 29 (.agg (dt v n k).toArray) (.agg (dt v' m j).toArray):Sem Value).run prog W=.ok (.bool (!decide (v=v'∧n=m∧k=j))) W:=by have h:=WN v v' n m k j hn hm hk hj W;rw[XP,QS,Result.andThen_ok];show(do pure (.bool (!(←Op.equal 29 (.agg (dt v n k).toArray) (.agg (dt v' m j).toArray)))):Sem Value).run prog W=_;rw[XP,show(Op.equal 29 (.agg (dt v n k).toArray) (.agg (dt v' m j).toArray)).run prog W=_ from h];rfl
theorem TU(x y:Operand)(s t:ByteArray)(W:World):(do eqGuard .neq 9 x y (.string s) (.string t);binOp .neq 9 (.string s) (.string t):Sem Value).run prog W=.ok (.bool (!(s.toList==t.toList))) W:=rfl
theorem Vk{P:Program}{s:Sem Value}{W:World}{a b:Bool}(h:s.run P W=.ok (.bool a) W)(e:a=b):s.run P W=.ok (.bool b) W:=by rw[←e];exact h
theorem wu{s:List UInt8}{v:Bool}{n:Nat}{k:Int}(h:tb s v n k)(hs:s.length≤100000000)(w:World)(HL:eF w):Calls prog 16 #[.string ⟨s.toArray⟩] w (Rn w (.tuple #[.agg (dt v n k).toArray,.int .i64 0])):=by
 refine(LZ s hs w HL).mono ?_;rintro e w' ⟨v',n',k',er,rfl,hC,hh⟩;rcases hh with⟨rfl,_,hu⟩ | ⟨_,_,_,_,hu⟩
 ·obtain⟨rfl,rfl,rfl⟩:=hu _ _ _ h
  exact⟨rfl,hC⟩
 ·exact absurd h (hu _ _ _)
theorem PR{s:List UInt8}(h:∀v n k,¬tb s v n k)(hs:s.length≤100000000)(w:World)(HL:eF w):Calls prog 16 #[.string ⟨s.toArray⟩] w (Rn w (.tuple #[.agg (dt false 0 0).toArray,.int .i64 151])):=by
 refine(LZ s hs w HL).mono ?_;rintro e w' ⟨v',n',k',er,rfl,hC,hh⟩;rcases hh with⟨rfl,hp,_⟩ | ⟨rfl,rfl,rfl,rfl,_⟩
 ·exact absurd hp (h _ _ _)
 ·exact⟨rfl,hC⟩
theorem IA{v:Bool}{n:Nat}{k:Int}(h1:k≤wid v):(iX v n k).length≤100000000:=by have h2:=fG v;have h3:=tp v n;have h4:=gh (u:=k.toNat) (by omega);unfold iX;simp only[XB,Xz];omega
set_option maxRecDepth 100000
open Go.RowKit Go.Lib Go.Sort _root_.Go.Proofs.Tryz
set_option maxRecDepth 100000
theorem sd(x y:Operand)(s t:List UInt8)(W:World):(do eqGuard .neq 9 x y (.string ⟨s.toArray⟩) (.string ⟨t.toArray⟩);binOp .neq 9 (.string ⟨s.toArray⟩) (.string ⟨t.toArray⟩):Sem Value).run prog W=.ok (.bool (decide (s≠t))) W:=by
 refine Vk (TU x y _ _ W) ?_;have e:∀l:List UInt8,(⟨l.toArray⟩:ByteArray).toList=l:=fun l=>by simp
 rw[e,e];by_cases h:s=t<;>simp[h]
theorem K4(g:Nat)(A:Option Go.Addr)(n c:Nat)(s:List UInt8)(w:World)(hb:aw w g 154 (ee A n c n))(PP:List PanicEntry→World→Prop):Calls prog 152 #[.pointer (some ⟨g,0,none⟩),.string ⟨s.toArray⟩] w (Sx.iP ⟨w,[g],PP⟩ (VX g (.bool false) (ee A n c n))):=by have c14:Xy ((n:Int)==(n:Int))=.bool true:=rY (by simp);have h0:Sx.gV.val (Xy false)=.val (.bool false):=rfl;have z1:[(g,154,ee A n c n)]=[(g,154,ee A n c n)]:=rfl;refine Sx.il (args:=[.ptr 0 0,.val (.string ⟨s.toArray⟩)]) [(g,154,ee A n c n)] (by simpa using hb) (by simp) PP [ao 14 true] [] (by kernel_rfl) func152 rfl (bN rfl) rfl ?_;exact XG (by kernel_rfl) (Sx.t2 c14 h0 z1)
theorem Pb(g:Nat)(A:Option Go.Addr)(n c i:Nat)(ws:List (List UInt8))(x s:List UInt8)(hn:n≤1100000)(w:World)(hb:aw w g 154 (ee A n c i))(hw:BO w [g] A n ws)(hx:ws[i]?=some x)(hs:x≠s)(PP:List PanicEntry→World→Prop):Calls prog 152 #[.pointer (some ⟨g,0,none⟩),.string ⟨s.toArray⟩] w (Sx.iP ⟨w,[g],PP⟩ (VX g (.bool false) (ee A n c (i)))):=by
 have hi:i < n:=by rw[←hw.len];exact(XF.1 hx).1
 obtain⟨p,hp1,hp2⟩:=hw.at (c:=c) hx;have c14:Xy ((i:Int)==(n:Int))=.bool false:=qQ (by rw[beq_eq_false_iff_ne];omega);have c24:=fun W (_:ai [g] w W)=>hp1 W;have c25:=hp2;have c27:=fun W=>(sd (.tmp 25) (.tmp 26) x s W).trans (by rw[decide_eq_true hs]);have c33:=mW (i:=i) (by omega);have h0:Sx.gV.val (Xy false)=.val (.bool false):=rfl;have z1:[(g,154,ee A n c (i))]=[(g,154,ee A n c (i))]:=rfl;refine Sx.il (args:=[.ptr 0 0,.val (.string ⟨s.toArray⟩)]) [(g,154,ee A n c i)] (by simpa using hb) (by simp) PP [ao 14 false,(24,.any p),(25,.any (.string ⟨x.toArray⟩)),(27,.bin (.bool true)),cO 33 (i+1)] [] (by kernel_rfl) func152 rfl (bN rfl) rfl ?_;exact XG (by kernel_rfl) (Sx.t4 c14 c24 c25 c27 (XE h0 z1))
theorem K0(g:Nat)(A:Option Go.Addr)(n c i:Nat)(ws:List (List UInt8))(x s:List UInt8)(hn:n≤1100000)(w:World)(hb:aw w g 154 (ee A n c i))(hw:BO w [g] A n ws)(hx:ws[i]?=some x)(hs:x=s)(PP:List PanicEntry→World→Prop):Calls prog 152 #[.pointer (some ⟨g,0,none⟩),.string ⟨s.toArray⟩] w (Sx.iP ⟨w,[g],PP⟩ (VX g (.bool true) (ee A n c (i+1)))):=by
 have hi:i < n:=by rw[←hw.len];exact(XF.1 hx).1
 obtain⟨p,hp1,hp2⟩:=hw.at (c:=c) hx;have c14:Xy ((i:Int)==(n:Int))=.bool false:=qQ (by rw[beq_eq_false_iff_ne];omega);have c24:=fun W (_:ai [g] w W)=>hp1 W;have c25:=hp2;have c27:=fun W=>(sd (.tmp 25) (.tmp 26) x s W).trans (by rw[decide_eq_false (fun h=>h hs)]);have c33:=mW (i:=i) (by omega);have h0:Sx.gV.val (Xy true)=.val (.bool true):=rfl;have z1:[(g,154,ee A n c (i+1))]=[(g,154,ee A n c (i+1))]:=rfl;refine Sx.il (args:=[.ptr 0 0,.val (.string ⟨s.toArray⟩)]) [(g,154,ee A n c i)] (by simpa using hb) (by simp) PP [ao 14 false,(24,.any p),(25,.any (.string ⟨x.toArray⟩)),(27,.bin (.bool false)),cO 33 (i+1)] [] (by kernel_rfl) func152 rfl (bN rfl) rfl ?_;exact XG (by kernel_rfl) (Sx.t4 c14 c24 c25 c27 (Sx.t2 c33 h0 z1))
open Go.RowKit Go.Lib Go.Sort _root_.Go.Proofs.Tryz
def cj{α:Type}(g:Nat)(A:Option Go.Addr)(n c:Nat)(V:α→Value)(r:Out α)(w:World)(e:Ending)(w':World):Prop:=
 (∃a i,r=.ok a i∧i≤n∧e=.returned (V a)∧aw w' g 154 (ee A n c i)∧ai [g] w w')∨
 (∃code p chain,r=.no code p∧e=.panicked chain∧EB code p w chain w'∧ai [g] w w')
def pW{α:Type}(r:Out α)(w:World)(chain:List PanicEntry)(w':World):Prop:=∃code p:Nat,r=.no code p∧EB code p w chain w'
def EA{α:Type}(g:Nat)(A:Option Go.Addr)(n c:Nat)(V:α→Value)(r:Out α)(u:Sx.gV)(gl:List (Nat×TypeId×List Value)):Prop:=∃a i,r=.ok a i∧i≤n∧u=.val (V a)∧gl=[(g,154,ee A n c i)]
theorem cj.wV{α:Type}{g:Nat}{A:Option Go.Addr}{n c:Nat}{V:α→Value}{r:Out α}{w:World}{e:Ending}{w':World}(h:Sx.iP ⟨w,[g],pW r w⟩ (EA g A n c V r) e w'):cj g A n c V r w e w':=by
 rcases h with⟨u,gl,⟨a,i,h1,hi,h2,h3⟩,hp,hb⟩ | ⟨chain,he,⟨code,p,h1,hf⟩,hc⟩
 ·subst h2 h3
  exact .inl ⟨a,i,h1,hi,hp.1,hb (g,154,ee A n c i) (by simp),hp.2⟩
 ·exact .inr ⟨code,p,chain,h1,he,hf,hc⟩
theorem gx{α:Type}{P:Program}{w:World}{f:FuncId}{fn:Func}{co:Code}{g:Nat}{A:Option Go.Addr}{n c i:Nat}{V:α→Value}{r:Out α}(rest:List Value)(hb:aw w g 154 (ee A n c i))(H:List (Nat×Sx.Hint))(L:List Sx.Loop)
  (hm:P.follows .mixedOrders=true) (hf:P.funcs[f]?=some fn) (hbd:fn.body=some co) (hn:(rest.length+1)≤fn.ntmps)
  (hx:Sx.lN P fn.ntmps ⟨w,[g],pW r w⟩ co H L ⟨Sx.lR 0 (.ptr 0 0::rest.map .val),Sx.qK [(g,154,ee A n c i)]⟩ (Sx.rS P fn (EA g A n c V r))) :
  Calls P f (.pointer (some ⟨g,0,none⟩)::rest).toArray w (cj g A n c V r w):=by
 have h:=Sx.il (args:=.ptr 0 0::rest.map .val) [(g,154,ee A n c i)] (by simpa using hb) (by simp) (pW r w) H L hm hf hbd (by simpa using hn) (by
  have:∀l:List Value,Sx.fM (Sx.T0 1) (l.map .val)=true:=fun l=>by
   induction l with
   |nil=>rfl
   |cons x l ih=>exact ih
  exact this rest) hx
 have e:(Sx.SV.ptr 0 0::rest.map .val).map (Sx.SV.den (Sx.xZ [(g,154,ee A n c i)]))=.pointer (some ⟨g,0,none⟩)::rest:=by rw[X9,Yb];have:(Sx.SV.den (Sx.xZ [(g,154,ee A n c i)]) ∘ Sx.SV.val)=id:=rfl;rw[this,Yc];rfl
 rw[e]at h;exact h.mono fun _ _=>cj.wV
theorem A8{α:Type} [Inhabited α]{P:Program}{b:Sx.bu}{β:Sx.Env}{W:World}{row:Nat→Option Sx.Row}{m k f g n c i:Nat}{A:Option Go.Addr}{V:α→Value}{r:Out α}{iT:List Nat}(rest:List Value)
  (hS:Sx.fD b β W row iT) (hk:k∈iT) (hrow:row k=some ⟨154,.dG g (ee A n c i)⟩)
  (h:aw W g 154 (ee A n c i)→Calls P f (.pointer (some ⟨g,0,none⟩)::rest).toArray W (cj g A n c V r W))
  (hP:∀(code p:Nat) chain w',r=.no code p→EB code p W chain w'→b.PP chain w') :
  Calls P f ((Sx.SV.ptr k 0::rest.map .val).map (Sx.SV.den β)).toArray W (Sx.bK b β W row m ⟨iT,[(k,⟨154,.dG g (ee A n c r.pos)⟩)],[],[],.val (V r.val),some (r.okB=true∧r.pos≤n)⟩):=by
 have hh:=hS.held k hk _ hrow;have hg:β k=g:=hh.1;have hB:aw W g 154 (ee A n c i):=hg ▸ hh.2;have e:(Sx.SV.ptr k 0::rest.map .val).map (Sx.SV.den β)=.pointer (some ⟨g,0,none⟩)::rest:=by rw[X9,Yb];have:(Sx.SV.den β ∘ Sx.SV.val)=id:=rfl;rw[this,Yc];show Value.pointer (some ⟨β k,0,none⟩)::rest=_;rw[hg]
 have ht:([k]:List Nat).filterMap (Sx.cQ β row)=[g]:=by
  have:Sx.cQ β row k=some g:=by unfold Sx.cQ;rw[hrow];exact congrArg some hg
  simp[this]
 rw[e];refine(h hB).mono fun e w' hp=>?_;rcases hp with⟨a,j,rfl,hj,he,hb,hc⟩ | ⟨code,p,chain,rfl,he,hf,hc⟩
 ·refine .inl ⟨fun p hp=>by cases hp;exact⟨rfl,hj⟩,β,Sx.ep (v:=V a) rfl rfl he (fun q hq=>?_) ?_⟩
  ·have:q=(k,⟨154,.dG g (ee A n c j)⟩):=X0.1 hq
   subst this;exact⟨hg,by show aw w' (β k) 154 _;rw[hg];exact hb⟩
  ·show ai (([k]++[]).filterMap (Sx.cQ β row)) W w'
   rw[X3,ht];exact hc
 ·refine .inr ⟨rfl,chain,he,hP code p chain w' rfl hf,?_⟩
  show ai (([k]++[]).filterMap (Sx.cQ β row)) W w';rw[X3,ht];exact hc
structure eY(w:World)(g:Nat)(A:Option Go.Addr)(n c i:Nat)(ws:List Bs):Prop where
 cw:aw w g 154 (ee A n c i)
 jq:BO w [g] A n ws
 le:i≤n
 bd:n≤1100000
 yA:eF w
 g9:9≤g
 sz:∀x∈ws,x.length≤100000000
def ae(x:Bs):Value:=.string ⟨x.toArray⟩
theorem pg{w:World}{g:Nat}{A:Option Go.Addr}{n c i:Nat}{ws:List Bs}(h:eY w g A n c i ws):Calls prog 154 #[(pt g 0)] w (cj g A n c ae (aV ws i) w):=by
 have hlen:=h.jq.len;cases hx:ws[i]? with
 |some x=>
  have hr:aV ws i=.ok x (i+1):=by unfold aV;rw[hx]
  have hi:i < n:=by rw[←hlen];exact(XF.1 hx).1
  refine(MB g A n c i ws x h.bd w h.cw h.jq hx (pW (aV ws i) w)).mono fun e w' hp=>cj.wV ?_;rcases hp with⟨u,gl,⟨h1,h2⟩,hp⟩ | hp
  ·exact .inl ⟨u,gl,⟨x,i+1,hr,hi,h1,h2⟩,hp⟩
  ·exact .inr hp
 |none=>
  have hi:i=n:=by have:=XS.1 hx;have:=h.le;omega
  have hr:aV ws i=.no 200 (i+1):=by unfold aV;rw[hx]
  subst hi;refine(Qs g A i c h.bd w h.cw).mono fun e w' hp=>cj.wV ?_;rcases hp with⟨_,_,hf,_⟩ | ⟨chain,he,hf,hc⟩
  ·exact hf.elim
  ·exact .inr ⟨chain,he,⟨200,i+1,hr,hf⟩,hc⟩
theorem lX{w:World}{g:Nat}{A:Option Go.Addr}{n c i:Nat}{ws:List Bs}(s:Bs)(h:eY w g A n c i ws):Calls prog 152 #[.pointer (some ⟨g,0,none⟩),ae s] w (cj g A n c (fun b=>.bool b) (dm ws i s) w):=by
 have hlen:=h.jq.len;have up:∀{b:Bool} {j:Nat},dm ws i s=.ok b j→j≤n→∀{e w'},Sx.iP ⟨w,[g],pW (dm ws i s) w⟩ (VX g (.bool b) (ee A n c j)) e w'→cj g A n c (fun b=>.bool b) (dm ws i s) w e w':=by
  intro b j hr hj e w' hp;refine cj.wV ?_;rcases hp with⟨u,gl,⟨h1,h2⟩,hp⟩ | hp
  ·exact .inl ⟨u,gl,⟨b,j,hr,hj,h1,h2⟩,hp⟩
  ·exact .inr hp
 cases hx:ws[i]? with
 |some x=>
  have hi:i < n:=by rw[←hlen];exact(XF.1 hx).1
  by_cases hs:x=s
  ·exact(K0 g A n c i ws x s h.bd w h.cw h.jq hx hs _).mono fun e w'=>up (by unfold dm;rw[hx,hs,if_pos rfl]) hi
  ·exact(Pb g A n c i ws x s h.bd w h.cw h.jq hx hs _).mono fun e w'=>up (by unfold dm;rw[hx,if_neg (by simpa using hs)]) h.le
 |none=>
  have hi:i=n:=by have:=XS.1 hx;have:=h.le;omega
  subst hi;exact(K4 g A i c s w h.cw _).mono fun e w'=>up (by unfold dm;rw[hx,if_neg (by simp)]) (XR _)
theorem oD{α:Type}{w:World}{g:Nat}{A:Option Go.Addr}{n c i:Nat}{ws:List Bs}(b:Bool)(code:Nat)(a:α)(h:eY w g A n c i ws):Calls prog 191 #[.pointer (some ⟨g,0,none⟩),.bool b,.int .i64 (code:Int)] w (cj g A n c (fun _=>.tuple #[]) (aY b code a i) w):=by
 cases b with
 |true=>exact(KR _ _ w).mono fun e w' ⟨he,hc⟩=>.inl ⟨a,i,rfl,h.le,he,h.cw.aJ hc (by simp),hc.mono (by simp)⟩
 |false=>
  refine(O6 g (.slice A n c) i code w h.cw).mono fun e w' hp=>cj.wV ?_;rcases hp with⟨_,_,hf,_⟩ | ⟨chain,he,hf,hc⟩
  ·exact hf.elim
  ·exact .inr ⟨chain,he,⟨code,i,rfl,hf⟩,hc⟩
theorem eY.at{w W:World}{g:Nat}{A:Option Go.Addr}{n c i j:Nat}{ws:List Bs}(h:eY w g A n c i ws)(hc:ai [g] w W)(hj:j≤n)(hb:aw W g 154 (ee A n c j)):eY W g A n c j ws:=⟨hb,h.jq.aJ hc,hj,h.bd,h.yA.aJ hc (by simpa using h.g9),h.g9,h.sz⟩
theorem eY.Dl{w W:World}{g:Nat}{A:Option Go.Addr}{n c i:Nat}{ws:List Bs}(h:eY w g A n c i ws)(hc:ai [g] w W):eF W:=h.yA.aJ hc (by simpa using h.g9)
theorem eY.len{w:World}{g:Nat}{A:Option Go.Addr}{n c i:Nat}{ws:List Bs}(h:eY w g A n c i ws):ws.length=n:=h.jq.len
theorem w9{ws:List Bs}{i:Nat}(h:∀x∈ws,x.length≤100000000):((aV ws i).val).length≤100000000:=by
 unfold aV;cases hx:ws[i]? with
 |some x=>exact h x (List.mem_of_getElem? hx)
 |none=>exact XJ _
theorem cU{α β:Type}{T:Out β}{r:Out α}{f:α→Nat→Out β}(e:T=r.bind f):∀code p,r=.no code p→T=.no code p:=fun code p h=>by rw[e,h];rfl
theorem cL{α β:Type} [Inhabited α]{T:Out β}{r:Out α}{f:α→Nat→Out β}(e:T=r.bind f)(h:r.okB=true):T=f r.val r.pos:=by
 rw[e];cases r with
 |ok a i=>rfl
 |no c p=>cases h
theorem zD{α:Type}{T r:Out α}(e:T=r):∀code p,r=.no code p→T=.no code p:=fun code p h=>by rw[e,h]
def iq{α:Type} [Inhabited α](k g:Nat)(A:Option Go.Addr)(n c:Nat)(r:Out α)(V:α→Value):Sx.cS:=⟨[k],[(k,⟨154,.dG g (ee A n c r.pos)⟩)],[],[],.val (V r.val),some (r.okB=true∧r.pos≤n)⟩
theorem mV{α γ:Type} [Inhabited α]{P:Program}{w:World}{f g n c i j:Nat}{A:Option Go.Addr}{V:α→Value}{r:Out α}{T:Out γ}{ws:List Bs}(rest:List Value)(h0:eY w g A n c i ws)(hj:j≤n)(hT:∀code p,r=.no code p→T=.no code p)
  (h:∀W,eY W g A n c j ws→Calls P f (.pointer (some ⟨g,0,none⟩)::rest).toArray W (cj g A n c V r W)) (W:World) (β:Sx.Env) (hS:Sx.fD ⟨w,[g],pW T w⟩ β W (Sx.rowAt (Sx.qK [(g,154,ee A n c j)])) [0]) :
  Calls P f ((Sx.SV.ptr 0 0::rest.map .val).map (Sx.SV.den β)).toArray W (Sx.bK ⟨w,[g],pW T w⟩ β W (Sx.rowAt (Sx.qK [(g,154,ee A n c j)])) 1 (iq 0 g A n c r V)):=
 A8 rest hS (by simp) rfl (fun hB=>h W (h0.at hS.aJ hj hB)) fun code p chain w' hr hf=>⟨code,p,hT code p hr,hf.up hS.aJ.size⟩
theorem nO{α γ:Type} [Inhabited α]{P:Program}{w:World}{f g n c i j:Nat}{A:Option Go.Addr}{V:α→Value}{r:Out α}{T:Out γ}{ws:List Bs}(ms:List Sx.Row)(rest:List Value)(h0:eY w g A n c i ws)(hj:j≤n)(hT:∀code p,r=.no code p→T=.no code p)
  (h:∀W,eY W g A n c j ws→Calls P f (.pointer (some ⟨g,0,none⟩)::rest).toArray W (cj g A n c V r W)) (W:World) (β:Sx.Env) (hS:Sx.fD ⟨w,[g],pW T w⟩ β W (Sx.rowAt (⟨154,.dG g (ee A n c j)⟩::ms)) [0]) :
  Calls P f ((Sx.SV.ptr 0 0::rest.map .val).map (Sx.SV.den β)).toArray W (Sx.bK ⟨w,[g],pW T w⟩ β W (Sx.rowAt (⟨154,.dG g (ee A n c j)⟩::ms)) (ms.length+1) (iq 0 g A n c r V)):=
 A8 rest hS (by simp) rfl (fun hB=>h W (h0.at hS.aJ hj hB)) fun code p chain w' hr hf=>⟨code,p,hT code p hr,hf.up hS.aJ.size⟩
set_option maxRecDepth 100000
open Go.RowKit Go.Lib Go.Sort _root_.Go.Proofs.Tryz
set_option maxRecDepth 100000
def vl(s:Bs):Nat:=match Lib.parseUint10 0 s with
 |.ok u=>u
 |.range=>18446744073709551615
 |_=>0
def wM(s:Bs):Bool:=match s with
 | []=>false
 |_=>match Lib.parseUint10 0 s with
  |.ok _=>true
  |_=>false
theorem zr:∀(l:List UInt8) (acc u:Nat),Lib.parseUint10 acc l=.ok u→l.foldl (fun a c=>10*a+mq c) acc=u
 | [],acc,u,h=>by unfold Lib.parseUint10 at h;injection h
 |c::l,acc,u,h=>by
  unfold Lib.parseUint10 at h;split at h
  ·rename_i hc
   split at h
   ·cases h
   ·split at h
    ·cases h
    ·rw[List.foldl_cons]
     have hd:mq c=c.toNat - 48:=by unfold mq; rw[if_pos (by omega)]
     rw[hd,show 10*acc+(c.toNat - 48)=acc*10+(c.toNat - 48)by omega];exact zr l _ u h
  ·cases h
theorem wL{s:Bs}(h:wM s=true):cZ s=vl s∧cZ s < 18446744073709551616:=by
 unfold wM at h;split at h
 ·cases h
 ·split at h
  ·rename_i u hu
   have:=zr _ _ _ hu;refine⟨?_,?_⟩
   ·unfold cZ vl;rw[this,hu]
   ·unfold cZ;rw[this];exact Lib.parseUint10_lt _ 0 u (by omega) hu
  ·cases h
theorem wX{most:Nat}(hm:most < 18446744073709551616){s:Bs}(h:aS most s=true):wM s=true:=by
 unfold aS at h;rw[XL,decide_eq_true_iff,decide_eq_true_iff]at h;have hp:=CJ (cZ s) (by omega);rw[h.2]at hp;unfold wM;split
 ·rename_i h1
  exact absurd h.2 (jz _)
 ·rw[hp]
theorem CP{most:Nat}{s:Bs}(h:wM s=true):aS most s=(decide (vl s≤most)&&(aq 10 (vl s)==s)):=by unfold aS;rw[(wL h).1];congr 1;by_cases h2:aq 10 (vl s)=s<;>simp[h2]
theorem Mz{most:Nat}(hm:most < 18446744073709551616){s:Bs}(h:wM s=false):aS most s=false:=by
 cases hn:aS most s with
 |false=>rfl
 |true=>rw[wX hm hn]at h;cases h
theorem SY(s:Bs):vl s < 18446744073709551616:=by
 unfold vl;split
 ·rename_i u hu;exact Lib.parseUint10_lt _ 0 u (by omega) hu
 ·omega
 ·omega
def OB(t:ByteArray)(w:World)(e:Ending)(w':World):Prop:=
 ∃er:Value,e=.returned (.tuple #[.int .u64 (vl t.data.toList:Nat),er])∧ai [] w w'∧((wM t.data.toList=true∧er=.nilIface)∨(wM t.data.toList=false∧(er=.iface 270 (.int .i64 2)∨er=.iface 270 (.int .i64 1))))
theorem U6(t:ByteArray)(hmax:t.size≤281474976710656)(w:World):Calls prog 163 #[.string t,.int .i64 10,.int .i64 64] w (OB t w):=by
 by_cases h0:t.size=0
 ·have ht:t=⟨#[]⟩:=by
   obtain⟨⟨l⟩⟩:=t;cases l with
   |nil=>rfl
   |cons _ _=>simp[ByteArray.size]at h0
  subst ht;refine(Tryz.internal_strconv_ParseUint_empty 10 64 w).mono ?_;rintro e w' ⟨rfl,rfl⟩;exact⟨_,rfl,ai.refl _ _,.inr ⟨rfl,.inl rfl⟩⟩
 ·refine(Tryz.internal_strconv_ParseUint_10_b64 t h0 (by omega) w).mono ?_
  rintro e w' ⟨rfl,rfl⟩;have hC:=uc w t;have hne:∃c l,t.data.toList=c::l:=by
   obtain⟨⟨l⟩⟩:=t;cases l with
   |nil=>simp[ByteArray.size]at h0
   |cons c l=>exact⟨c,l,rfl⟩
  obtain⟨c,l,hcl⟩:=hne;unfold OB vl wM;rw[hcl];rcases h:Lib.parseUint10 0 (c::l)with u|_|_
  ·exact⟨.nilIface,rfl,hC,.inl ⟨rfl,rfl⟩⟩
  ·exact⟨_,rfl,hC,.inr ⟨rfl,.inl rfl⟩⟩
  ·exact⟨_,rfl,hC,.inr ⟨rfl,.inr rfl⟩⟩
def Uc(t:ByteArray)(w:World)(e:Ending)(w':World):Prop:=
 ∃(v:Nat) (er:Value),e=.returned (.tuple #[.int .u64 v,er])∧v=vl t.data.toList∧ai [] w w'∧((wM t.data.toList=true∧er=.nilIface)∨(wM t.data.toList=false∧∃N,er=.iface 272 ((pt N 0))))
set_option maxHeartbeats 4000000 in
theorem U7(t:ByteArray)(hmax:t.size≤281474976710656)(w:World)(hl:eF w):Calls prog 106 #[.string t,.int .i64 10,.int .i64 64] w (Uc t w):=by
 have HP:=hid (U6 t hmax w);have HX:=hid hmax;clear hmax;go_enter func106,ntmps106
 go_wp2_with (go_at_call 163;refine HP.out.mono ?_)
 rintro e w2 ⟨er,rfl,C2,he⟩;obtain⟨v,hv⟩:∃v,v=vl t.data.toList:=⟨_,rfl⟩;rw[←hv];have HV:=hid hv;have HL:=hid (hl.dO C2);clear HP hv;rcases he with⟨hk,rfl⟩ | ⟨hk,rfl|rfl⟩
 ·have HK:=hid hk
  clear hk;go_wp2
  go_ret2
  exact⟨v,.nilIface,rfl,HV.out,C2,.inl ⟨HK.out,rfl⟩⟩
 ·have HK:=hid hk
  clear hk;obtain⟨ev,hev,hk⟩:=HL.out.e1;have HE:=hid hev;have HI:=hid hk;clear hev hk;go_wp2_with (go_at_call 164;refine(Tryz.strconv_toError_syntax _ _ _ _ ev _ HX.out HE.out HI.out).mono ?_;rintro e w3 ⟨N,rfl,hN,hN2,B3⟩)
  go_ret2
  exact⟨v,_,rfl,HV.out,C2.trans (ai.dZ B3),.inr ⟨HK.out,N,rfl⟩⟩
 ·have HK:=hid hk
  clear hk;obtain⟨ev,hev,hk⟩:=HL.out.e2;have HE:=hid hev;have HI:=hid hk;clear hev hk;go_wp2_with (go_at_call 164;refine(Tryz.strconv_toError_range _ _ _ _ ev _ HX.out HE.out HI.out).mono ?_;rintro e w3 ⟨N,rfl,hN,hN2,B3⟩)
  go_ret2
  exact⟨v,_,rfl,HV.out,C2.trans (ai.dZ B3),.inr ⟨HK.out,N,rfl⟩⟩
set_option maxHeartbeats 4000000 in
theorem Fo(most:Nat)(hm:most < 18446744073709551616)(s:Bs)(hmax:s.length≤281474976710656)(w:World)(hl:eF w):Calls prog 232 #[.string ⟨s.toArray⟩,.int .u64 most] w fun e w'=>∃(v:Nat) (ok:Bool),e=.returned (.tuple #[.int .u64 v,.bool ok])∧v=vl s∧ok=aS most s∧ai [] w w':=by
 obtain⟨t,ht⟩:∃t:ByteArray,t=⟨s.toArray⟩:=⟨_,rfl⟩;have hts:t.data.toList=s:=by rw[ht]
 rw[←ht];have HP:=hid (U7 t (by rw[ht];exact hmax) w hl);have HF:=hid (fun(n:Nat) (hn:n < 18446744073709551616) (W:World) (hW:eF W)=>H9 n hn W hW);have HM:=hid hm;have HT:=hid hts;have HL0:=hid hl;clear hmax hm hts ht hl;go_enter func232,ntmps232
 go_wp2_with (go_at_call 106;refine HP.out.mono ?_)
 rintro e w2 ⟨v,er,rfl,hv,C2,he⟩;rw[HT.out]at he hv;have HV:=hid hv;have HL:=hid (HL0.out.dO C2);clear HP hv;rcases he with⟨hk,rfl⟩ | ⟨hk,N,rfl⟩
 ·have HK:=hid hk
  clear hk;by_cases hle:v≤most
  ·have HF2:=hid (HF.out v (by rw[HV.out];exact SY s) w2 HL.out)
   have HLE:=hid hle;have hle':decide ((v:Int)≤(most:Int))=true:=decide_eq_true (by omega);clear hle;go_wp2_with (go_at_call 73;refine HF2.out.mono ?_;rintro e w3 ⟨rfl,C3⟩)
   go_ret2
   refine⟨v,_,rfl,HV.out,?_,C2.trans C3⟩;rw[CP HK.out,←HV.out,decide_eq_true HLE.out,XW,←HT.out,ByteArray.toList_eq]
  ·have hle':decide ((v:Int)≤(most:Int))=false:=decide_eq_false (by omega)
   have HLE:=hid hle;clear hle;go_wp2
   go_ret2
   refine⟨v,false,rfl,HV.out,?_,C2⟩;rw[CP HK.out,←HV.out,decide_eq_false HLE.out,Bool.false_and]
 ·have HK:=hid hk
  clear hk;go_wp2
  go_ret2
  exact⟨v,false,rfl,HV.out,(Mz HM.out HK.out).symm,C2⟩
theorem rn(most:Nat)(hm:most < 18446744073709551616)(s:Bs)(hmax:s.length≤281474976710656)(w:World)(hl:eF w):Calls prog 232 #[.string ⟨s.toArray⟩,.int .u64 most] w (Rn w (.tuple #[.int .u64 (vl s:Nat),.bool (aS most s)])):=
 (Fo most hm s hmax w hl).mono fun _ _ ⟨_,_,he,hv,ho,hc⟩=>⟨by rw[he,hv,ho],hc⟩
end Go.Proofs.YtnncigmpcdehnaaGreatDoor
