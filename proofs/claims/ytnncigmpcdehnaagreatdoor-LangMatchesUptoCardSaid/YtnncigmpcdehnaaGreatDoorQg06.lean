import Derived.Test.YtnncigmpcdehnaaGreatDoorQg03
import Derived.Test.YtnncigmpcdehnaaGreatDoorQg05
import Derived.Lib.OthersKept
import Derived.Laws.RangeAny
import Derived.Deep.CutRange
open Go.Value renaming bool→WN,int→WS,tuple→W0,string→W6
open List renaming getElem?_eq_some_iff→WO,length_cons→WQ,length_append→WT,length_nil→WV,getElem?_eq_getElem→WX,getElem?_eq_none_iff→Xa,range→Xc,length_singleton→Xf,mem_singleton→Xi,getElem?_drop→Xj,append_nil→Xl,mem_range→Xo,map_cons→Xr,map_map→Xt,map_id→Xu,take→Xy,drop→Xz
open Go.IntKind renaming i64→WR,u8→Xg
open And renaming intro→WU
open Eq renaming mp→WW
open Nat renaming eq_of_beq_eq_true→WY,zero_le→W2,le_refl→W3,beq→W4,lt_of_lt_of_le→W5,div_le_div_left→Xh,strongRecOn→Xm,div_lt_self→Xn,mul_one→Xw
open Bool renaming and_eq_true→WZ,eq_iff_iff→W9,true_and→Xe
open Int renaming toNat_natCast→W7,tmod_eq_emod_of_nonneg→Xb
open Go.Sem renaming run_bind→W8
open Go.Instr renaming sliceAt→Xd,indexAt→Xp,loadAt→Xs,next→Xv
namespace Go.Proofs.YtnncigmpcdehnaaGreatDoor
open Go.RowKit Go.Lib Go.Sort
def Gs(i:Nat)(c:UInt8):Bool:=(decide (97≤c.toNat)&&decide (c.toNat≤122))||(decide (0 < i)&&(decide (48≤c.toNat)&&decide (c.toNat≤57)||decide (c.toNat=45)||decide (c.toNat=95)))
def aS(l:List UInt8):Bool:=decide (1≤l.length)&&decide (l.length≤16)&&(Xc l.length).all fun i=>Gs i (l[i]?.getD 0)
theorem lQ{l:List UInt8}{i:Nat}{c:UInt8}(h:l[i]?=some c)(hc:Gs i c=false):aS l=false:=by have hlt:i < l.length:=(WO.1 h).1;unfold aS;rw[Bool.and_eq_false_iff];right;rw[List.all_eq_false];exact⟨i,Xo.2 hlt,by rw[h];simpa using hc⟩
theorem IN{l:List UInt8}(h1:1≤l.length)(h2:l.length≤16)(h:∀i c,l[i]?=some c→Gs i c=true):aS l=true:=by unfold aS;rw[decide_eq_true h1,decide_eq_true h2,Xe,Xe,List.all_eq_true];intro i hi;have hlt:=Xo.1 hi;rw[WX hlt];exact h i _ (WX hlt)
theorem Pb{i:Nat}{c:UInt8}{x:Int}(hx:x=(c.toNat:Int))(h1:97≤x)(h2:x≤122):Gs i c=true:=by unfold Gs;rw[decide_eq_true (show 97≤c.toNat by omega),decide_eq_true (show c.toNat≤122 by omega)];rfl
theorem zZ{i:Nat}{c:UInt8}{x:Int}(hx:x=(c.toNat:Int))(hi:0 < i)(h:(48≤x∧x≤57)∨x=45∨x=95):Gs i c=true:=by
 unfold Gs;rw[decide_eq_true hi];rcases h with⟨h1,h2⟩ | h|h
 ·rw[decide_eq_true (show 48≤c.toNat by omega),decide_eq_true (show c.toNat≤57 by omega)];simp
 ·rw[decide_eq_true (show c.toNat=45 by omega)];simp
 ·rw[decide_eq_true (show c.toNat=95 by omega)];simp
theorem yz{i:Nat}{c:UInt8}{x:Int}(hx:x=(c.toNat:Int))(h1:¬(97≤x∧x≤122))(h2:¬(0 < i∧((48≤x∧x≤57)∨x=45∨x=95))):Gs i c=false:=by unfold Gs;apply Bool.eq_false_iff.2;intro h;simp only[Bool.or_eq_true,WZ,decide_eq_true_eq]at h;omega
theorem Om(s:ByteArray)(pos:Nat)(h:pos < s.size):((s[pos]'h).toNat < 128∧Utf8.decode s pos=((s[pos]'h).toNat,1))∨(128≤(s[pos]'h).toNat∧128≤(Utf8.decode s pos).1):=by
 by_cases ha:(s[pos]'h).toNat < 128
 ·exact .inl ⟨ha,decode_ascii s pos h ha⟩
 ·exact .inr ⟨by omega,(decode_high s pos h (by omega)).1⟩
open Go.RowKit Go.Lib Go.Sort
def cy(b:Bool)(X T:Prop):Prop:=match b with
 |true=>T
 |false=>X∧T
theorem cy.mk{b:Bool}{X T:Prop}(hx:b=false→X)(ht:T):cy b X T:=by
 cases b
 ·exact⟨hx rfl,ht⟩
 ·exact ht
def kz(b:Bool)(X Y:Prop):Prop:=match b with
 |true=>X
 |false=>Y
theorem kz.mk{b:Bool}{X Y:Prop}(hx:b=true→X)(hy:b=false→Y):kz b X Y:=by
 cases b
 ·exact hy rfl
 ·exact hx rfl
abbrev Bs:=List UInt8
inductive Out (α:Type) where
 |ok (a:α) (i:Nat)
 |no (code:Nat) (place:Nat)
def Out.bind{α β:Type}(r:Out α)(f:α→Nat→Out β):Out β:=match r with
 |.ok a i=>f a i
 |.no c p=>.no c p
def Out.okB{α:Type}:Out α→Bool
 |.ok _ _=>true
 |.no _ _=>false
def Out.val{α:Type} [Inhabited α]:Out α→α
 |.ok a _=>a
 |.no _ _=>default
def Out.pos{α:Type}:Out α→Nat
 |.ok _ i=>i
 |.no _ p=>p
theorem Out.BS{α:Type} [Inhabited α]{r:Out α}(h:r.okB=true):r=.ok r.val r.pos:=by
 cases r with
 |ok a i=>rfl
 |no c p=>cases h
def gD:Bs:=[97,110,121]
def xN:Bs:=[105,110]
def mW:Bs:=[115,114,99]
def oz:Bs:=[100,115,116]
def fS:Bs:=[112,114,111,116,111]
def iA:Bs:=[115,112,111,114,116]
def jt:Bs:=[100,112,111,114,116]
def js:Bs:=[116,99,112]
def jH:Bs:=[117,100,112]
def dI:Bs:=[114,111,117,116,101]
def nq:Bs:=[100,114,111,112]
def gW:Bs:=[114,101,106,101,99,116]
def qz:Bs:=[111,117,116]
def yF:Bs:=[45,62]
def bY:Bs:=[109,101,116,101,114]
def bu:Bs:=[109,105,114,114,111,114]
def lX:Bs:=[112,111,114,116]
def gV:Bs:=[114,117,108,101]
def bD:Bs:=[100,101,102,97,117,108,116]
structure Px where
 v:Bool
 n:Nat
 k:Int
def nz:Px:=⟨false,0,0⟩
instance:Inhabited Px:=⟨nz⟩
def Px.cells(p:Px):List Value:=cZ p.v p.n p.k
noncomputable def nE(s:Bs):Option Px:=by
 classical
 exact if h:∃p:Px,r7 s p.v p.n p.k then some h.choose else none
def cK(s:Bs):Nat:=s.foldl (fun a c=>10*a+lu c) 0
def aM(most:Nat)(s:Bs):Bool:=decide (cK s≤most)&&decide (an 10 (cK s)=s)
def aO(ws:List Bs)(i:Nat):Out Bs:=match ws[i]? with
 |some x=>.ok x (i+1)
 |none=>.no 200 (i+1)
def cN(ws:List Bs)(i:Nat)(s:Bs):Out Bool:=if ws[i]?=some s then .ok true (i+1)else .ok false i
def aR{α:Type}(b:Bool)(code:Nat)(a:α)(i:Nat):Out α:=match b with
 |true=>.ok a i
 |false=>.no code i
def a6(most:Nat)(ws:List Bs)(i:Nat):Out Nat:=(aO ws i).bind fun x j=>aR (aM most x) 200 (cK x) j
def ja(ws:List Bs)(i:Nat):Out Nat:=a6 9223372036854775807 ws i
def fX(ws:List Bs)(i:Nat):Out Bs:=(aO ws i).bind fun x j=>aR (aS x) 201 x j
noncomputable def dr(ws:List Bs)(i:Nat):Out Px:=(aO ws i).bind fun x j=>aR (nE x).isSome 151 ((nE x).getD nz) j
def cC(x:Bs):Bs×Bs:=match(Lib.cut x [45]).2.2 with
 |true=>((Lib.cut x [45]).1,(Lib.cut x [45]).2.1)
 |false=>((Lib.cut x [45]).1,(Lib.cut x [45]).1)
def ig(ws:List Bs)(i:Nat):Out (Nat×Nat):=(aO ws i).bind fun x j=>aR (aM 65535 (cC x).1&&aM 65535 (cC x).2) 200 (cK (cC x).1,cK (cC x).2) j
def dS(ws:List Bs)(i:Nat):Out Nat:=(cN ws i js).bind fun a j=>match a with
 |true=>.ok 6 j
 |false=>(cN ws j jH).bind fun b k=>match b with
  |true=>.ok 17 k
  |false=>a6 255 ws k
structure Mt where
 asks:Nat
 fE:Nat×Nat
 src:Px
 dst:Px
 bc:Nat
 sp:Nat×Nat
 dp:Nat×Nat
def ei:Mt:=⟨0,(0,0),nz,nz,0,(0,0),(0,0)⟩
instance:Inhabited Mt:=⟨ei⟩
def Mt.cells(m:Mt):List Value:=
 [.int .u8 (m.asks:Int),.int .u16 (m.fE.1:Int),.int .u16 (m.fE.2:Int)]++(m.src.cells++(m.dst.cells++[.int .u8 (m.bc:Int),.int .u16 (m.sp.1:Int),.int .u16 (m.sp.2:Int),.int .u16 (m.dp.1:Int),.int .u16 (m.dp.2:Int)]))
def lq(x:Bs):Option Nat:=
 if x=xN then some 0 else if x=mW then some 1 else if x=oz then some 2 else if x=fS then some 3 else if x=iA then some 4 else if x=jt then some 5 else none
noncomputable def bV(k:Nat)(m:Mt)(ws:List Bs)(i:Nat):Out Mt:=match k with
 | 0=>(ig ws i).bind fun s j=>.ok { m with fE:=s } j
 | 1=>(dr ws i).bind fun s j=>.ok { m with src:=s } j
 | 2=>(dr ws i).bind fun s j=>.ok { m with dst:=s } j
 | 3=>(dS ws i).bind fun s j=>.ok { m with bc:=s } j
 | 4=>(ig ws i).bind fun s j=>.ok { m with sp:=s } j
 |_=>(ig ws i).bind fun s j=>.ok { m with dp:=s } j
noncomputable def aI(ws:List Bs)(i:Nat)(m:Mt):Out (Bool×Mt):=match ws[i]? with
 |none=>.ok (false,m) i
 |some x=>match lq x with
  |none=>.ok (false,m) i
  |some k=>match m.asks.testBit k with
   |true=>.no 200 (i+1)
   |false=>(bV k { m with asks:=m.asks|||2^k } ws (i+1)).bind fun m' j=>.ok (true,m') j
noncomputable def dy(ws:List Bs):Nat→Nat→Mt→Out Mt
 | 0,i,m=>.ok m i
 |f+1,i,m=>(aI ws i m).bind fun r j=>match r.1 with
  |true=>dy ws f j r.2
  |false=>.ok m j
noncomputable def cS(ws:List Bs)(i:Nat):Out Mt:=(cN ws i gD).bind fun a j=>match a with
 |true=>.ok ei j
 |false=>(aI ws j ei).bind fun r k=>match r.1 with
  |true=>dy ws (ws.length+1 - k) k r.2
  |false=>(aO ws k).bind fun _ l=>.no 200 l
def qQ(out:Bool)(ws:List Bs)(i:Nat):Out (Int×Int):=(aO ws i).bind fun x j=>
 if x=dI then .ok (1,0) j else if x=nq then .ok (2,0) j else if x=gW then .ok (4,0) j else
 if x=qz∧out=true then(ja ws j).bind fun n k=>.ok (3,(n:Int)) k else .no 200 j
def gL(s:Nat×Nat):Bool:=decide (s=(0,0))
def DK(p:Px):Bool:=decide (p.v=false∧p.n=0∧p.k=0)
def aY(m:Mt):Bool:=
 (decide (m.asks < 64)&&((m.asks.testBit 0||gL m.fE)&&((m.asks.testBit 1||DK m.src)&&((m.asks.testBit 2||DK m.dst)&&((m.asks.testBit 3||decide (m.bc=0))&&((m.asks.testBit 4||gL m.sp)&&(m.asks.testBit 5||gL m.dp)))))))&&
 ((decide (m.fE.1≤m.fE.2)&&(decide (m.fE.2≤255)&&(decide (m.sp.1≤m.sp.2)&&decide (m.dp.1≤m.dp.2))))&&
 (((!m.asks.testBit 1||fW m.src.v m.src.n m.src.k)&&((!m.asks.testBit 2||fW m.dst.v m.dst.n m.dst.k)&&(!(m.asks.testBit 1&&m.asks.testBit 2)||decide (m.src.v=m.dst.v))))&&
 (!(m.asks.testBit 4||m.asks.testBit 5)||(decide (m.bc=6)||decide (m.bc=17)))))
structure Rl where
 name:Bs
 mt:Mt
 act:Int
 out:Int
 dE:Bs
 cx:Bs
def V8:Rl:=⟨[],ei,0,0,[],[]⟩
instance:Inhabited Rl:=⟨V8⟩
def Rl.cells(r:Rl):List Value:=.string ⟨r.name.toArray⟩::(r.mt.cells++[.int .i64 r.act,.int .i64 r.out,.string ⟨r.dE.toArray⟩,.string ⟨r.cx.toArray⟩])
def qo(s:Bs)(ws:List Bs)(i:Nat):Out Bs:=(cN ws i s).bind fun b j=>match b with
 |true=>fX ws j
 |false=>.ok [] j
def Pf(m:Mt)(ws:List Bs)(i:Nat):Out Unit:=(aO ws i).bind fun x i=>(aR (decide (x=yF)) 200 () i).bind fun _ i=>aR (aY m) 190 () i
noncomputable def pU(ws:List Bs)(i:Nat):Out Rl:=(fX ws i).bind fun nm i=>(cS ws i).bind fun m i=>(Pf m ws i).bind fun _ i=>(qQ true ws i).bind fun a i=>(qo bY ws i).bind fun me i=>(qo bu ws i).bind fun mi i=>.ok ⟨nm,m,a.1,a.2,me,mi⟩ i
structure Rt where
 pf:Px
 out:Int
instance:Inhabited Rt:=⟨⟨nz,0⟩⟩
def Rt.cells(r:Rt):List Value:=r.pf.cells++[.int .i64 r.out]
structure Me where
 name:Bs
 num:Nat
 den:Nat
 rV:Nat
instance:Inhabited Me:=⟨⟨[],0,0,0⟩⟩
def Me.cells(m:Me):List Value:=[.string ⟨m.name.toArray⟩,.int .u64 (m.num:Int),.int .u64 (m.den:Int),.int .u64 (m.rV:Int)]
structure Mi where
 name:Bs
 out:Int
 room:Int
instance:Inhabited Mi:=⟨⟨[],0,0⟩⟩
def Mi.cells(m:Mi):List Value:=[.string ⟨m.name.toArray⟩,.int .i64 m.out,.int .i64 m.room]
structure CF where
 ak:List Int
 af:List Rt
 rules:List Rl
 ag:List Me
 ab:List Mi
 bA:Int
def JM:CF:=⟨[],[],[],[],[],0⟩
instance:Inhabited CF:=⟨JM⟩
noncomputable def gf(x:Bs)(ws:List Bs)(i:Nat)(cf:CF)(d:Nat):Out CF:=
 if x=lX then(ja ws i).bind fun n i=>.ok { cf with ak:=cf.ak++[(n:Int)] } i
 else if x=dI then(dr ws i).bind fun p i=>(ja ws i).bind fun n i=>.ok { cf with af:=cf.af++[⟨p,(n:Int)⟩] } i
 else if x=bY then(fX ws i).bind fun nm i=>(a6 18446744073709551615 ws i).bind fun a i=>(a6 18446744073709551615 ws i).bind fun b i=>(a6 18446744073709551615 ws i).bind fun c i=>.ok { cf with ag:=cf.ag++[⟨nm,a,b,c⟩] } i
 else if x=bu then(fX ws i).bind fun nm i=>(ja ws i).bind fun a i=>(ja ws i).bind fun b i=>.ok { cf with ab:=cf.ab++[⟨nm,(a:Int),(b:Int)⟩] } i
 else if x=gV then(pU ws i).bind fun r i=>.ok { cf with rules:=cf.rules++[r] } i
 else if x=bD then(aR (decide (d=0)) 200 () i).bind fun _ i=>(qQ false ws i).bind fun a i=>.ok { cf with bA:=a.1 } i
 else .no 200 i
def pS{α:Type}(ws:List Bs)(a:α)(i:Nat):Out α:=match decide (i < ws.length)with
 |true=>.no 200 (i+1)
 |false=>.ok a i
noncomputable def rJ(ws:List Bs)(i:Nat)(cf:CF)(d:Nat):Out CF:=(aO ws i).bind fun x i=>(gf x ws i cf d).bind fun c i=>pS ws c i
noncomputable def fm(ws:List Bs)(cf:CF)(d:Nat):Out CF:=match ws with
 | []=>.ok cf 0
 |_=>rJ ws 0 cf d
def dN(ws:List Bs)(d:Nat):Nat:=if ws[0]?=some bD then d+1 else d
def a7(cm:Bool):Bs→Bs→List Bs
 |cur,[]=>if cur=[] then [] else [cur]
 |cur,c::r=>if cm=true∧c=35 then(if cur=[] then [] else [cur])else
  if c=32∨c=9 then(if cur=[] then a7 cm [] r else cur::a7 cm [] r)else a7 cm (cur++[c]) r
def aE(cm:Bool)(s:Bs):List Bs:=a7 cm [] s
inductive U4 where
 |ok (cf:CF)
 |no (code line:Nat)
noncomputable def fV:List Bs→Nat→CF→Nat→U4
 | [],_,cf,d=>.ok (if d=0 then { cf with bA:=2 }else cf)
 |l::ls,k,cf,d=>match fm (aE true l) cf d with
  |.ok c _=>fV ls (k+1) c (dN (aE true l) d)
  |.no code _=>.no code k
noncomputable def gq(s:Bs):Out Mt:=(cS (aE false s) 0).bind fun m i=>(pS (aE false s) () i).bind fun _ i=>match aY m with
  |true=>.ok m i
  |false=>.no 190 (i+1)
set_option maxRecDepth 100000
open Go.RowKit Go.Lib Go.Sort _root_.Go.Proofs.Tryz
def A9(code at_:Int)(w:World)(chain:List PanicEntry)(w':World):Prop:=
 ∃N,chain=[{ v:=.iface 103 ((pt N 0)),recovered:=false }]∧w.heap.size≤N∧aq w' N 105 [.int .i64 code,.int .i64 at_]
set_option maxHeartbeats 4000000 in
theorem qE(lp:Value)(code at_:Int)(w:World):Calls prog 94 #[lp,.int .i64 code,.int .i64 at_] w fun e w'=>∃chain,e=.panicked chain∧A9 code at_ w chain w'∧ai [] w w':=by
 go_enter func94,ntmps94
 go_wp2
 refine⟨rfl,_,rfl,⟨w.heap.size,rfl,W3 _,?_⟩,(ai.refl [] w).alloc _⟩;exact aq.new w 105 #[.int .i64 code,.int .i64 at_]
open Go Go.RowKit Go.Lib Go.Sort
section
variable{P:Program}{ops:Array Oper}{Q:Exit→Act→World→Prop}{a:Act}{w:World}{rest:List Oper}{o:Oper}{C:World→Prop}
theorem q7(cs:List Value)(b off:Nat)(ty:TypeId)(x:Operand)(d:TypeDesc)(hw:Region.wanted o (yielded ops a.tmps)=true)(ho:o.op=.load ty x)(hx:a.eval x=.pointer (some ⟨b,off,none⟩))(hc:w.rangeAt b off cs)
  (hu:P.underlying ty=some d) (hd:d.isRow=true) (hi:(P.info? ty).map (·.size)=some cs.length) (h:wpList P ops Q rest (a.put o.dst (.agg cs.toArray)) w):wpList P ops Q (o::rest) a w:=by
 unfold wpList;rw[if_pos hw];exact .inl (wp_load_mid ty x ho b off hx cs d hc hu hd hi h)
end
set_option maxRecDepth 100000
open Go.RowKit Go.Lib Go.Sort _root_.Go.Proofs.Tryz
set_option maxRecDepth 100000
set_option maxHeartbeats 1000000 in
theorem qW(v:Bool)(n:Nat)(w:World) :
  Calls prog 51 #[.agg (b7 v n).toArray] w fun e w'=>e=.returned (.int .i64 (wid v:Nat))∧ai [] w w':=by
 have b0:=aq.new w 24 (b7 v n).toArray;have c0:=b0.cell_of (i:=0) (v:=.bool v) rfl;have fin:=hid ((ai.refl [] w).alloc (.cells (b7 v n).toArray 24));cases v
 ·go_enter func51,ntmps51
  go_wp2
  go_ret
  exact⟨rfl,fin.out⟩
 ·go_enter func51,ntmps51
  go_wp2
  go_ret
  exact⟨rfl,fin.out⟩
theorem Qh(n i:Nat)(hi:i < 128):((((ah n (i / 8):Nat):Int) / 2^(7 - i%8)).tmod 2==1)=mb n i:=by
 rw[←Dq n i hi];have e:(((ah n (i / 8):Nat):Int) / 2^(7 - i%8))=((ah n (i / 8) / 2^(7 - i%8):Nat):Int):=by rw[Int.natCast_ediv,Int.natCast_pow];rfl
 rw[e];generalize ah n (i / 8) / 2^(7 - i%8)=q;rw[Xb (by omega),W9,beq_iff_eq,decide_eq_true_eq];omega
theorem UT(v:Bool)(n i:Nat)(hi:i < 128)(w:World) :
  Calls prog 120 #[.agg (b7 v n).toArray,.int .i64 i] w fun e w'=>e=.returned (.bool (mb n i))∧ai [] w w':=by
 have b0:=aq.new w 24 (b7 v n).toArray;have c0:=b0.cell_of (cz v (ah n) (i / 8) (by omega));have fin:=hid ((ai.refl [] w).alloc (.cells (b7 v n).toArray 24));have hb:=hid (Qh n i hi);have i0:(0:Int)≤(i:Int):=by omega
 have i1:(i:Int) < 128:=by omega
 have i2:(0:Int)≤(i:Int) / 8:=by omega
 have i3:(i:Int) / 8 < 16:=by omega
 go_enter func120,ntmps120
 go_wp2
 go_ret
 exact⟨by rw[←hb.out];rfl,fin.out⟩
set_option maxHeartbeats 1000000 in
theorem gO(v:Bool)(n:Nat)(hn:n < 2^128)(w:World) :
  Calls prog 101 #[.agg (b7 v n).toArray] w fun e w'=>e=.returned (.int .i64 (dz v n))∧ai [] w w':=by
 have HB:=hid (aq.new w 24 (b7 v n).toArray);have HC:=hid ((ai.refl [] w).alloc (.cells (b7 v n).toArray 24));have HW:=hid (qW v n);have hq:(wid v:Int) / 8=((wid v / 8:Nat):Int):=by omega
 have hq16:wid v / 8≤16:=by have:=eW v; omega
 have HOK:=hid (ID v n hn);obtain⟨q,hqq⟩:∃q,q=wid v / 8:=⟨_,rfl⟩;rw[←hqq]at hq hq16 HOK;clear hqq;go_enter func101,ntmps101
 go_upto_region 2 with(first
  | (go_at_call 51;refine(HW.out _).mono ?_;rintro e w2 ⟨rfl,C2⟩)
  | (refine iZ rfl _ rfl w.heap.size rfl 24 v n HB.out ?_))
 have B2:=hid (HB.out.aF C2 (by simp));have D2:=hid (HC.out.trans C2);clear HB HC C2 HW;go_loop [3] (fun iv=>∃i:Nat,q≤i∧i≤16∧iv=.int .i64 i∧∀j,q≤j→j < i→ah n j=0) (fun iv=>16 - (RowKit.intOf iv).toNat)
 case atStart=>exact⟨q,W3 _,hq16,rfl,fun j h1 h2=>by omega⟩
 case round=>
  obtain⟨i,hqi,hi,rfl,hz⟩:=hrel;have HZ:=hid hz;clear hz;by_cases hlt:(i:Int) < 16
  ·have i0:(0:Int)≤(i:Int):=by omega
   have c1:=B2.out.cell_of (cz v (ah n) i (by omega));by_cases hx:ah n i=0
   ·rw[hx]at c1
    go_wp2
    go_round
    case measure=>simp[RowKit.intOf];omega
    case rel=>
     refine⟨i+1,by omega,by omega,by go_num,fun j h1 h2=>?_⟩;by_cases hj:j=i
     ·rw[hj];exact hx
     ·exact HZ.out j h1 (by omega)
   ·have hne:(((ah n i:Nat):Int) !=0)=true:=by rw[bne_iff_ne];omega
    have fin:dz v n=150:=by unfold dz;rw[if_neg (fun h=>hx (HOK.out.1 h i hqi (by omega)))]
    have FIN:=hid fin;clear fin;go_wp2
    go_ret
    exact⟨by rw[FIN.out];rfl,D2.out⟩
  ·have hi16:i=16:=by omega
   subst hi16;have fin:dz v n=0:=by unfold dz;rw[if_pos (HOK.out.2 fun j h1 h2=>HZ.out j h1 h2)]
   have FIN:=hid fin;clear fin;go_wp2
   go_ret
   exact⟨by rw[FIN.out];rfl,D2.out⟩
open Go.RowKit Go.Lib Go.Sort
attribute [local go_sem] CR wU
theorem aq.KC{w:World}{g:Nat}{t:TypeId}{v:Bool}{n:Nat}{k:Int}(hb:aq w g t (cZ v n k)):w.rangeAt g 0 (b7 v n):=fun j x hx=>by rw[Nat.zero_add];exact hb.cell_of (ux v n k j x hx)
set_option maxHeartbeats 2000000 in
theorem El(v:Bool)(n:Nat)(k:Int)(hn:n < 2^128)(hbad:iM v n=false∨k < 0∨(wid v:Int) < k)(w:World) :
  Calls prog 59 #[.agg (cZ v n k).toArray] w fun e w'=>e=.returned (.int .i64 151)∧ai [] w w':=by
 have HB:=hid (aq.new w 29 (cZ v n k).toArray);have HC:=hid ((ai.refl [] w).alloc (.cells (cZ v n k).toArray 29));have HW:=hid (oH (qW v n));have HK:=oH (gO v n hn);cases hA:iM v n with
 |false=>
  have he:dz v n=150:=by unfold dz;rw[hA];rfl
  rw[he]at HK;have HK:=hid HK;clear he hA hbad;go_enter func59,ntmps59
  go_upto_region 1 with fail
  obtain⟨w1,hw1⟩:∃w1,w1=w.alloc (.cells (cZ v n k).toArray 29):=⟨_,rfl⟩;rw[←hw1];have B1:aq w1 w.heap.size 29 (cZ v n k):=by rw[hw1];exact HB.out
  have C1:ai [] w w1:=by rw[hw1];exact HC.out
  clear hw1 HB HC;have ck:=cell_regrown (B1.cell_of (gR v n k));have R:=B1.Iq;refine wp_region_quiet_below (by kernel_rfl) (by kernel_rfl) ?_;repeat (first | (go_big_quiet_want;refine gr 24 _ rfl w.heap.size 0 rfl (b7 v n) _ R.b7 underlying24 rfl (eY.trans (by rw[bK])) ?_;go_big_quiet_on)|go_big_quiet_step ((first | (go_at_call 51;with_reducible exact HW.out _ _ _) | (go_at_call 101;with_reducible exact HK.out _ _ _)))|quiet_step ((first | (go_at_call 51;with_reducible exact HW.out _ _ _) | (go_at_call 101;with_reducible exact HK.out _ _ _))))
  refine wpQuiet_nil ?_;intro w3 hw3;have C3:=ft hw3;clear hw3 ck R;have HF:=hid (C1.trans C3);go_wp2
  go_ret
  exact⟨rfl,HF.out⟩
 |true=>
  have he:dz v n=0:=by unfold dz;rw[hA];rfl
  rw[he]at HK;rw[hA]at hbad;have HK:=hid HK;clear he hA;have hbad2:k < 0∨(wid v:Int) < k:=by simpa using hbad
  clear hbad;by_cases h1:k < 0
  ·have d1:decide (k < 0)=true:=decide_eq_true h1
   clear hbad2;go_enter func59,ntmps59
   go_upto_region 1 with fail
   obtain⟨w1,hw1⟩:∃w1,w1=w.alloc (.cells (cZ v n k).toArray 29):=⟨_,rfl⟩;rw[←hw1];have B1:aq w1 w.heap.size 29 (cZ v n k):=by rw[hw1];exact HB.out
   have C1:ai [] w w1:=by rw[hw1];exact HC.out
   clear hw1 HB HC;have ck:=cell_regrown (B1.cell_of (gR v n k));have R:=B1.Iq;refine wp_region_quiet_below (by kernel_rfl) (by kernel_rfl) ?_;repeat (first | (go_big_quiet_want;refine gr 24 _ rfl w.heap.size 0 rfl (b7 v n) _ R.b7 underlying24 rfl (eY.trans (by rw[bK])) ?_;go_big_quiet_on)|go_big_quiet_step ((first | (go_at_call 51;with_reducible exact HW.out _ _ _) | (go_at_call 101;with_reducible exact HK.out _ _ _)))|quiet_step ((first | (go_at_call 51;with_reducible exact HW.out _ _ _) | (go_at_call 101;with_reducible exact HK.out _ _ _))))
   refine wpQuiet_nil ?_;intro w3 hw3;have C3:=ft hw3;clear hw3 ck R;have HF:=hid (C1.trans C3);go_wp2
   go_ret
   exact⟨rfl,HF.out⟩
  ·obtain⟨K,rfl⟩:∃K:Nat,k=(K:Int):=⟨k.toNat,by omega⟩
   have d1:decide ((K:Int) < 0)=false:=decide_eq_false (by omega);have d2:decide (wid v < K)=true:=decide_eq_true (by omega);clear hbad2 h1;go_enter func59,ntmps59
   go_upto_region 1 with fail
   obtain⟨w1,hw1⟩:∃w1,w1=w.alloc (.cells (cZ v n K).toArray 29):=⟨_,rfl⟩;rw[←hw1];have B1:aq w1 w.heap.size 29 (cZ v n K):=by rw[hw1];exact HB.out
   have C1:ai [] w w1:=by rw[hw1];exact HC.out
   clear hw1 HB HC;have ck:=cell_regrown (B1.cell_of (gR v n K));have R:=B1.Iq;refine wp_region_quiet_below (by kernel_rfl) (by kernel_rfl) ?_;repeat (first | (go_big_quiet_want;refine gr 24 _ rfl w.heap.size 0 rfl (b7 v n) _ R.b7 underlying24 rfl (eY.trans (by rw[bK])) ?_;go_big_quiet_on)|go_big_quiet_step ((first | (go_at_call 51;with_reducible exact HW.out _ _ _) | (go_at_call 101;with_reducible exact HK.out _ _ _)))|quiet_step ((first | (go_at_call 51;with_reducible exact HW.out _ _ _) | (go_at_call 101;with_reducible exact HK.out _ _ _))))
   refine wpQuiet_nil ?_;intro w3 hw3;have C3:=ft hw3;clear hw3 ck R;have HF:=hid (C1.trans C3);go_wp2
   go_ret
   exact⟨rfl,HF.out⟩
set_option maxHeartbeats 2000000 in
theorem BJ(v:Bool)(n K:Nat)(hn:n < 2^128)(hA:iM v n=true)(hK:K≤wid v)(w:World) :
  Calls prog 59 #[.agg (cZ v n K).toArray] w fun e w'=>e=.returned (.int .i64 (cU v n K))∧ai [] w w':=by
 have HB:=hid (aq.new w 29 (cZ v n K).toArray);have HC:=hid ((ai.refl [] w).alloc (.cells (cZ v n K).toArray 29));have HW:=hid (oH (qW v n));have HK:=oH (gO v n hn);have he:dz v n=0:=by unfold dz;rw[hA];rfl
 rw[he]at HK;have HK:=hid HK;have HOK:=hid (IB v n K hA hK);have HBT:=hid (UT v n);have HWW:=hid (qW v n);have hw128:=eW v;clear he hA;have d1:decide ((K:Int) < 0)=false:=decide_eq_false (by omega);have d2:decide (wid v < K)=false:=decide_eq_false (by omega);go_enter func59,ntmps59
 go_upto_region 1 with fail
 obtain⟨w1,hw1⟩:∃w1,w1=w.alloc (.cells (cZ v n K).toArray 29):=⟨_,rfl⟩;rw[←hw1];have B1:aq w1 w.heap.size 29 (cZ v n K):=by rw[hw1];exact HB.out
 have C1:ai [] w w1:=by rw[hw1];exact HC.out
 clear hw1 HB HC;have ck:=cell_regrown (B1.cell_of (gR v n K));have R:=B1.Iq;refine wp_region_quiet_below (by kernel_rfl) (by kernel_rfl) ?_;repeat (first | (go_big_quiet_want;refine gr 24 _ rfl w.heap.size 0 rfl (b7 v n) _ R.b7 underlying24 rfl (eY.trans (by rw[bK])) ?_;go_big_quiet_on)|go_big_quiet_step ((first | (go_at_call 51;with_reducible exact HW.out _ _ _) | (go_at_call 101;with_reducible exact HK.out _ _ _)))|quiet_step ((first | (go_at_call 51;with_reducible exact HW.out _ _ _) | (go_at_call 101;with_reducible exact HK.out _ _ _))))
 refine wpQuiet_nil ?_;intro w3 hw3;have C3:=ft hw3;clear hw3 ck R;have B3:=hid (B1.aF C3 (by simp));have HF:=hid (C1.trans C3);clear B1 C1 C3;have ck:=B3.out.cell_of (gR v n K);go_upto_region 4 with fail
 go_loopw [3] (fun iv wr=>∃i:Nat,K≤i∧i≤wid v∧iv=.int .i64 i∧aq wr w.heap.size 29 (cZ v n K)∧ai [] w wr∧∀j,K≤j→j < i→mb n j=false) (fun iv _=>128 - (RowKit.intOf iv).toNat)
 case atStart=>exact⟨K,W3 _,hK,rfl,B3.out,HF.out,fun j h1 h2=>by omega⟩
 case round=>
  obtain⟨i,hKi,hi,rfl,hB,hC,hz⟩:=hrel;have HZ:=hid hz;have HB:=hid hB;have HC:=hid hC;clear hz hB hC HF B3 ck d1 d2;by_cases hlt:i < wid v
  ·have i0:(0:Int)≤(i:Int):=by omega
   have i1:(i:Int) < 128:=by omega
   have hltz:(i:Int) < (wid v:Int):=by omega
   cases hb:mb n i with
   |false=>
    have HBi:=HBT.out i (by omega);rw[hb]at HBi;have HBj:=hid HBi;have HBB:=hid hb;clear HBi hb
    go_wp2_with (first
     | (go_at_call 51;refine(HWW.out _).mono ?_;rintro e c1 ⟨rfl,D1⟩)
     | (go_at_call 120;refine(HBj.out _).mono ?_;rintro e c2 ⟨rfl,D2⟩)
     | (refine q7 (b7 v n) w.heap.size 0 24 _ _ (by rfl) rfl rfl (HB.out.aF D1 (by simp)).KC underlying24 rfl (eY.trans (by rw[bK])) ?_)
     | (refine q7 (b7 v n) w.heap.size 0 24 _ _ (by rfl) rfl rfl HB.out.KC underlying24 rfl (eY.trans (by rw[bK])) ?_))
    go_roundw
    case measure=>simp[RowKit.intOf];omega
    case rel=>
     refine⟨i+1,by omega,by omega,by go_num,(HB.out.aF D1 (by simp)).aF D2 (by simp),(HC.out.trans D1).trans D2,fun j h1 h2=>?_⟩;by_cases hj:j=i
     ·rw[hj];exact HBB.out
     ·exact HZ.out j h1 (by omega)
   |true=>
    have HBi:=HBT.out i (by omega);rw[hb]at HBi;have HBj:=hid HBi;have fin:cU v n K=151:=by unfold cU;rw[if_neg (fun h=>by have:=HOK.out.1 h i hKi hlt;rw[hb]at this;cases this)]
    have FIN:=hid fin;clear HBi hb fin
    go_wp2_with (first
     | (go_at_call 51;refine(HWW.out _).mono ?_;rintro e c1 ⟨rfl,D1⟩)
     | (go_at_call 120;refine(HBj.out _).mono ?_;rintro e c2 ⟨rfl,D2⟩)
     | (refine q7 (b7 v n) w.heap.size 0 24 _ _ (by rfl) rfl rfl (HB.out.aF D1 (by simp)).KC underlying24 rfl (eY.trans (by rw[bK])) ?_)
     | (refine q7 (b7 v n) w.heap.size 0 24 _ _ (by rfl) rfl rfl HB.out.KC underlying24 rfl (eY.trans (by rw[bK])) ?_))
    go_ret
    exact⟨by rw[FIN.out];rfl,(HC.out.trans D1).trans D2⟩
  ·have hi16:i=wid v:=by omega
   subst hi16;have fin:cU v n K=0:=by unfold cU;rw[if_pos (HOK.out.2 fun j h1 h2=>HZ.out j h1 h2)]
   have FIN:=hid fin;clear fin
   go_wp2_with (first
    | (go_at_call 51;refine(HWW.out _).mono ?_;rintro e c1 ⟨rfl,D1⟩)
    | (refine q7 (b7 v n) w.heap.size 0 24 _ _ (by rfl) rfl rfl HB.out.KC underlying24 rfl (eY.trans (by rw[bK])) ?_))
   go_ret
   exact⟨by rw[FIN.out];rfl,HC.out.trans D1⟩
theorem BK(v:Bool)(n:Nat)(k:Int)(hn:n < 2^128)(w:World) :
  Calls prog 59 #[.agg (cZ v n k).toArray] w (Rn w (.int .i64 (cU v n k))):=by
 by_cases h:iM v n=true∧0≤k∧k≤(wid v:Int)
 ·obtain⟨K,rfl⟩:∃K:Nat,k=(K:Int):=⟨k.toNat,by omega⟩
  exact BJ v n K hn h.1 (by omega) w
 ·have e:cU v n k=151:=by
   unfold cU;rw[if_neg];intro hp;unfold fW at hp;simp only[WZ,decide_eq_true_eq]at hp;refine h ⟨?_,hp.1⟩;unfold iM;rw[decide_eq_true_eq]
   conv=>lhs;rw[←hp.2,vX,Nat.min_eq_left (by omega)]
   exact hp.2
  rw[e];refine El v n k hn ?_ w;cases hA:iM v n
  ·exact .inl rfl
  ·refine .inr ?_
   have h2:¬(0≤k∧k≤(wid v:Int)):=fun h2=>h ⟨hA,h2⟩;omega
open Go.RowKit Go.Lib Go.Sort
open Go.RowKit Go.Lib Go.Sort
open Go.RowKit Go.Lib Go.Sort
open Go.RowKit Go.Lib Go.Sort
set_option maxRecDepth 100000
open Go.RowKit Go.Lib Go.Sort _root_.Go.Proofs.Tryz
set_option maxRecDepth 100000
theorem yb(s:ByteArray)(lo hi:Nat)(h:lo≤hi)(h2:hi≤s.size)(W:World):(Xd 9 (.string s) (some (.int .i64 lo)) (some (.int .i64 hi)) none).run prog W=.ok (.string (s.extract lo hi)) W:=by simp[Xd,run_underlying underlying9,Instr.slice,Instr.sliceBounds,Instr.sliceBound,asIntOf,h,h2]
def QG:ByteArray:=⟨#[48,49,50,51,52,53,54,55,56,57,97,98,99,100,101,102]⟩
theorem Oe:∀d:Fin 16,QG.extract d.val (d.val+1)=⟨#[sig d.val]⟩:=by decide+kernel
theorem Kl(d:Nat)(hd:d < 16)(W:World):(Xd 9 (.string ⟨#[48,49,50,51,52,53,54,55,56,57,97,98,99,100,101,102]⟩) (some (.int .i64 (d:Int))) (some (.int .i64 ((d+1:Nat):Int))) none).run prog W=.ok (.string ⟨#[sig d]⟩) W:=by have h:=yb QG d (d+1) (by omega) (by show d+1≤16;omega) W;rw[Oe ⟨d,hd⟩]at h;exact h
theorem cM(x y:Operand)(a b:List UInt8)(h:a.length+b.length≤9000000000000000000)(W:World):(do eqGuard .add 9 x y (.string ⟨a.toArray⟩) (.string ⟨b.toArray⟩);binOp .add 9 (.string ⟨a.toArray⟩) (.string ⟨b.toArray⟩):Sem Value).run prog W=.ok (.string ⟨(a++b).toArray⟩) W:=by
 have e:¬(((⟨a.toArray⟩:ByteArray).size+(⟨b.toArray⟩:ByteArray).size:Nat):Int) > WR.max:=by
  have:WR.max=9223372036854775807:=by decide
  rw[this];simp[ByteArray.size];omega
 show(Op.stringOp .add (⟨a.toArray⟩) (⟨b.toArray⟩)).run prog W=_;unfold Op.stringOp;simp only[if_neg e];show Result.ok (W6 (⟨a.toArray⟩++⟨b.toArray⟩)) W=_;congr 2
theorem My{b:Nat}(hb:2≤b):∀(n:Nat),(an b n).length≤n+1:=by
 intro n;induction n using Xm with
 |_ n ih=>
  by_cases h:n < b
  ·rw[bp h];simp
  ·rw[dK hb h]
   have h1:=ih (n / b) (Xn (by omega) (by omega));have h2:n / b≤n / 2:=Xh hb (by omega);simp only[WT,WQ,WV];omega
theorem iw{a b:Int}(h:a=b):WS .i64 a=.int .i64 b:=by rw[h]
theorem jC{a:Int}(h0 : -9223372036854775808≤a)(h1:a≤9223372036854775807):WR.wrap a=a:=IntWalk.i64_in _ ⟨h0,h1⟩
theorem sD(b:Nat)(hb:b=10∨b=16):∀(n:Nat),n≤4000000000000000000→∀w,Calls prog 102 #[.int .i64 (n:Int),.int .i64 (b:Int)] w (Rn w (.string ⟨(an b n).toArray⟩)):=by
 intro n;induction n using Xm with
 |_ n ih=>
  intro hn w;by_cases h:n < b
  ·have c7:WN (decide ((n:Int) < (b:Int)))=.bool true:=by rw[decide_eq_true (by omega)]
   have c10:=mY (i:=n) (by omega);have gb:=Kl n (by omega);have z0:W6 ⟨#[sig n]⟩=.string ⟨(an b n).toArray⟩:=by rw[bp h]
   refine Sx.ao (args:=[.int .i64 (n:Int),.int .i64 (b:Int)]) [(7,.is (.bool true)),(10,.is (.int .i64 ((n+1:Nat):Int))),(11,.bin (.string ⟨#[sig n]⟩))] [] (by kernel_rfl) func102 rfl (bU rfl) ?_;exact WW (by kernel_rfl) (Sx.t2 c7 c10 (WU gb z0))
  ·have c7:WN (decide ((n:Int) < (b:Int)))=.bool false:=by rw[decide_eq_false (by omega)]
   have hq:n / b≤n / 2:=Xh (by omega) (by omega);have hm:n%b < b:=Nat.mod_lt _ (by omega);have jM:=fun W (_:ai [] w W)=>ih (n / b) (Xn (by omega) (by omega)) (by omega) W;have c24:=Kl (n%b) (by omega);have c23:WS .i64 (WR.wrap (((n%b:Nat):Int)+1))=.int .i64 ((n%b+1:Nat):Int):=iw (by rw[jC (by omega) (by omega)];rfl);have hl:=My (b:=b) (by omega) (n / b);have c25:=cM (.tmp 16) (.tmp 24) (an b (n / b)) [sig (n%b)] (by simp only[WQ,WV]; omega);have z0:W6 ⟨(an b (n / b)++[sig (n%b)]).toArray⟩=.string ⟨(an b n).toArray⟩:=by rw[dK (by omega) h]
   have ed:((n:Int).tdiv (b:Int))=((n / b:Nat):Int):=by rw[Int.tdiv_eq_ediv_of_nonneg (by omega)]; rfl
   have em:((n:Int).tmod (b:Int))=((n%b:Nat):Int):=by rw[Xb (by omega)];rfl
   rcases hb with rfl|rfl
   ·have c14:WS .i64 (WR.wrap ((n:Int).tdiv 10))=.int .i64 ((n / 10:Nat):Int):=iw (by rw[show((10:Int))=((10:Nat):Int)from rfl,ed,jC (by omega) (by omega)])
    have c19:WS .i64 ((n:Int).tmod 10)=.int .i64 ((n%10:Nat):Int):=iw em;have c22:=c19;refine Sx.ao (args:=[.int .i64 (n:Int),.int .i64 ((10:Nat):Int)]) [(7,.is (.bool false)),(14,.is (.int .i64 ((n / 10:Nat):Int))),(16,.call (.string ⟨(an 10 (n / 10)).toArray⟩)),(19,.is (.int .i64 ((n%10:Nat):Int))),(22,.is (.int .i64 ((n%10:Nat):Int))),(23,.is (.int .i64 ((n%10+1:Nat):Int))),(24,.bin (.string ⟨#[sig (n%10)]⟩)),(25,.bin (.string ⟨(an 10 (n / 10)++[sig (n%10)]).toArray⟩))] [] (by kernel_rfl) func102 rfl (bU rfl) ?_;exact WW (by kernel_rfl) (Sx.t8 c7 c14 jM c19 c22 c23 c24 c25 z0)
   ·have c14:WS .i64 (WR.wrap ((n:Int).tdiv 16))=.int .i64 ((n / 16:Nat):Int):=iw (by rw[show((16:Int))=((16:Nat):Int)from rfl,ed,jC (by omega) (by omega)])
    have c19:WS .i64 ((n:Int).tmod 16)=.int .i64 ((n%16:Nat):Int):=iw em;have c22:=c19;refine Sx.ao (args:=[.int .i64 (n:Int),.int .i64 ((16:Nat):Int)]) [(7,.is (.bool false)),(14,.is (.int .i64 ((n / 16:Nat):Int))),(16,.call (.string ⟨(an 16 (n / 16)).toArray⟩)),(19,.is (.int .i64 ((n%16:Nat):Int))),(22,.is (.int .i64 ((n%16:Nat):Int))),(23,.is (.int .i64 ((n%16+1:Nat):Int))),(24,.bin (.string ⟨#[sig (n%16)]⟩)),(25,.bin (.string ⟨(an 16 (n / 16)++[sig (n%16)]).toArray⟩))] [] (by kernel_rfl) func102 rfl (bU rfl) ?_;exact WW (by kernel_rfl) (Sx.t8 c7 c14 jM c19 c22 c23 c24 c25 z0)
theorem AT(v:Bool)(n j:Nat)(hj:j < 16):(b7 v n)[1+j]?=some (.int .u8 (ah n j:Int)):=cz v (ah n) j hj
theorem MN(n j:Nat):(0:Int)≤(ah n j:Int)∧(ah n j:Int)≤255:=by have:=aX n j;omega
theorem BU(v:Bool)(n i:Nat)(hi:i < 8)(w:World):Calls prog 104 #[.agg (b7 v n).toArray,.int .i64 (i:Int)] w (Rn w (.int .i64 (dZ n i:Nat))):=by
 obtain⟨a0,a1⟩:=MN n (2*i);obtain⟨b0,b1⟩:=MN n (2*i+1);have c6:WS .i64 (WR.wrap (2*(i:Int)))=.int .i64 ((2*i:Nat):Int):=iw (by rw[jC (by omega) (by omega)];rfl);have c8:(0:Int)≤((2*i:Nat):Int)∧((2*i:Nat):Int) < ((16:Nat):Int):=by omega
 have c9:(b7 v n)[1+((2*i:Nat):Int).toNat*1]?=some (.int .u8 (ah n (2*i):Int)):=by rw[W7,Xw];exact AT v n _ (by omega)
 have c10:WS .i64 (WR.wrap (ah n (2*i):Int))=.int .i64 (ah n (2*i):Int):=iw (jC (by omega) (by omega));have gb:WS .i64 (WR.wrap ((ah n (2*i):Int)*256))=.int .i64 ((ah n (2*i):Int)*256):=iw (jC (by omega) (by omega));have c13:=c6;have c14:WS .i64 (WR.wrap (((2*i:Nat):Int)+1))=.int .i64 ((2*i+1:Nat):Int):=iw (by rw[jC (by omega) (by omega)];rfl);have jM:(0:Int)≤((2*i+1:Nat):Int)∧((2*i+1:Nat):Int) < ((16:Nat):Int):=by omega
 have c17:(b7 v n)[1+((2*i+1:Nat):Int).toNat*1]?=some (.int .u8 (ah n (2*i+1):Int)):=by rw[W7,Xw];exact AT v n _ (by omega)
 have c18:WS .i64 (WR.wrap (ah n (2*i+1):Int))=.int .i64 (ah n (2*i+1):Int):=iw (jC (by omega) (by omega));have c19:WS .i64 (WR.wrap ((ah n (2*i):Int)*256+(ah n (2*i+1):Int)))=.int .i64 (dZ n i:Nat):=iw (by rw[jC (by omega) (by omega)];unfold dZ;omega);have z0:WS .i64 (dZ n i:Nat)=.int .i64 (dZ n i:Nat):=rfl;refine Sx.ao (args:=[.agg (b7 v n).toArray,.int .i64 (i:Int)]) [(6,.is (.int .i64 ((2*i:Nat):Int))),(8,.ix),(9,.ld (.int .u8 (ah n (2*i):Int))),(10,.is (.int .i64 (ah n (2*i):Int))),(11,.is (.int .i64 ((ah n (2*i):Int)*256))),(13,.is (.int .i64 ((2*i:Nat):Int))),(14,.is (.int .i64 ((2*i+1:Nat):Int))),(16,.ix),(17,.ld (.int .u8 (ah n (2*i+1):Int))),(18,.is (.int .i64 (ah n (2*i+1):Int))),(19,.is (.int .i64 (dZ n i:Nat)))] [] (by kernel_rfl) func104 rfl (bU rfl) ?_;exact WW (by kernel_rfl) (Sx.t8 c6 c8 c9 c10 gb c13 c14 jM (Sx.t2 c17 c18 (WU c19 z0)))
def fU(n i:Nat):Nat:=ic ((zs (aK n)).drop i)
theorem zw(n i:Nat)(hi:i≤8):i+fU n i≤8:=by
 have:=zv ((zs (aK n)).drop i);have e:((zs (aK n)).drop i).length=8 - i:=by simp[zs,aK]
 unfold fU;omega
theorem JP(n j:Nat)(hj:j < 8):(zs (aK n))[j]?=some (dZ n j==0):=by
 match j,hj with
 | 0,_=>rfl
 | 1,_=>rfl
 | 2,_=>rfl
 | 3,_=>rfl
 | 4,_=>rfl
 | 5,_=>rfl
 | 6,_=>rfl
 | 7,_=>rfl
theorem F1:∀(l:List Bool) (m:Nat),m < ic l→l[m]?=some true
 |true::l,0,_=>rfl
 |true::l,m+1,h=>by simpa using F1 l m (by simpa[ic]using h)
 |false::l,m,h=>by simp[ic]at h
 | [],m,h=>by simp[ic]at h
theorem By:∀(l:List Bool),ic l < l.length→l[ic l]?=some false
 |true::l,h=>by simpa[ic]using By l (by simpa[ic]using h)
 |false::l,_=>rfl
 | [],h=>by simp at h
theorem Rs{n i m:Nat}(h:m < fU n i)(h8:i+m < 8):dZ n (i+m)=0:=by have:=F1 _ m h;rw[Xj,JP n (i+m) h8]at this;simpa using this
theorem Oo{n i:Nat}(h8:i+fU n i < 8):dZ n (i+fU n i)≠0:=by have:=By ((zs (aK n)).drop i) (by simp[zs,aK];exact Nat.lt_sub_of_add_lt (by rw[Nat.add_comm];exact h8));rw[Xj,show i+ic ((zs (aK n)).drop i)=i+fU n i from rfl,JP n _ h8]at this;simpa using this
structure uj where
 i:Nat
 a:Nat
 l:Nat
structure DH(n:Nat)(k:uj):Prop where
 i8:k.i≤8
 a8:k.a≤8
 l8:k.l≤8
 rest:H8 (zs (aK n)) (8 - k.i) k.i k.a k.l=jl (zs (aK n))
def kC(n:Nat)(k:uj):uj:=⟨k.i+1,if fU n k.i > k.l then k.i else k.a,if fU n k.i > k.l then fU n k.i else k.l⟩
def pY(k:uj):List (Nat×Sx.SV):=[(1,.ptr 0 0),(4,.val (.int .i64 (k.a:Int))),(5,.val (.int .i64 (k.l:Int))),(6,.val (.int .i64 (k.i:Int)))]
def bn(v:Bool)(n:Nat):List Sx.Row:=[⟨24,.aj (b7 v n)⟩]
def zF(n:Nat):List (Nat×Sx.SV):=[(4,.val (.int .i64 ((jl (zs (aK n))).1:Int))),(5,.val (.int .i64 ((jl (zs (aK n))).2:Int)))]
def eH(k:uj)(m:Nat):List (Nat×Sx.SV):=(7,.val (.int .i64 (m:Int)))::pY k
def QH(v:Bool)(n:Nat)(k:uj):Sx.Loop:=.mk Nat 0 (fun m=>m≤fU n k.i) (eH k) (fun _=>bn v n) (fun m=>m+1) (fun m=>8 - m) Unit (fun _=>True) (fun _=>eH k (fU n k.i)) (fun _=>bn v n) (fun _=>())
def Vv(v:Bool)(n:Nat):Sx.Loop:=.mk uj ⟨0,0,0⟩ (DH n) pY (fun _=>bn v n) (kC n) (fun k=>8 - k.i) Unit (fun _=>True) (fun _=>zF n) (fun _=>bn v n) (fun _=>())
theorem H7{n:Nat}{k:uj}(h:DH n k)(hi:k.i < 8):DH n (kC n k):=by
 have hr:=zw n k.i (by omega);refine⟨by show k.i+1≤8;omega,?_,?_,?_⟩
 ·show(if fU n k.i > k.l then k.i else k.a)≤8
  have:=h.a8;split<;>omega
 ·show(if fU n k.i > k.l then fU n k.i else k.l)≤8
  have:=h.l8;split<;>omega
 ·rw[←h.rest]
  show H8 _ (8 - (k.i+1)) (k.i+1) (if fU n k.i > k.l then k.i else k.a) (if fU n k.i > k.l then fU n k.i else k.l)=_;rw[show 8 - k.i=(8 - (k.i+1))+1 by omega,H8];unfold fU;by_cases hc:ic ((zs (aK n)).drop k.i) > k.l
  ·rw[if_pos hc,if_pos hc,if_pos hc]
  ·rw[if_neg hc,if_neg hc,if_neg hc]
theorem KB{n:Nat}{k:uj}(h:DH n k)(hi:k.i=8):(jl (zs (aK n)))=(k.a,k.l):=by have:=h.rest;rw[hi]at this;exact this.symm
theorem bz{a b:Bool}(h:a=b):WN a=.bool b:=by rw[h]
section
variable{v:Bool}{n:Nat}{w:World}{Kr:Sx.St→Prop}
theorem Rw(k:uj)(hi:k.i < 8)(m:Nat)(hm:m≤fU n k.i):∃H' L',Sx.ex prog 33 w (Sx.inBody (Sx.bq f103 0) 0) H' L' ⟨eH k m,bn v n⟩ (Sx.dP (fun m=>m≤fU n k.i) (eH k) (fun _=>bn v n) (fun m=>m+1) (fun m=>8 - m) (fun _=>True) (fun _=>eH k (fU n k.i)) (fun _=>bn v n) (fun _=>()) 2 Kr m):=by
 have hr:=zw n k.i (by omega);have e14:WR.wrap ((k.i:Int)+(m:Int))=((k.i+m:Nat):Int):=by rw[jC (by omega) (by omega)];rfl
 have c14:WS .i64 (WR.wrap ((k.i:Int)+(m:Int)))=.int .i64 ((k.i+m:Nat):Int):=iw e14;by_cases h8:k.i+m < 8
 ·have c15:WN (decide (((k.i+m:Nat):Int) < 8))=.bool true:=bz (decide_eq_true (by omega))
  have c20:=c14;have c21:=fun W (_:ai [] w W)=>BU v n (k.i+m) h8 W;by_cases hlt:m < fU n k.i
  ·rw[Rs hlt h8]at c21
   have c25:=mY (i:=m) (by omega);have h0:m+1≤fU n k.i:=hlt;have h1:8 - (m+1) < 8 - m:=by omega
   refine⟨[(14,.is (.int .i64 ((k.i+m:Nat):Int))),(15,.is (.bool true)),(20,.is (.int .i64 ((k.i+m:Nat):Int))),(21,.call (.int .i64 ((0:Nat):Int))),(25,.is (.int .i64 ((m+1:Nat):Int)))],[],?_⟩;have h2:eH k (m+1)=eH k (m+1):=rfl;have z3:bn v n=bn v n:=rfl;exact WW (by kernel_rfl) (Sx.t8 c14 c15 c20 c21 c25 h0 h1 h2 z3)
  ·have e:m=fU n k.i:=by omega
   have hne:=Oo (n:=n) (i:=k.i) (by omega);rw[←e]at hne;have c22:WN (((dZ n (k.i+m):Nat):Int)==0)=.bool false:=bz (beq_eq_false_iff_ne.2 (by omega));refine⟨[(14,.is (.int .i64 ((k.i+m:Nat):Int))),(15,.is (.bool true)),(20,.is (.int .i64 ((k.i+m:Nat):Int))),(21,.call (.int .i64 (dZ n (k.i+m):Nat))),(22,.is (.bool false))],[],?_⟩;have h0:True:=trivial;have h1:eH k m=eH k (fU n k.i):=congrArg (eH k) e;have z2:bn v n=bn v n:=rfl;exact WW (by kernel_rfl) (Sx.t4 c14 c15 c20 c21 (Sx.t2 c22 h0 (WU h1 z2)))
 ·have c15:WN (decide (((k.i+m:Nat):Int) < 8))=.bool false:=bz (decide_eq_false (by omega))
  refine⟨[(14,.is (.int .i64 ((k.i+m:Nat):Int))),(15,.is (.bool false))],[],?_⟩;have h0:True:=trivial;have h1:eH k m=eH k (fU n k.i):=congrArg (eH k) (by omega);have z2:bn v n=bn v n:=rfl;exact WW (by kernel_rfl) (Sx.t4 c14 c15 h0 h1 z2)
theorem Oz(k:uj)(hk:DH n k):∃H' L',Sx.ex prog 33 w (Sx.bq f103 0) H' L' ⟨pY k,bn v n⟩ (Sx.dP (DH n) pY (fun _=>bn v n) (kC n) (fun k=>8 - k.i) (fun _=>True) (fun _=>zF n) (fun _=>bn v n) (fun _=>()) 0 Kr k):=by
 have i8:=hk.i8;have a8:=hk.a8;have l8:=hk.l8;by_cases hi:k.i < 8
 ·have hr:=zw n k.i (by omega)
  have c9:WN (decide ((k.i:Int) < 8))=.bool true:=bz (decide_eq_true (by omega));have gb:WS .i64 (WR.wrap ((k.i:Int)+1))=.int .i64 ((k.i+1:Nat):Int):=iw (by rw[jC (by omega) (by omega)];rfl);have h0:0≤fU n k.i:=W2 _;have e1:eH k 0=eH k 0∧bn v n=bn v n:=⟨rfl,rfl⟩;have jz:=fun(m:Nat) (hm:m≤fU n k.i)=>Rw (v:=v) (w:=w) (Kr:=Kr) k hi m hm;have hnext:=H7 hk hi;have hmu:8 - (kC n k).i < 8 - k.i:=by show 8 - (k.i+1) < 8 - k.i; omega
  have hz:bn v n=bn v n:=rfl;by_cases hc:fU n k.i > k.l
  ·have c28:WN (decide (((fU n k.i:Nat):Int) > (k.l:Int)))=.bool true:=bz (decide_eq_true (by omega))
   have hf:pY ⟨k.i+1,k.i,fU n k.i⟩=pY (kC n k):=by unfold kC;rw[if_pos hc,if_pos hc]
   refine⟨[(9,.is (.bool true)),(11,.is (.int .i64 ((k.i+1:Nat):Int))),(28,.is (.bool true))],[QH v n k],?_⟩;have e1:eH k 0=eH k 0∧bn v n=bn v n:=⟨rfl,rfl⟩;have h5:=hnext;have h6:=hmu;have h7:=hf;have z8:bn v n=bn v n:=rfl;exact WW (by kernel_rfl) (Sx.t4 c9 h0 e1 jz (fun(x:Unit) (hx4:True)=>(Sx.t4 c28 gb h5 h6 (WU h7 z8))))
  ·have c28:WN (decide (((fU n k.i:Nat):Int) > (k.l:Int)))=.bool false:=bz (decide_eq_false (by omega))
   have hf:pY ⟨k.i+1,k.a,k.l⟩=pY (kC n k):=by unfold kC;rw[if_neg hc,if_neg hc]
   refine⟨[(9,.is (.bool true)),(11,.is (.int .i64 ((k.i+1:Nat):Int))),(28,.is (.bool false))],[QH v n k],?_⟩;have e1:eH k 0=eH k 0∧bn v n=bn v n:=⟨rfl,rfl⟩;have h5:=hnext;have h6:=hmu;have h7:=hf;have z8:bn v n=bn v n:=rfl;exact WW (by kernel_rfl) (Sx.t4 c9 h0 e1 jz (fun(x:Unit) (hx4:True)=>(Sx.t4 c28 gb h5 h6 (WU h7 z8))))
 ·have c9:WN (decide ((k.i:Int) < 8))=.bool false:=bz (decide_eq_false (by omega))
  have he:=KB hk (by omega);have h0:True:=trivial;have h1:[(4,Sx.SV.val (.int .i64 (k.a:Int))),(5,Sx.SV.val (.int .i64 (k.l:Int)))]=zF n:=by unfold zF;rw[he]
  have z2:bn v n=bn v n:=rfl;refine⟨[(9,.is (.bool false))],[],?_⟩;exact WW (by kernel_rfl) (Sx.t2 c9 h0 (WU h1 z2))
theorem TF(v:Bool)(n:Nat)(w:World):Calls prog 103 #[.agg (b7 v n).toArray] w (Rn w (.tuple #[.int .i64 ((jl (zs (aK n))).1:Int),.int .i64 ((jl (zs (aK n))).2:Int)])):=by refine Sx.ao (args:=[.agg (b7 v n).toArray]) [] [Vv v n] (by kernel_rfl) func103 rfl (bU rfl) ?_;have h0:DH n ⟨0,0,0⟩:=⟨by simp,by simp,by simp,rfl⟩;have e1:pY ⟨0,0,0⟩=pY ⟨0,0,0⟩∧bn v n=bn v n:=⟨rfl,rfl⟩;have jz:=fun(k:uj) (hk:DH n k)=>Oz (v:=v) (w:=w) (Kr:=Sx.atEnd prog f103 (fun u=>u=.tuple #[.int .i64 ((jl (zs (aK n))).1:Int),.int .i64 ((jl (zs (aK n))).2:Int)]) .ret) k hk;have z5:W0 #[.int .i64 ((jl (zs (aK n))).1:Int),.int .i64 ((jl (zs (aK n))).2:Int)]=.tuple #[.int .i64 ((jl (zs (aK n))).1:Int),.int .i64 ((jl (zs (aK n))).2:Int)]:=rfl;exact WW (by kernel_rfl) (Sx.t2 h0 e1 (WU jz (fun(x:Unit) (hx4:True)=>z5)))
end
theorem Im{v:Bool}{n:Nat}(hn:n < 2^128)(h:iM v n=false)(w:World):Calls prog 47 #[.agg (b7 v n).toArray] w (Rn w (.tuple #[.string ⟨#[]⟩,.int .i64 150])):=by have c9:=fun W (_:ai [] w W)=>gO v n hn W;rw[show dz v n=150 by unfold dz;rw[h];rfl]at c9;have z0:W0 #[.string ⟨#[]⟩,.int .i64 150]=.tuple #[.string ⟨#[]⟩,.int .i64 150]:=rfl;refine Sx.ao (args:=[.agg (b7 v n).toArray]) [(9,.call (.int .i64 150))] [] (by kernel_rfl) func47 rfl (bU rfl) ?_;exact WW (by kernel_rfl) (WU c9 z0)
theorem Vb(n j:Nat):WS .i64 (WR.wrap (ah n j:Int))=.int .i64 ((ah n j:Nat):Int):=iw (by have:=aX n j;exact jC (by omega) (by omega))
theorem OM{n:Nat}(hn:n < 2^128)(h:iM false n=true)(w:World):Calls prog 47 #[.agg (b7 false n).toArray] w (Rn w (.tuple #[.string ⟨(ff n).toArray⟩,.int .i64 0])):=by
 have c9:=fun W (_:ai [] w W)=>gO false n hn W;rw[show dz false n=0 by unfold dz;rw[h];rfl]at c9;have d:=fun j=>iF (u:=ah n j) (by have:=aX n j;omega);have dn:=fun j W (_:ai [] w W)=>sD 10 (.inl rfl) (ah n j) (by have:=aX n j;omega) W;have c17:=Vb n 0;have c23:=Vb n 1;have c30:=Vb n 2;have c37:=Vb n 3;have c18:=dn 0;have c24:=dn 1;have c31:=dn 2;have c38:=dn 3;obtain⟨d0,h0⟩:∃x,x=an 10 (ah n 0):=⟨_,rfl⟩;obtain⟨d1,h1⟩:∃x,x=an 10 (ah n 1):=⟨_,rfl⟩;obtain⟨d2,h2⟩:∃x,x=an 10 (ah n 2):=⟨_,rfl⟩;obtain⟨d3,h3⟩:∃x,x=an 10 (ah n 3):=⟨_,rfl⟩;have l0:=d 0;have l1:=d 1;have l2:=d 2;have l3:=d 3;rw[←h0]at c18 l0;rw[←h1]at c24 l1;rw[←h2]at c31 l2;rw[←h3]at c38 l3;have c19:=cM (.tmp 18) (.const (.string ⟨#[46]⟩)) d0 [46] (by simp only[WQ,WV];omega);have c25:=cM (.tmp 19) (.tmp 24) (d0++[46]) d1 (by simp only[WT,WQ,WV];omega);have c26:=cM (.tmp 25) (.const (.string ⟨#[46]⟩)) (d0++[46]++d1) [46] (by simp only[WT,WQ,WV];omega);have c32:=cM (.tmp 26) (.tmp 31) (d0++[46]++d1++[46]) d2 (by simp only[WT,WQ,WV];omega);have c33:=cM (.tmp 32) (.const (.string ⟨#[46]⟩)) (d0++[46]++d1++[46]++d2) [46] (by simp only[WT,WQ,WV];omega);have c39:=cM (.tmp 33) (.tmp 38) (d0++[46]++d1++[46]++d2++[46]) d3 (by simp only[WT,WQ,WV];omega);have e:d0++[46]++d1++[46]++d2++[46]++d3=ff n:=by unfold ff;rw[←h0,←h1,←h2,←h3];simp[ax]
 have z0:W0 #[.string ⟨(d0++[46]++d1++[46]++d2++[46]++d3).toArray⟩,.int .i64 0]=.tuple #[.string ⟨(ff n).toArray⟩,.int .i64 0]:=by rw[e]
 refine Sx.ao (args:=[.agg (b7 false n).toArray]) [(9,.call (.int .i64 0)),(17,.is (.int .i64 ((ah n 0:Nat):Int))),(18,.call (.string ⟨d0.toArray⟩)),(19,.bin (.string ⟨(d0++[46]).toArray⟩)),(23,.is (.int .i64 ((ah n 1:Nat):Int))),(24,.call (.string ⟨d1.toArray⟩)),(25,.bin (.string ⟨(d0++[46]++d1).toArray⟩)),(26,.bin (.string ⟨(d0++[46]++d1++[46]).toArray⟩)),(30,.is (.int .i64 ((ah n 2:Nat):Int))),(31,.call (.string ⟨d2.toArray⟩)),(32,.bin (.string ⟨(d0++[46]++d1++[46]++d2).toArray⟩)),(33,.bin (.string ⟨(d0++[46]++d1++[46]++d2++[46]).toArray⟩)),(37,.is (.int .i64 ((ah n 3:Nat):Int))),(38,.call (.string ⟨d3.toArray⟩)),(39,.bin (.string ⟨(d0++[46]++d1++[46]++d2++[46]++d3).toArray⟩))] [] (by kernel_rfl) func47 rfl (bU rfl) ?_;exact WW (by kernel_rfl) (Sx.t8 c9 c17 c18 c19 c23 c24 c25 c26 (Sx.t4 c30 c31 c32 c33 (Sx.t2 c37 c38 (WU c39 z0))))
def sE(n a k i:Nat):List UInt8:=(Xc i).flatMap fun j=>eh a k j (an 16 (dZ n j))
theorem yj(n a k i:Nat):sE n a k (i+1)=sE n a k i++eh a k i (an 16 (dZ n i)):=by unfold sE;rw[List.range_succ,List.flatMap_append];simp
theorem RU(n a k:Nat):sE n a k 8=cY a k (aK n) 0:=by unfold sE aK;simp[cY,Xc,Xc.loop]
theorem MW(n a k i:Nat):(eh a k i (an 16 (dZ n i))).length≤7:=by have:=fH (Ax n i);unfold eh;simp only[WT];split<;>split<;>(try split)<;>simp<;>omega
theorem BM(n a k:Nat):∀i,(sE n a k i).length≤7*i
 | 0=>by simp[sE]
 |i+1=>by have h1:=BM n a k i;have h2:=MW n a k i;rw[yj,WT];omega
def qh(n a k i:Nat):List (Nat×Sx.SV):=[(1,.ptr 0 0),(4,.val (.int .i64 (a:Int))),(5,.val (.int .i64 (k:Int))),(6,.val (.string ⟨(sE n a k i).toArray⟩)),(7,.val (.int .i64 (i:Int)))]
def Nz(a k i:Nat)(s:List UInt8):List (Nat×Sx.SV):=[(1,.ptr 0 0),(4,.val (.int .i64 (a:Int))),(5,.val (.int .i64 (k:Int))),(6,.val (.string ⟨s.toArray⟩)),(7,.val (.int .i64 (i:Int)))]
def J1(n a k:Nat):List (Nat×Sx.SV):=[(6,.val (.string ⟨(sE n a k 8).toArray⟩))]
def Ws(n a k:Nat):Sx.Loop:=.mk Nat 0 (fun i=>i≤8) (qh n a k) (fun _=>bn true n) (fun i=>i+1) (fun i=>8 - i) Unit (fun _=>True) (fun _=>J1 n a k) (fun _=>bn true n) (fun _=>())
theorem mr{n a k i:Nat}{s:List UInt8}(h:s=sE n a k i):Nz a k i s=qh n a k i:=by rw[h];rfl
section
variable{n a k:Nat}{w:World}{Kr:Sx.St→Prop}
theorem J0(ha:a≤8)(hk:k≤8)(i:Nat)(hi:i≤8):∃H' L',Sx.ex prog 95 w (Sx.bq f47 0) H' L' ⟨qh n a k i,bn true n⟩ (Sx.dP (fun i=>i≤8) (qh n a k) (fun _=>bn true n) (fun i=>i+1) (fun i=>8 - i) (fun _=>True) (fun _=>J1 n a k) (fun _=>bn true n) (fun _=>()) 0 Kr i):=by
 by_cases h8:i < 8
 ·have c46:WN (decide ((i:Int) < 8))=.bool true:=bz (decide_eq_true (by omega))
  have c48:=mY (i:=i) (by omega);have c91:=fun W (_:ai [] w W)=>BU true n i h8 W;have c92:=fun W (_:ai [] w W)=>sD 16 (.inr rfl) (dZ n i) (by have:=Ax n i;omega) W;have ld:=fH (Ax n i);have lp:=BM n a k i;have hs:=yj n a k i;obtain⟨d,hd⟩:∃d,d=an 16 (dZ n i):=⟨_,rfl⟩;obtain⟨s,hsd⟩:∃s,s=sE n a k i:=⟨_,rfl⟩;have hfr:qh n a k i=Nz a k i s:=(mr hsd).symm;rw[←hd]at c92 ld hs;rw[←hsd]at lp hs;rw[hfr];have nx:i+1≤8:=h8;have mu:8 - (i+1) < 8 - i:=by omega
  have zm:bn true n=bn true n:=rfl;have c69:WS .i64 (WR.wrap ((a:Int)+(k:Int)))=.int .i64 ((a+k:Nat):Int):=iw (by rw[jC (by omega) (by omega)];rfl);have c81:=c69;by_cases hL:1 < k
  ·by_cases hia:i=a
   ·have c50:WN (decide ((k:Int) > 1))=.bool true:=bz (decide_eq_true (by omega))
    have c59:WN (decide ((k:Int) > 1))=.bool true:=bz (decide_eq_true (by omega));have c54:WN ((i:Int)==(a:Int))=.bool true:=bz (beq_iff_eq.2 (by omega));have c57:=cM (.tmp 56) (.const (.string ⟨#[58,58]⟩)) s [58,58] (by simp only[WQ,WV];omega);have c63:WN (decide ((i:Int)≥(a:Int)))=.bool true:=bz (decide_eq_true (by omega));have c70:WN (decide ((i:Int) < ((a+k:Nat):Int)))=.bool true:=bz (decide_eq_true (by omega));have h2:Nz a k (i+1) (s++[58,58])=qh n a k (i+1):=mr (by rw[hs];unfold eh;rw[if_pos (by omega),if_pos (by omega)];simp);have h0:=nx;have h1:=mu;have z3:=zm;refine⟨[(46,.is (.bool true)),(48,.is (.int .i64 ((i+1:Nat):Int))),(50,.is (.bool true)),(59,.is (.bool true)),(54,.is (.bool true)),(57,.bin (.string ⟨(s++[58,58]).toArray⟩)),(63,.is (.bool true)),(69,.is (.int .i64 ((a+k:Nat):Int))),(70,.is (.bool true))],[],?_⟩;exact WW (by kernel_rfl) (Sx.t8 c46 c50 c54 c57 c59 c63 c69 c70 (Sx.t4 c48 h0 h1 h2 z3))
   ·by_cases hge:a≤i
    ·by_cases hlt:i < a+k
     ·have c50:WN (decide ((k:Int) > 1))=.bool true:=bz (decide_eq_true (by omega))
      have c59:WN (decide ((k:Int) > 1))=.bool true:=bz (decide_eq_true (by omega));have c54:WN ((i:Int)==(a:Int))=.bool false:=bz (beq_eq_false_iff_ne.2 (by omega));have c63:WN (decide ((i:Int)≥(a:Int)))=.bool true:=bz (decide_eq_true (by omega));have c70:WN (decide ((i:Int) < ((a+k:Nat):Int)))=.bool true:=bz (decide_eq_true (by omega));have h2:Nz a k (i+1) s=qh n a k (i+1):=mr (by rw[hs];unfold eh;rw[if_neg (by omega),if_pos (by omega)];simp);have h0:=nx;have h1:=mu;have z3:=zm;refine⟨[(46,.is (.bool true)),(48,.is (.int .i64 ((i+1:Nat):Int))),(50,.is (.bool true)),(59,.is (.bool true)),(54,.is (.bool false)),(63,.is (.bool true)),(69,.is (.int .i64 ((a+k:Nat):Int))),(70,.is (.bool true))],[],?_⟩;exact WW (by kernel_rfl) (Sx.t8 c46 c50 c54 c59 c63 c69 c70 c48 (Sx.t2 h0 h1 (WU h2 z3)))
     ·by_cases hend:i=a+k
      ·have c50:WN (decide ((k:Int) > 1))=.bool true:=bz (decide_eq_true (by omega))
       have c59:WN (decide ((k:Int) > 1))=.bool true:=bz (decide_eq_true (by omega));have c54:WN ((i:Int)==(a:Int))=.bool false:=bz (beq_eq_false_iff_ne.2 (by omega));have c63:WN (decide ((i:Int)≥(a:Int)))=.bool true:=bz (decide_eq_true (by omega));have c70:WN (decide ((i:Int) < ((a+k:Nat):Int)))=.bool false:=bz (decide_eq_false (by omega));have c73:WN (decide ((i:Int) > 0))=.bool true:=bz (decide_eq_true (by omega));have c76:WN (decide ((k:Int) > 1))=.bool true:=bz (decide_eq_true (by omega));have c82:WN ((i:Int)==((a+k:Nat):Int))=.bool true:=bz (beq_iff_eq.2 (by omega));have c93:=cM (.tmp 88) (.tmp 92) s d (by omega);have h2:Nz a k (i+1) (s++d)=qh n a k (i+1):=mr (by rw[hs];unfold eh;rw[if_neg (by omega),if_neg (by omega),if_neg (by omega)];simp);have h0:=nx;have h1:=mu;have z3:=zm;refine⟨[(46,.is (.bool true)),(48,.is (.int .i64 ((i+1:Nat):Int))),(50,.is (.bool true)),(59,.is (.bool true)),(54,.is (.bool false)),(63,.is (.bool true)),(69,.is (.int .i64 ((a+k:Nat):Int))),(70,.is (.bool false)),(73,.is (.bool true)),(76,.is (.bool true)),(81,.is (.int .i64 ((a+k:Nat):Int))),(82,.is (.bool true)),(91,.call (.int .i64 (dZ n i:Nat))),(92,.call (.string ⟨d.toArray⟩)),(93,.bin (.string ⟨(s++d).toArray⟩))],[],?_⟩;exact WW (by kernel_rfl) (Sx.t8 c46 c50 c54 c59 c63 c69 c70 c73 (Sx.t8 c76 c81 c82 c91 c92 c93 c48 h0 (Sx.t2 h1 h2 z3)))
      ·have c50:WN (decide ((k:Int) > 1))=.bool true:=bz (decide_eq_true (by omega))
       have c59:WN (decide ((k:Int) > 1))=.bool true:=bz (decide_eq_true (by omega));have c54:WN ((i:Int)==(a:Int))=.bool false:=bz (beq_eq_false_iff_ne.2 (by omega));have c63:WN (decide ((i:Int)≥(a:Int)))=.bool true:=bz (decide_eq_true (by omega));have c70:WN (decide ((i:Int) < ((a+k:Nat):Int)))=.bool false:=bz (decide_eq_false (by omega));have c73:WN (decide ((i:Int) > 0))=.bool true:=bz (decide_eq_true (by omega));have c76:WN (decide ((k:Int) > 1))=.bool true:=bz (decide_eq_true (by omega));have c82:WN ((i:Int)==((a+k:Nat):Int))=.bool false:=bz (beq_eq_false_iff_ne.2 (by omega));have c87:=cM (.tmp 86) (.const (.string ⟨#[58]⟩)) s [58] (by simp only[WQ,WV];omega);have c93:=cM (.tmp 88) (.tmp 92) (s++[58]) d (by simp only[WT,WQ,WV];omega);have h2:Nz a k (i+1) ((s++[58])++d)=qh n a k (i+1):=mr (by rw[hs];unfold eh;rw[if_neg (by omega),if_neg (by omega),if_pos (by omega)];simp);have h0:=nx;have h1:=mu;have z3:=zm;refine⟨[(46,.is (.bool true)),(48,.is (.int .i64 ((i+1:Nat):Int))),(50,.is (.bool true)),(59,.is (.bool true)),(54,.is (.bool false)),(63,.is (.bool true)),(69,.is (.int .i64 ((a+k:Nat):Int))),(70,.is (.bool false)),(73,.is (.bool true)),(76,.is (.bool true)),(81,.is (.int .i64 ((a+k:Nat):Int))),(82,.is (.bool false)),(87,.bin (.string ⟨(s++[58]).toArray⟩)),(91,.call (.int .i64 (dZ n i:Nat))),(92,.call (.string ⟨d.toArray⟩)),(93,.bin (.string ⟨((s++[58])++d).toArray⟩))],[],?_⟩;exact WW (by kernel_rfl) (Sx.t8 c46 c50 c54 c59 c63 c69 c70 c73 (Sx.t8 c76 c81 c82 c87 c91 c92 c93 c48 (Sx.t2 h0 h1 (WU h2 z3))))
    ·by_cases hp:0 < i
     ·have c50:WN (decide ((k:Int) > 1))=.bool true:=bz (decide_eq_true (by omega))
      have c59:WN (decide ((k:Int) > 1))=.bool true:=bz (decide_eq_true (by omega));have c54:WN ((i:Int)==(a:Int))=.bool false:=bz (beq_eq_false_iff_ne.2 (by omega));have c63:WN (decide ((i:Int)≥(a:Int)))=.bool false:=bz (decide_eq_false (by omega));have c73:WN (decide ((i:Int) > 0))=.bool true:=bz (decide_eq_true (by omega));have c76:WN (decide ((k:Int) > 1))=.bool true:=bz (decide_eq_true (by omega));have c82:WN ((i:Int)==((a+k:Nat):Int))=.bool false:=bz (beq_eq_false_iff_ne.2 (by omega));have c87:=cM (.tmp 86) (.const (.string ⟨#[58]⟩)) s [58] (by simp only[WQ,WV];omega);have c93:=cM (.tmp 88) (.tmp 92) (s++[58]) d (by simp only[WT,WQ,WV];omega);have h2:Nz a k (i+1) ((s++[58])++d)=qh n a k (i+1):=mr (by rw[hs];unfold eh;rw[if_neg (by omega),if_neg (by omega),if_pos (by omega)];simp);have h0:=nx;have h1:=mu;have z3:=zm;refine⟨[(46,.is (.bool true)),(48,.is (.int .i64 ((i+1:Nat):Int))),(50,.is (.bool true)),(59,.is (.bool true)),(54,.is (.bool false)),(63,.is (.bool false)),(73,.is (.bool true)),(76,.is (.bool true)),(81,.is (.int .i64 ((a+k:Nat):Int))),(82,.is (.bool false)),(87,.bin (.string ⟨(s++[58]).toArray⟩)),(91,.call (.int .i64 (dZ n i:Nat))),(92,.call (.string ⟨d.toArray⟩)),(93,.bin (.string ⟨((s++[58])++d).toArray⟩))],[],?_⟩;exact WW (by kernel_rfl) (Sx.t8 c46 c50 c54 c59 c63 c73 c76 c81 (Sx.t8 c82 c87 c91 c92 c93 c48 h0 h1 (WU h2 z3)))
     ·have c50:WN (decide ((k:Int) > 1))=.bool true:=bz (decide_eq_true (by omega))
      have c59:WN (decide ((k:Int) > 1))=.bool true:=bz (decide_eq_true (by omega));have c54:WN ((i:Int)==(a:Int))=.bool false:=bz (beq_eq_false_iff_ne.2 (by omega));have c63:WN (decide ((i:Int)≥(a:Int)))=.bool false:=bz (decide_eq_false (by omega));have c73:WN (decide ((i:Int) > 0))=.bool false:=bz (decide_eq_false (by omega));have c93:=cM (.tmp 88) (.tmp 92) s d (by omega);have h2:Nz a k (i+1) (s++d)=qh n a k (i+1):=mr (by rw[hs];unfold eh;rw[if_neg (by omega),if_neg (by omega),if_neg (by omega)];simp);have h0:=nx;have h1:=mu;have z3:=zm;refine⟨[(46,.is (.bool true)),(48,.is (.int .i64 ((i+1:Nat):Int))),(50,.is (.bool true)),(59,.is (.bool true)),(54,.is (.bool false)),(63,.is (.bool false)),(73,.is (.bool false)),(91,.call (.int .i64 (dZ n i:Nat))),(92,.call (.string ⟨d.toArray⟩)),(93,.bin (.string ⟨(s++d).toArray⟩))],[],?_⟩;exact WW (by kernel_rfl) (Sx.t8 c46 c50 c54 c59 c63 c73 c91 c92 (Sx.t4 c93 c48 h0 h1 (WU h2 z3)))
  ·by_cases hp:0 < i
   ·have c50:WN (decide ((k:Int) > 1))=.bool false:=bz (decide_eq_false (by omega))
    have c59:WN (decide ((k:Int) > 1))=.bool false:=bz (decide_eq_false (by omega));have c73:WN (decide ((i:Int) > 0))=.bool true:=bz (decide_eq_true (by omega));have c76:WN (decide ((k:Int) > 1))=.bool false:=bz (decide_eq_false (by omega));have c87:=cM (.tmp 86) (.const (.string ⟨#[58]⟩)) s [58] (by simp only[WQ,WV];omega);have c93:=cM (.tmp 88) (.tmp 92) (s++[58]) d (by simp only[WT,WQ,WV];omega);have h2:Nz a k (i+1) ((s++[58])++d)=qh n a k (i+1):=mr (by rw[hs];unfold eh;rw[if_neg (by omega),if_neg (by omega),if_pos (by omega)];simp);have h0:=nx;have h1:=mu;have z3:=zm;refine⟨[(46,.is (.bool true)),(48,.is (.int .i64 ((i+1:Nat):Int))),(50,.is (.bool false)),(59,.is (.bool false)),(73,.is (.bool true)),(76,.is (.bool false)),(87,.bin (.string ⟨(s++[58]).toArray⟩)),(91,.call (.int .i64 (dZ n i:Nat))),(92,.call (.string ⟨d.toArray⟩)),(93,.bin (.string ⟨((s++[58])++d).toArray⟩))],[],?_⟩;exact WW (by kernel_rfl) (Sx.t8 c46 c50 c59 c73 c76 c87 c91 c92 (Sx.t4 c93 c48 h0 h1 (WU h2 z3)))
   ·have c50:WN (decide ((k:Int) > 1))=.bool false:=bz (decide_eq_false (by omega))
    have c59:WN (decide ((k:Int) > 1))=.bool false:=bz (decide_eq_false (by omega));have c73:WN (decide ((i:Int) > 0))=.bool false:=bz (decide_eq_false (by omega));have c93:=cM (.tmp 88) (.tmp 92) s d (by omega);have h2:Nz a k (i+1) (s++d)=qh n a k (i+1):=mr (by rw[hs];unfold eh;rw[if_neg (by omega),if_neg (by omega),if_neg (by omega)];simp);have h0:=nx;have h1:=mu;have z3:=zm;refine⟨[(46,.is (.bool true)),(48,.is (.int .i64 ((i+1:Nat):Int))),(50,.is (.bool false)),(59,.is (.bool false)),(73,.is (.bool false)),(91,.call (.int .i64 (dZ n i:Nat))),(92,.call (.string ⟨d.toArray⟩)),(93,.bin (.string ⟨(s++d).toArray⟩))],[],?_⟩;exact WW (by kernel_rfl) (Sx.t8 c46 c50 c59 c73 c91 c92 c93 c48 (Sx.t2 h0 h1 (WU h2 z3)))
 ·have c46:WN (decide ((i:Int) < 8))=.bool false:=bz (decide_eq_false (by omega))
  have h0:True:=trivial;have h1:[(6,Sx.SV.val (.string ⟨(sE n a k i).toArray⟩))]=J1 n a k:=by rw[show i=8 by omega];rfl
  have z2:bn true n=bn true n:=rfl;refine⟨[(46,.is (.bool false))],[],?_⟩;exact WW (by kernel_rfl) (Sx.t2 c46 h0 (WU h1 z2))
end
theorem OL{n:Nat}(hn:n < 2^128)(h:iM true n=true)(w:World):Calls prog 47 #[.agg (b7 true n).toArray] w (Rn w (.tuple #[.string ⟨(cB (aK n)).toArray⟩,.int .i64 0])):=by
 have c9:=fun W (_:ai [] w W)=>gO true n hn W;rw[show dz true n=0 by unfold dz;rw[h];rfl]at c9;have uh:=fun W (_:ai [] w W)=>TF true n W;have hb:=Az (dZ n 0==0) (dZ n 1==0) (dZ n 2==0) (dZ n 3==0) (dZ n 4==0) (dZ n 5==0) (dZ n 6==0) (dZ n 7==0);have ht:=DY n;have hz:zs (aK n)=[dZ n 0==0,dZ n 1==0,dZ n 2==0,dZ n 3==0,dZ n 4==0,dZ n 5==0,dZ n 6==0,dZ n 7==0]:=rfl;rw[←hz]at hb;obtain⟨a,ha⟩:∃a,a=(jl (zs (aK n))).1:=⟨_,rfl⟩;obtain⟨k,hk⟩:∃k,k=(jl (zs (aK n))).2:=⟨_,rfl⟩;have hak:=hb.2.1;rw[←ha,←hk]at hak uh ht;have z5:W0 #[.string ⟨(sE n a k 8).toArray⟩,.int .i64 0]=.tuple #[.string ⟨(cB (aK n)).toArray⟩,.int .i64 0]:=by rw[RU,ht]
 refine Sx.ao (args:=[.agg (b7 true n).toArray]) [(9,.call (.int .i64 0)),(42,.call (.tuple #[.int .i64 (a:Int),.int .i64 (k:Int)]))] [Ws n a k] (by kernel_rfl) func47 rfl (bU rfl) ?_;have h0:0≤8:=by omega
 have e1:qh n a k 0=qh n a k 0∧bn true n=bn true n:=⟨rfl,rfl⟩;have jz:=fun(i:Nat) (hi:i≤8)=>J0 (n:=n) (a:=a) (k:=k) (w:=w) (Kr:=Sx.atEnd prog f47 (fun u=>u=.tuple #[.string ⟨(cB (aK n)).toArray⟩,.int .i64 0]) .ret) (by omega) (by omega) i hi;exact WW (by kernel_rfl) (Sx.t4 c9 uh h0 e1 (WU jz (fun(x:Unit) (hx4:True)=>z5)))
theorem tA(v:Bool)(n:Nat)(hn:n < 2^128)(w:World):Calls prog 47 #[.agg (b7 v n).toArray] w (Rn w (.tuple #[.string ⟨(fK v n).toArray⟩,.int .i64 (dz v n)])):=by
 cases h:iM v n with
 |false=>rw[show fK v n=[] by unfold fK;rw[h];rfl,show dz v n=150 by unfold dz;rw[h];rfl];exact Im hn h w
 |true=>
  rw[show fK v n=eO v n by unfold fK;rw[if_pos h],show dz v n=0 by unfold dz;rw[if_pos h]];cases v with
  |false=>exact OM hn h w
  |true=>exact OL hn h w
theorem Kv{v:Bool}{n K:Nat}(hn:n < 2^128)(h:fW v n K=true)(w:World):Calls prog 52 #[.agg (cZ v n K).toArray] w (Rn w (.tuple #[.string ⟨(iV v n K).toArray⟩,.int .i64 0])):=by
 have hb:=oh h;have c7:=fun W (_:ai [] w W)=>BK v n K hn W;rw[show cU v n K=0 by unfold cU;rw[if_pos h]]at c7;have c12:=fun W (_:ai [] w W)=>tA v n hn W;have hA:=ph h;rw[show fK v n=eO v n by unfold fK;rw[if_pos hA],show dz v n=0 by unfold dz;rw[if_pos hA]]at c12;have hl:=si v n;have h4:=iF (u:=K) (by omega);have jM:=cM (.tmp 15) (.const (.string ⟨#[47]⟩)) (eO v n) [47] (by simp only[WQ,WV];omega);have c19:=fun W (_:ai [] w W)=>sD 10 (.inl rfl) K (by omega) W;have c20:=cM (.tmp 16) (.tmp 19) (eO v n++[47]) (an 10 K) (by simp only[WT,WQ,WV];omega);have z0:W0 #[.string ⟨(eO v n++[47]++an 10 K).toArray⟩,.int .i64 0]=.tuple #[.string ⟨(iV v n K).toArray⟩,.int .i64 0]:=by unfold iV;rw[W7];simp
 refine Sx.ao (args:=[.agg (cZ v n K).toArray]) [(7,.call (.int .i64 0)),(12,.call (.tuple #[.string ⟨(eO v n).toArray⟩,.int .i64 0])),(16,.bin (.string ⟨(eO v n++[47]).toArray⟩)),(19,.call (.string ⟨(an 10 K).toArray⟩)),(20,.bin (.string ⟨(eO v n++[47]++an 10 K).toArray⟩))] [] (by kernel_rfl) func52 rfl (bU rfl) ?_;exact WW (by kernel_rfl) (Sx.t4 c7 c12 jM c19 (WU c20 z0))
theorem Hx{v:Bool}{n:Nat}{k:Int}(hn:n < 2^128)(h:fW v n k=false)(w:World):Calls prog 52 #[.agg (cZ v n k).toArray] w (Rn w (.tuple #[.string ⟨#[]⟩,.int .i64 151])):=by have c7:=fun W (_:ai [] w W)=>BK v n k hn W;rw[show cU v n k=151 by unfold cU;rw[h];rfl]at c7;have z0:W0 #[.string ⟨#[]⟩,.int .i64 151]=.tuple #[.string ⟨#[]⟩,.int .i64 151]:=rfl;refine Sx.ao (args:=[.agg (cZ v n k).toArray]) [(7,.call (.int .i64 151))] [] (by kernel_rfl) func52 rfl (bU rfl) ?_;exact WW (by kernel_rfl) (WU c7 z0)
theorem Ov(v:Bool)(n:Nat)(k:Int)(hn:n < 2^128)(w:World):Calls prog 52 #[.agg (cZ v n k).toArray] w (Rn w (.tuple #[.string ⟨(j7 v n k).toArray⟩,.int .i64 (cU v n k)])):=by
 cases h:fW v n k with
 |false=>rw[show j7 v n k=[] by unfold j7;rw[h];rfl,show cU v n k=151 by unfold cU;rw[h];rfl];exact Hx hn h w
 |true=>rw[show j7 v n k=iV v n k by unfold j7;rw[if_pos h],show cU v n k=0 by unfold cU;rw[if_pos h]];obtain⟨k0,_⟩:=oh h;obtain⟨K,rfl⟩:=Int.eq_ofNat_of_zero_le k0;exact Kv hn h w
set_option maxRecDepth 100000
open Go.RowKit Go.Lib Go.Sort _root_.Go.Proofs.Tryz
set_option maxRecDepth 100000
def u8(c:UInt8):Value:=.int .u8 (c.toNat:Int)
theorem JY(c:UInt8):c.toNat < 256:=c.toNat_lt
theorem iu{a b:Int}(h:a=b):WS .u8 a=.int .u8 b:=by rw[h]
theorem Rb{a:Int}(h0:0≤a)(h1:a≤255):Xg.wrap a=a:=IntWalk.u8_in _ ⟨h0,h1⟩
theorem UE(c:UInt8)(w:World):Calls prog 162 #[u8 c] w (Rn w (.int .i64 (fY c))):=by
 have hc:=JY c;have fin:∀(h1:Bool) (h2:Bool),h1=decide ((c.toNat:Int)≥48)→h2=decide ((c.toNat:Int)≤57)→(h1&&h2)=false→Calls prog 162 #[u8 c] w (Rn w (.int .i64 (fY c))):=by
  intro h1 h2 e1 e2 he;have c4:WN (decide ((c.toNat:Int)≥48))=.bool h1:=by rw[e1]
  have c7:WN (decide ((c.toNat:Int)≤57))=.bool h2:=by rw[e2]
  have hno:¬(48≤c.toNat∧c.toNat≤57):=by rintro⟨a,b⟩;rw[e1,e2,decide_eq_true (by omega),decide_eq_true (by omega)]at he;cases he
  clear e1 e2;by_cases h3:97≤c.toNat
  ·have c13:WN (decide ((c.toNat:Int)≥97))=.bool true:=by rw[decide_eq_true (by omega)]
   by_cases h4:c.toNat≤102
   ·have jM:WN (decide ((c.toNat:Int)≤102))=.bool true:=by rw[decide_eq_true (by omega)]
    have c19:WS .u8 (Xg.wrap ((c.toNat:Int) - 97))=.int .u8 ((c.toNat:Int) - 97):=iu (Rb (by omega) (by omega));have c20:WS .i64 (WR.wrap ((c.toNat:Int) - 97))=.int .i64 ((c.toNat:Int) - 97):=iw (jC (by omega) (by omega));have c21:WS .i64 (WR.wrap ((c.toNat:Int) - 97+10))=.int .i64 ((c.toNat:Int) - 97+10):=iw (jC (by omega) (by omega));have z0:WS .i64 ((c.toNat:Int) - 97+10)=.int .i64 (fY c):=by unfold fY; rw[if_neg hno,if_pos ⟨h3,h4⟩]
    cases h1 with
    |false=>refine Sx.ao (args:=[u8 c]) [(4,.is (.bool false)),(13,.is (.bool true)),(16,.is (.bool true)),(19,.is (.int .u8 ((c.toNat:Int) - 97))),(20,.is (.int .i64 ((c.toNat:Int) - 97))),(21,.is (.int .i64 ((c.toNat:Int) - 97+10)))] [] (by kernel_rfl) func162 rfl (bU rfl) ?_;exact WW (by kernel_rfl) (Sx.t4 c4 c13 jM c19 (Sx.t2 c20 c21 z0))
    |true=>cases h2 with
     |true=>cases he
     |false=>refine Sx.ao (args:=[u8 c]) [(4,.is (.bool true)),(7,.is (.bool false)),(13,.is (.bool true)),(16,.is (.bool true)),(19,.is (.int .u8 ((c.toNat:Int) - 97))),(20,.is (.int .i64 ((c.toNat:Int) - 97))),(21,.is (.int .i64 ((c.toNat:Int) - 97+10)))] [] (by kernel_rfl) func162 rfl (bU rfl) ?_;exact WW (by kernel_rfl) (Sx.t4 c4 c7 c13 jM (Sx.t2 c19 c20 (WU c21 z0)))
   ·have jM:WN (decide ((c.toNat:Int)≤102))=.bool false:=by rw[decide_eq_false (by omega)]
    have z0:WS .i64 (-1)=.int .i64 (fY c):=by unfold fY;rw[if_neg hno,if_neg (by omega)]
    cases h1 with
    |false=>refine Sx.ao (args:=[u8 c]) [(4,.is (.bool false)),(13,.is (.bool true)),(16,.is (.bool false))] [] (by kernel_rfl) func162 rfl (bU rfl) ?_;exact WW (by kernel_rfl) (Sx.t2 c4 c13 (WU jM z0))
    |true=>cases h2 with
     |true=>cases he
     |false=>refine Sx.ao (args:=[u8 c]) [(4,.is (.bool true)),(7,.is (.bool false)),(13,.is (.bool true)),(16,.is (.bool false))] [] (by kernel_rfl) func162 rfl (bU rfl) ?_;exact WW (by kernel_rfl) (Sx.t4 c4 c7 c13 jM z0)
  ·have c13:WN (decide ((c.toNat:Int)≥97))=.bool false:=by rw[decide_eq_false (by omega)]
   have z0:WS .i64 (-1)=.int .i64 (fY c):=by unfold fY;rw[if_neg hno,if_neg (by omega)]
   cases h1 with
   |false=>refine Sx.ao (args:=[u8 c]) [(4,.is (.bool false)),(13,.is (.bool false))] [] (by kernel_rfl) func162 rfl (bU rfl) ?_;exact WW (by kernel_rfl) (Sx.t2 c4 c13 z0)
   |true=>cases h2 with
    |true=>cases he
    |false=>refine Sx.ao (args:=[u8 c]) [(4,.is (.bool true)),(7,.is (.bool false)),(13,.is (.bool false))] [] (by kernel_rfl) func162 rfl (bU rfl) ?_;exact WW (by kernel_rfl) (Sx.t2 c4 c7 (WU c13 z0))
 by_cases h:(decide ((c.toNat:Int)≥48)&&decide ((c.toNat:Int)≤57))=false
 ·exact fin _ _ rfl rfl h
 ·rw[Bool.not_eq_false,WZ]at h
  have h1:=of_decide_eq_true h.1;have h2:=of_decide_eq_true h.2;have c4:WN (decide ((c.toNat:Int)≥48))=.bool true:=by rw[decide_eq_true h1]
  have c7:WN (decide ((c.toNat:Int)≤57))=.bool true:=by rw[decide_eq_true h2]
  have c10:WS .u8 (Xg.wrap ((c.toNat:Int) - 48))=.int .u8 ((c.toNat:Int) - 48):=iu (Rb (by omega) (by omega));have gb:WS .i64 (WR.wrap ((c.toNat:Int) - 48))=.int .i64 ((c.toNat:Int) - 48):=iw (jC (by omega) (by omega));have z0:WS .i64 ((c.toNat:Int) - 48)=.int .i64 (fY c):=by unfold fY; rw[if_pos (by omega)]
  refine Sx.ao (args:=[u8 c]) [(4,.is (.bool true)),(7,.is (.bool true)),(10,.is (.int .u8 ((c.toNat:Int) - 48))),(11,.is (.int .i64 ((c.toNat:Int) - 48)))] [] (by kernel_rfl) func162 rfl (bU rfl) ?_;exact WW (by kernel_rfl) (Sx.t4 c4 c7 c10 gb z0)
structure A0 where
 i:Nat
 n:Nat
 m:Nat
 out:List Nat
def ints(l:List Nat):List Value:=l.map fun(n:Nat)=>.int .i64 (n:Int)
def iN(s:List UInt8)(k:A0):A0:=match s[k.i]? with
 |none=>⟨k.i+1,0,0,k.out++[k.n]⟩
 |some c=>if c=58 then⟨k.i+1,0,0,k.out++[k.n]⟩else⟨k.i+1,16*k.n+(fY c).toNat,k.m+1,k.out⟩
def Eu(s:List UInt8)(T:Option (List Nat))(k:A0):Prop:=k.m≤5∧k.n < 16^k.m∧k.out.length≤8∧((k.i≤s.length∧nB (s.drop k.i) k.n k.m k.out=T)∨(k.i=s.length+1∧T=some k.out))
def jo(T:Option (List Nat)):Sx.gA:=match T with
 |some l=>.nu [] 3 1 l.length (ints l) [.bool true]
 |none=>.val (.tuple #[.slice none 0 0,.bool false])
def Lr(s:List UInt8)(k:A0):List (Nat×Sx.SV):=[(0,.val (.string ⟨s.toArray⟩)),(4,.own 0),(5,.val (.int .i64 (k.n:Int))),(6,.val (.int .i64 (k.m:Int))),(7,.val (.int .i64 (k.i:Int)))]
def Ew(k:A0):List Sx.Row:=[⟨3,.own 1 k.out.length (ints k.out)⟩]
theorem lF(s:List UInt8)(i:Nat)(c:UInt8)(h:s[i]?=some c)(W:World):(Instr.index 9 (.string ⟨s.toArray⟩) (.int .i64 (i:Int))).run prog W=.ok (u8 c) W:=by obtain⟨hlt,hc⟩:=WO.1 h;rw[run_index_string W 9 ⟨s.toArray⟩ .i64 (i:Int) underlying9,dif_pos ⟨by omega,by simpa[ByteArray.size]using hlt⟩];subst hc;simp[u8,ByteArray.getElem_eq_getElem_data]
theorem eu{κ ι:Type}{R:κ→Prop}{fr:κ→List (Nat×Sx.SV)}{mem:κ→List Sx.Row}{next:κ→κ}{μ:κ→Nat}{Ro:ι→Prop}{fro:ι→List (Nat×Sx.SV)}{memo:ι→List Sx.Row}{which:κ→ι}{id:Nat}{Kr:Sx.St→Prop}{k k':κ}(h:next k=k') :
  Sx.dP R fr mem next μ Ro fro memo which id Kr k=Sx.dP R fr mem (fun _=>k') μ Ro fro memo which id Kr k:=by
 funext e st;cases e<;>simp only[Sx.dP,h]
theorem iY(s:List UInt8):WS .i64 (((⟨s.toArray⟩:ByteArray).size:Nat):Int)=.int .i64 (s.length:Int):=iw (by simp[ByteArray.size])
theorem qI{b:Bool}(h:b=true):WN b=.bool true:=by rw[h]
theorem qa{b:Bool}(h:b=false):WN b=.bool false:=by rw[h]
theorem IE(s:List UInt8)(T:Option (List Nat))(w:World)(hs:s.length≤100000000)(k:A0)(hk:Eu s T k):∃H' L',Sx.ex prog 61 w (Sx.bq f100 0) H' L' ⟨Lr s k,Ew k⟩
  (Sx.dP (Eu s T) (Lr s) Ew (iN s) (fun k=>s.length+2 - k.i) (fun(out:List Nat)=>T=some out) (fun _=>[(4,.own 0)]) (fun out=>[⟨3,.own 1 out.length (ints out)⟩]) (fun k=>k.out) (Sx.eo (Sx.bq f100 0) - 1) (Sx.sZ prog f100 (fun u=>u=jo T) .ret) k):=by
 obtain⟨i,n,m,out⟩:=k;obtain⟨hm,hn,ho,hk⟩:=hk;simp only at hm hn ho hk;have hn':n < 16^5:=W5 hn (Nat.pow_le_pow_right (by omega) hm);have hn':n < 1048576:=hn';have c13:=iY s;have c19:=iY s;rcases hk with⟨hi,hk⟩ | ⟨hi,hk⟩
 ·have c14:=bT ((i:Int)≤(s.length:Int)) (by omega)
  have jM:=mY (i:=i) (by omega);have QZ:True∧(Xy (1*1) (Xz 0 (WS WR (n:Int)).cells.toList)).length=1*1∧(∀(u:Value),u∈Xy (1*1) (Xz 0 (WS WR (n:Int)).cells.toList)→u.oneCell'=true)∧out.length+1≤maxLen∧(out.length+1)*8≤140737488355328:=by refine⟨trivial,rfl,?_,by unfold maxLen;omega,by omega⟩;intro u hu;have hu:u∈[WS WR (n:Int)]:=hu;rw[Xi.1 hu];rfl
  have z3:[(⟨3,.own 1 (out.length+1) (ints out++[.int .i64 (n:Int)])⟩:Sx.Row)]=[⟨3,.own 1 (out++[n]).length (ints (out++[n]))⟩]:=by simp[ints]
  rcases Nat.lt_or_eq_of_le hi with hlt|he
  ·obtain⟨c,hc⟩:∃c,s[i]?=some c:=⟨_,WX hlt⟩
   have hdrop:s.drop i=c::s.drop (i+1):=by rw[List.drop_eq_getElem_cons hlt];have:=WX hlt;rw[hc]at this;rw[Option.some.inj this]
   rw[hdrop,nB]at hk;have c20:WN ((i:Int)==(s.length:Int))=.bool false:=qa (by simp;omega);have c24:=lF s i c hc;by_cases h58:c=58
   ·rw[if_pos h58]at hk
    have c25:WN ((c.toNat:Int)==58)=.bool true:=qI (by rw[h58];rfl);have hnx:iN s ⟨i,n,m,out⟩=⟨i+1,0,0,out++[n]⟩:=by simp only[iN,hc,if_pos h58]
    by_cases hm0:m=0
    ·have hT:T=none:=by rw[if_pos (.inl hm0)]at hk;exact hk.symm
     have c28:WN ((m:Int)==0)=.bool true:=qI (by simp;omega);have z0:Sx.gA.val (.tuple #[.slice none 0 0,.bool false])=jo T:=by rw[hT];rfl
     refine⟨[(13,.is (.int .i64 (s.length:Int))),(14,.is (.bool true)),(19,.is (.int .i64 (s.length:Int))),(20,.is (.bool false)),(24,.bin (u8 c)),(25,.is (.bool true)),(28,.is (.bool true))],[],?_⟩;exact WW (by kernel_rfl) (Sx.t4 c13 c14 c19 c20 (Sx.t2 c24 c25 (WU c28 z0)))
    ·have c28:WN ((m:Int)==0)=.bool false:=qa (by simp;omega)
     by_cases h4:4 < m
     ·have hT:T=none:=by rw[if_pos (.inr (.inl h4))]at hk;exact hk.symm
      have c31:=bT ((m:Int) > 4) (by omega);have z0:Sx.gA.val (.tuple #[.slice none 0 0,.bool false])=jo T:=by rw[hT];rfl
      refine⟨[(13,.is (.int .i64 (s.length:Int))),(14,.is (.bool true)),(19,.is (.int .i64 (s.length:Int))),(20,.is (.bool false)),(24,.bin (u8 c)),(25,.is (.bool true)),(28,.is (.bool false)),(31,.is (.bool true))],[],?_⟩;exact WW (by kernel_rfl) (Sx.t8 c13 c14 c19 c20 c24 c25 c28 c31 z0)
     ·have c31:=bF ((m:Int) > 4) (by omega)
      by_cases h8:out.length=8
      ·have hT:T=none:=by rw[if_pos (.inr (.inr h8))]at hk;exact hk.symm
       have xR:WN ((out.length:Int)==8)=.bool true:=qI (by simp;omega);have z0:Sx.gA.val (.tuple #[.slice none 0 0,.bool false])=jo T:=by rw[hT];rfl
       refine⟨[(13,.is (.int .i64 (s.length:Int))),(14,.is (.bool true)),(19,.is (.int .i64 (s.length:Int))),(20,.is (.bool false)),(24,.bin (u8 c)),(25,.is (.bool true)),(28,.is (.bool false)),(31,.is (.bool false)),(36,.is (.bool true))],[],?_⟩;exact WW (by kernel_rfl) (Sx.t8 c13 c14 c19 c20 c24 c25 c28 c31 (WU xR z0))
      ·have xR:WN ((out.length:Int)==8)=.bool false:=qa (by simp;omega)
       rw[if_neg (by omega)]at hk;have h0:Eu s T ⟨i+1,0,0,out++[n]⟩:=⟨W2 _,by show 0 < 16^0;decide,by show(out++[n]).length≤8;rw[WT,Xf];omega,.inl ⟨hlt,hk⟩⟩;have h1:s.length+2 - (⟨i+1,0,0,out++[n]⟩:A0).i < s.length+2 - i:=by show s.length+2 - (i+1) < _; omega
       have h2:[((0:Nat),Sx.SV.val (.string ⟨s.toArray⟩)),(4,.own 2),(5,.val (.int .i64 ((0:Nat):Int))),(6,.val (.int .i64 ((0:Nat):Int))),(7,.val (.int .i64 ((i+1:Nat):Int)))]=[((0:Nat),Sx.SV.val (.string ⟨s.toArray⟩)),(4,.own 2),(5,.val (.int .i64 ((0:Nat):Int))),(6,.val (.int .i64 ((0:Nat):Int))),(7,.val (.int .i64 ((i+1:Nat):Int)))]:=rfl;refine⟨[(13,.is (.int .i64 (s.length:Int))),(14,.is (.bool true)),(19,.is (.int .i64 (s.length:Int))),(20,.is (.bool false)),(24,.bin (u8 c)),(25,.is (.bool true)),(28,.is (.bool false)),(31,.is (.bool false)),(36,.is (.bool false)),(16,.is (.int .i64 ((i+1:Nat):Int)))],[],?_⟩;rw[eu hnx];exact WW (by kernel_rfl) (Sx.t8 c13 c14 c19 c20 c24 c25 c28 c31 (Sx.t4 xR QZ jM h0 (Sx.t2 h1 h2 z3)))
   ·rw[if_neg h58]at hk
    have c25:WN ((c.toNat:Int)==58)=.bool false:=qa (by have:c.toNat≠58:=fun h=>h58 (UInt8.toNat_inj.1 (by rw[h];rfl));simp;omega);have hnx:iN s ⟨i,n,m,out⟩=⟨i+1,16*n+(fY c).toNat,m+1,out⟩:=by simp only[iN,hc,if_neg h58]
    have c44:=c24;have c45:=fun W (_:ai [] w W)=>UE c W;have c55:=c24;have c56:=c45;have hx15:fY c < 16:=by
     have:=JY c;unfold fY;split
     ·omega
     ·split<;>omega
    by_cases hneg:fY c < 0
    ·have hT:T=none:=by rw[if_pos (.inl hneg)]at hk;exact hk.symm
     have c46:WN (decide (fY c < 0))=.bool true:=qI (decide_eq_true hneg);have z0:Sx.gA.val (.tuple #[.slice none 0 0,.bool false])=jo T:=by rw[hT];rfl
     refine⟨[(13,.is (.int .i64 (s.length:Int))),(14,.is (.bool true)),(19,.is (.int .i64 (s.length:Int))),(20,.is (.bool false)),(24,.bin (u8 c)),(25,.is (.bool false)),(44,.bin (u8 c)),(45,.call (.int .i64 (fY c))),(46,.is (.bool true))],[],?_⟩;exact WW (by kernel_rfl) (Sx.t8 c13 c14 c19 c20 c24 c25 c44 c45 (WU c46 z0))
    ·have c46:WN (decide (fY c < 0))=.bool false:=qa (decide_eq_false hneg)
     by_cases h4:4 < m
     ·have hT:T=none:=by rw[if_pos (.inr h4)]at hk;exact hk.symm
      have c49:=bT ((m:Int) > 4) (by omega);have z0:Sx.gA.val (.tuple #[.slice none 0 0,.bool false])=jo T:=by rw[hT];rfl
      refine⟨[(13,.is (.int .i64 (s.length:Int))),(14,.is (.bool true)),(19,.is (.int .i64 (s.length:Int))),(20,.is (.bool false)),(24,.bin (u8 c)),(25,.is (.bool false)),(44,.bin (u8 c)),(45,.call (.int .i64 (fY c))),(46,.is (.bool false)),(49,.is (.bool true))],[],?_⟩;exact WW (by kernel_rfl) (Sx.t8 c13 c14 c19 c20 c24 c25 c44 c45 (Sx.t2 c46 c49 z0))
     ·rw[if_neg (by omega)]at hk
      have c49:=bF ((m:Int) > 4) (by omega);obtain⟨d,hd⟩:∃d:Nat,fY c=d:=⟨(fY c).toNat,by omega⟩;have hd':(fY c).toNat=d:=by omega
      have hd16:d < 16:=by omega
      rw[hd']at hk hnx;have c52:WS .i64 (WR.wrap (16*(n:Int)))=.int .i64 ((16*n:Nat):Int):=iw (by rw[jC (by omega) (by omega)];omega);have c57:WS .i64 (WR.wrap (((16*n:Nat):Int)+fY c))=.int .i64 ((16*n+d:Nat):Int):=iw (by rw[hd,jC (by omega) (by omega)];omega);have c59:=mY (i:=m) (by omega);have h0:Eu s T (iN s ⟨i,n,m,out⟩):=by rw[hnx];refine⟨by show m+1≤5;omega,?_,ho,.inl ⟨hlt,hk⟩⟩;show 16*n+d < 16^(m+1);rw[Nat.pow_succ];omega
      have h1:s.length+2 - (iN s ⟨i,n,m,out⟩).i < s.length+2 - i:=by rw[hnx]; show s.length+2 - (i+1) < _; omega
      rw[hnx]at h0 h1;have h2:[((0:Nat),Sx.SV.val (.string ⟨s.toArray⟩)),(4,.own 0),(5,.val (.int .i64 ((16*n+d:Nat):Int))),(6,.val (.int .i64 ((m+1:Nat):Int))),(7,.val (.int .i64 ((i+1:Nat):Int)))]=[((0:Nat),Sx.SV.val (.string ⟨s.toArray⟩)),(4,.own 0),(5,.val (.int .i64 ((16*n+d:Nat):Int))),(6,.val (.int .i64 ((m+1:Nat):Int))),(7,.val (.int .i64 ((i+1:Nat):Int)))]:=rfl;have z3:[(⟨3,.own 1 out.length (ints out)⟩:Sx.Row)]=[⟨3,.own 1 out.length (ints out)⟩]:=rfl;refine⟨[(13,.is (.int .i64 (s.length:Int))),(14,.is (.bool true)),(19,.is (.int .i64 (s.length:Int))),(20,.is (.bool false)),(24,.bin (u8 c)),(25,.is (.bool false)),(44,.bin (u8 c)),(45,.call (.int .i64 (fY c))),(46,.is (.bool false)),(49,.is (.bool false)),(52,.is (.int .i64 ((16*n:Nat):Int))),(55,.bin (u8 c)),(56,.call (.int .i64 (fY c))),(57,.is (.int .i64 ((16*n+d:Nat):Int))),(59,.is (.int .i64 ((m+1:Nat):Int))),(16,.is (.int .i64 ((i+1:Nat):Int)))],[],?_⟩;rw[eu hnx];exact WW (by kernel_rfl) (Sx.t8 c13 c14 c19 c20 c24 c25 c44 c45 (Sx.t8 c46 c49 c52 c55 c56 c57 c59 jM (Sx.t2 h0 h1 (WU h2 z3))))
  ·have c20:WN ((i:Int)==(s.length:Int))=.bool true:=qI (by simp;omega)
   have hdrop:s.drop i=[]:=List.drop_of_length_le (by omega);rw[hdrop,nB]at hk;have hnone:s[i]?=none:=List.getElem?_eq_none (by omega);have hnx:iN s ⟨i,n,m,out⟩=⟨i+1,0,0,out++[n]⟩:=by simp only[iN,hnone]
   by_cases hm0:m=0
   ·have hT:T=none:=by rw[if_pos (.inl hm0)]at hk;exact hk.symm
    have c28:WN ((m:Int)==0)=.bool true:=qI (by simp;omega);have z0:Sx.gA.val (.tuple #[.slice none 0 0,.bool false])=jo T:=by rw[hT];rfl
    refine⟨[(13,.is (.int .i64 (s.length:Int))),(14,.is (.bool true)),(19,.is (.int .i64 (s.length:Int))),(20,.is (.bool true)),(28,.is (.bool true))],[],?_⟩;exact WW (by kernel_rfl) (Sx.t4 c13 c14 c19 c20 (WU c28 z0))
   ·have c28:WN ((m:Int)==0)=.bool false:=qa (by simp;omega)
    by_cases h4:4 < m
    ·have hT:T=none:=by rw[if_pos (.inr (.inl h4))]at hk;exact hk.symm
     have c31:=bT ((m:Int) > 4) (by omega);have z0:Sx.gA.val (.tuple #[.slice none 0 0,.bool false])=jo T:=by rw[hT];rfl
     refine⟨[(13,.is (.int .i64 (s.length:Int))),(14,.is (.bool true)),(19,.is (.int .i64 (s.length:Int))),(20,.is (.bool true)),(28,.is (.bool false)),(31,.is (.bool true))],[],?_⟩;exact WW (by kernel_rfl) (Sx.t4 c13 c14 c19 c20 (Sx.t2 c28 c31 z0))
    ·have c31:=bF ((m:Int) > 4) (by omega)
     by_cases h8:out.length=8
     ·have hT:T=none:=by rw[if_pos (.inr (.inr h8))]at hk;exact hk.symm
      have xR:WN ((out.length:Int)==8)=.bool true:=qI (by simp;omega);have z0:Sx.gA.val (.tuple #[.slice none 0 0,.bool false])=jo T:=by rw[hT];rfl
      refine⟨[(13,.is (.int .i64 (s.length:Int))),(14,.is (.bool true)),(19,.is (.int .i64 (s.length:Int))),(20,.is (.bool true)),(28,.is (.bool false)),(31,.is (.bool false)),(36,.is (.bool true))],[],?_⟩;exact WW (by kernel_rfl) (Sx.t4 c13 c14 c19 c20 (Sx.t2 c28 c31 (WU xR z0)))
     ·have xR:WN ((out.length:Int)==8)=.bool false:=qa (by simp;omega)
      rw[if_neg (by omega)]at hk;have h0:Eu s T ⟨i+1,0,0,out++[n]⟩:=⟨W2 _,by show 0 < 16^0;decide,by show(out++[n]).length≤8;rw[WT,Xf];omega,.inr ⟨by show i+1=s.length+1;omega,hk.symm⟩⟩;have h1:s.length+2 - (⟨i+1,0,0,out++[n]⟩:A0).i < s.length+2 - i:=by show s.length+2 - (i+1) < _; omega
      have h2:[((0:Nat),Sx.SV.val (.string ⟨s.toArray⟩)),(4,.own 2),(5,.val (.int .i64 ((0:Nat):Int))),(6,.val (.int .i64 ((0:Nat):Int))),(7,.val (.int .i64 ((i+1:Nat):Int)))]=[((0:Nat),Sx.SV.val (.string ⟨s.toArray⟩)),(4,.own 2),(5,.val (.int .i64 ((0:Nat):Int))),(6,.val (.int .i64 ((0:Nat):Int))),(7,.val (.int .i64 ((i+1:Nat):Int)))]:=rfl;refine⟨[(13,.is (.int .i64 (s.length:Int))),(14,.is (.bool true)),(19,.is (.int .i64 (s.length:Int))),(20,.is (.bool true)),(28,.is (.bool false)),(31,.is (.bool false)),(36,.is (.bool false)),(16,.is (.int .i64 ((i+1:Nat):Int)))],[],?_⟩;rw[eu hnx];exact WW (by kernel_rfl) (Sx.t8 c13 c14 c19 c20 c28 c31 xR QZ (Sx.t4 jM h0 h1 h2 z3))
 ·have c14:=bF ((i:Int)≤(s.length:Int)) (by omega)
  have h0:T=some out:=hk;have h1:[((4:Nat),Sx.SV.own 0)]=[(4,.own 0)]:=rfl;have z2:[(⟨3,.own 1 out.length (ints out)⟩:Sx.Row)]=[⟨3,.own 1 out.length (ints out)⟩]:=rfl;refine⟨[(13,.is (.int .i64 (s.length:Int))),(14,.is (.bool false))],[],?_⟩;exact WW (by kernel_rfl) (Sx.t4 c13 c14 h0 h1 z2)
theorem zj(x y:Operand)(a b:List UInt8){r:Bool}(h:decide (a=b)=r)(W:World):(do eqGuard .eql 9 x y (.string ⟨a.toArray⟩) (.string ⟨b.toArray⟩);binOp .eql 9 (.string ⟨a.toArray⟩) (.string ⟨b.toArray⟩):Sem Value).run prog W=.ok (.bool r) W:=by show Result.ok (WN ((⟨a.toArray⟩:ByteArray).toList==(⟨b.toArray⟩:ByteArray).toList)) W=_;rw[ByteArray.toList_eq,ByteArray.toList_eq,←h];congr 2;rw[W9];simp
theorem zi(x y:Operand)(a b:List UInt8){r:Bool}(h:decide (a=b)=!r)(W:World):(do eqGuard .neq 9 x y (.string ⟨a.toArray⟩) (.string ⟨b.toArray⟩);binOp .neq 9 (.string ⟨a.toArray⟩) (.string ⟨b.toArray⟩):Sem Value).run prog W=.ok (.bool r) W:=by
 show Result.ok (WN (!((⟨a.toArray⟩:ByteArray).toList==(⟨b.toArray⟩:ByteArray).toList))) W=_;have e:((⟨a.toArray⟩:ByteArray).toList==(⟨b.toArray⟩:ByteArray).toList)=decide (a=b):=by rw[ByteArray.toList_eq,ByteArray.toList_eq,W9];simp
 rw[e,h,Bool.not_not]
theorem yu(s:List UInt8)(hs:s.length≤100000000)(w:World):Calls prog 100 #[.string ⟨s.toArray⟩] w (Sx.dM w (jo (ik s))):=by
 by_cases h0:s=[]
 ·subst h0
  have c9:=zj (.tmp 8) (.const (.string ⟨#[]⟩)) [] [] (r:=true) (by simp);have z0:Sx.gA.nu [] 3 1 0 [] [.bool true]=jo (ik []):=rfl;refine Sx.pG (args:=[.string ⟨#[]⟩]) [(4,.jq 3 1),(9,.bin (.bool true))] [] (by kernel_rfl) func100 rfl (bU rfl) ?_;exact WW (by kernel_rfl) (WU c9 z0)
 ·have hT:ik s=nB s 0 0 []:=by unfold ik;rw[if_neg h0]
  have c9:=zj (.tmp 8) (.const (.string ⟨#[]⟩)) s [] (r:=false) (by simpa using h0);generalize ik s=T at*;have h0:Eu s T ⟨0,0,0,[]⟩:=⟨W2 _,by show 0 < 16^0;decide,W2 _,.inl ⟨W2 _,hT.symm⟩⟩;have e1:[((0:Nat),Sx.SV.val (.string ⟨s.toArray⟩)),(4,.own 0),(5,.val (.int .i64 0)),(6,.val (.int .i64 0)),(7,.val (.int .i64 0))]=[((0:Nat),Sx.SV.val (.string ⟨s.toArray⟩)),(4,.own 0),(5,.val (.int .i64 0)),(6,.val (.int .i64 0)),(7,.val (.int .i64 0))]∧[(⟨3,.own 1 0 []⟩:Sx.Row)]=[⟨3,.own 1 0 []⟩]:=⟨rfl,rfl⟩;have jz:=IE s T w hs;have z5:∀x,T=some x→Sx.gA.nu [] 3 1 x.length (ints x) [.bool true]=jo T:=fun x hx=>by rw[hx];rfl
  refine Sx.pG (args:=[.string ⟨s.toArray⟩]) [(4,.jq 3 1),(9,.bin (.bool false))] [.mk A0 ⟨0,0,0,[]⟩ (Eu s T) (Lr s) Ew (iN s) (fun k=>s.length+2 - k.i) (List Nat) (fun(out:List Nat)=>T=some out) (fun _=>[(4,.own 0)]) (fun out=>[⟨3,.own 1 out.length (ints out)⟩]) (fun k=>k.out)] (by kernel_rfl) func100 rfl (bU rfl) ?_;exact WW (by kernel_rfl) (Sx.t4 c9 h0 e1 jz (fun(x:List Nat) (hx4:T=Option.some x)=>z5 x hx4))
set_option maxRecDepth 100000
open Go.RowKit Go.Lib Go.Sort _root_.Go.Proofs.Tryz
set_option maxRecDepth 100000
theorem A9.up{code at_:Int}{w W w':World}{chain:List PanicEntry}(h:A9 code at_ W chain w')(hs:w.heap.size≤W.heap.size):A9 code at_ w chain w':=by obtain⟨N,h1,h2,h3⟩:=h;exact⟨N,h1,Nat.le_trans hs h2,h3⟩
theorem lO{P:Program}{f:FuncId}{args:Array Value}{b:Sx.aV}{W:World}{vs:List Value}{ps:List (Nat×Nat)}(h:Calls P f args W fun e w'=>∃chain,e=.panicked chain∧b.PP chain w'∧ai [] W w'):Calls P f args W (Sx.qV b W vs (.Gh ps)):=
 h.mono fun _ _ ⟨ch,he,hp,hc⟩=>⟨ch,[],he,hp,hc,fun _ hx=>by cases hx⟩
theorem N1(g:Nat)(ws:Value)(at_ code:Int)(w:World)(hb:aq w g 154 [ws,.int .i64 at_]):Calls prog 191 #[.pointer (some ⟨g,0,none⟩),.bool false,.int .i64 code] w (Sx.gX ⟨w,[g],A9 code at_ w⟩ fun _ _=>False):=by have c14:=fun W (hW:ai [g] w W) (_:aq W g 154 [ws,.int .i64 at_])=>lO (b:=⟨w,[g],A9 code at_ w⟩) (vs:=[.pointer (some ⟨g,0,none⟩),.int .i64 code,.int .i64 at_]) (ps:=[(0,0)]) ((qE (.pointer (some ⟨g,0,none⟩)) code at_ W).mono fun _ _ ⟨ch,he,hf,hc⟩=>⟨ch,he,hf.up hW.size,hc⟩);have z0:=trivial;refine Sx.gz (args:=[.ptr 0 0,.val (.bool false),.val (.int .i64 code)]) [(g,154,[ws,.int .i64 at_])] (by simpa using hb) (by simp) (A9 code at_ w) [(14,.rT)] [] (by kernel_rfl) func191 rfl (bU rfl) rfl ?_;exact WW (by kernel_rfl) (WU c14 z0)
theorem JV(lp:Value)(code:Int)(w:World):Calls prog 191 #[lp,.bool true,.int .i64 code] w (Rn w (.tuple #[])):=by have z0:W0 #[]=.tuple #[]:=rfl;refine Sx.ao (args:=[lp,.bool true,.int .i64 code]) [] [] (by kernel_rfl) func191 rfl (bU rfl) ?_;exact WW (by kernel_rfl) z0
def dH(A:Option Go.Addr)(n c:Nat)(at_:Nat):List Value:=[.slice A n c,.int .i64 (at_:Int)]
theorem Pd(g:Nat)(A:Option Go.Addr)(n c:Nat)(hn:n≤1100000)(w:World)(hb:aq w g 154 (dH A n c n)):Calls prog 154 #[.pointer (some ⟨g,0,none⟩)] w (Sx.gX ⟨w,[g],A9 200 ((n:Int)+1) w⟩ fun _ _=>False):=by have c12:WN ((n:Int)==(n:Int))=.bool true:=qI (by simp);have c18:WS .i64 (WR.wrap ((n:Int)+1))=.int .i64 ((n:Int)+1):=iw (jC (by omega) (by omega));have c19:=fun W (hW:ai [g] w W) (_:aq W g 154 (dH A n c n))=>lO (b:=⟨w,[g],A9 200 ((n:Int)+1) w⟩) (vs:=[.pointer (some ⟨g,0,none⟩),.int .i64 200,.int .i64 ((n:Int)+1)]) (ps:=[(0,0)]) ((qE (.pointer (some ⟨g,0,none⟩)) 200 ((n:Int)+1) W).mono fun _ _ ⟨ch,he,hf,hc⟩=>⟨ch,he,hf.up hW.size,hc⟩);have z0:=trivial;refine Sx.gz (args:=[.ptr 0 0]) [(g,154,dH A n c n)] (by simpa using hb) (by simp) (A9 200 ((n:Int)+1) w) [(12,.is (.bool true)),(18,.is (.int .i64 ((n:Int)+1))),(19,.rT)] [] (by kernel_rfl) func154 rfl (bU rfl) rfl ?_;exact WW (by kernel_rfl) (Sx.t2 c12 c18 (WU c19 z0))
open Go Go.RowKit Go.Lib Go.Sort
theorem Oq{P:Program}{t:TypeId}{b off:Nat}{d:TypeDesc}{v:Value}(hu:P.underlying t=some d)(hd:d.isRow=false){W:World}(hc:W.cell? ⟨b,off,none⟩=some v) :
  (Xs t (.pointer (some ⟨b,off,none⟩))).run P W=.ok v W:=by
 have hagg:(isAgg t).run P W=.ok false W:=by unfold isAgg;rw[W8,run_underlying hu W];cases d<;>simp_all
 rw[Sx.q9];simp[loadVar,W8,hagg,load,Sem.run,hc]
set_option maxRecDepth 100000
open Go.RowKit Go.Lib Go.Sort _root_.Go.Proofs.Tryz
structure A8(w:World)(S:List Nat)(A:Option Go.Addr)(n:Nat)(ws:List (List UInt8)):Prop where
 len:ws.length=n
 row:0 < n→∃b o,A=some ⟨b,o,none⟩∧b∉S∧b < w.heap.size∧∀(j:Nat) (x:List UInt8),ws[j]?=some x→w.cell? ⟨b,o+j,none⟩=some (.string ⟨x.toArray⟩)
theorem A8.aF{w w':World}{S:List Nat}{A:Option Go.Addr}{n:Nat}{ws:List (List UInt8)}(h:A8 w S A n ws)(hc:ai S w w'):A8 w' S A n ws:=
 ⟨h.len,fun h0=>by obtain⟨b,o,h1,h2,h3,h4⟩:=h.row h0;exact⟨b,o,h1,h2,W5 h3 hc.size,fun j x hx=>(hc.cell (p:=⟨b,o+j,none⟩) h3 h2).trans (h4 j x hx)⟩⟩
theorem A8.sub{w:World}{S S':List Nat}{A:Option Go.Addr}{n:Nat}{ws:List (List UInt8)}(h:A8 w S A n ws)(hs:∀x∈S',x∈S):A8 w S' A n ws:=
 ⟨h.len,fun h0=>by obtain⟨b,o,h1,h2,h3,h4⟩:=h.row h0;exact⟨b,o,h1,fun hb=>h2 (hs b hb),h3,h4⟩⟩
theorem A8.cons{w w':World}{S:List Nat}{A:Option Go.Addr}{n x:Nat}{ws:List (List UInt8)}(h:A8 w S A n ws)(hc:ai S w w')(hx:w.heap.size≤x):A8 w' (x::S) A n ws:=
 ⟨h.len,fun h0=>by
  obtain⟨b,o,h1,h2,h3,h4⟩:=h.row h0;refine⟨b,o,h1,fun hb=>?_,W5 h3 hc.size,fun j y hy=>(hc.cell (p:=⟨b,o+j,none⟩) h3 h2).trans (h4 j y hy)⟩;rcases List.mem_cons.1 hb with rfl|hb
  ·omega
  ·exact h2 hb⟩
theorem A8.at{w:World}{S:List Nat}{A:Option Go.Addr}{n c:Nat}{ws:List (List UInt8)}(h:A8 w S A n ws){i:Nat}{x:List UInt8}(hx:ws[i]?=some x) :
  ∃p,(∀W,(Xp 70 (.slice A n c) (.int .i64 (i:Int))).run prog W=.ok p W)∧∀W,ai S w W→(Xs 9 p).run prog W=.ok (.string ⟨x.toArray⟩) W:=by
 have hi:i < n:=by rw[←h.len];exact(WO.1 hx).1
 obtain⟨b,o,rfl,hb,_,hr⟩:=h.row (by omega);refine⟨.pointer (some ⟨b,o+i,none⟩),fun W=>?_,fun W hW=>?_⟩
 ·have hs:(prog.info? 9).map (·.size)=some 1:=by kernel_rfl
  cases hq:prog.info? 9 with
  |none=>rw[hq]at hs;cases hs
  |some inf=>
   rw[hq]at hs;have hs:inf.size=1:=by simpa using hs
   simp[Xp,run_underlying underlying70,asIntOf,hi,sizeOf,typeInfo,hq,hs,Addr.add_lit]
 ·obtain⟨_,_,h1,_,_,h4⟩:=(h.aF hW).row (by omega)
  injection h1 with h1;injection h1 with h1 h2 h3;subst h1 h2;exact Oq underlying9 rfl (h4 i x hx)
set_option maxRecDepth 100000
open Go.RowKit Go.Lib Go.Sort _root_.Go.Proofs.Tryz
def U6(g:Nat)(v:Value)(cs:List Value)(r:Sx.gA)(gl:List (Nat×TypeId×List Value)):Prop:=r=.val v∧gl=[(g,154,cs)]
theorem Ls(g:Nat)(A:Option Go.Addr)(n c i:Nat)(ws:List (List UInt8))(x:List UInt8)(hn:n≤1100000)(w:World)(hb:aq w g 154 (dH A n c i))(hw:A8 w [g] A n ws)(hx:ws[i]?=some x)(PP:List PanicEntry→World→Prop):Calls prog 154 #[.pointer (some ⟨g,0,none⟩)] w (Sx.gX ⟨w,[g],PP⟩ (U6 g (.string ⟨x.toArray⟩) (dH A n c (i+1)))):=by
 have hi:i < n:=by rw[←hw.len];exact(WO.1 hx).1
 obtain⟨p,hp1,hp2⟩:=hw.at (c:=c) hx;have c12:WN ((i:Int)==(n:Int))=.bool false:=qa (by rw[beq_eq_false_iff_ne];omega);have c24:=mY (i:=i) (by omega);have xD:WS .i64 (WR.wrap (((i+1:Nat):Int) - 1))=.int .i64 (i:Int):=iw (by rw[jC (by omega) (by omega)]; omega);have xR:=fun W (_:ai [g] w W)=>hp1 W;have c37:=hp2;have h0:Sx.gA.val (W6 ⟨x.toArray⟩)=.val (.string ⟨x.toArray⟩):=rfl;have z1:[(g,154,dH A n c (i+1))]=[(g,154,dH A n c (i+1))]:=rfl;refine Sx.gz (args:=[.ptr 0 0]) [(g,154,dH A n c i)] (by simpa using hb) (by simp) PP [(12,.is (.bool false)),(24,.is (.int .i64 ((i+1:Nat):Int))),(35,.is (.int .i64 (i:Int))),(36,.any p),(37,.any (.string ⟨x.toArray⟩))] [] (by kernel_rfl) func154 rfl (bU rfl) rfl ?_;exact WW (by kernel_rfl) (Sx.t4 c12 c24 xD xR (Sx.t2 c37 h0 z1))
open Go.RowKit Go.Lib Go.Sort _root_.Go.Proofs.Tryz
theorem UU(x y:Operand)(v v':Bool)(n m:Nat)(k j:Int)(hn:n < 2^128)(hm:m < 2^128)(hk : -9223372036854775808≤k∧k≤9223372036854775807)(hj : -9223372036854775808≤j∧j≤9223372036854775807)(W:World):(do eqGuard .neq 29 x y (.agg (cZ v n k).toArray) (.agg (cZ v' m j).toArray); binOp .neq 29 (.agg (cZ v n k).toArray) (.agg (cZ v' m j).toArray):Sem Value).run prog W=.ok (.bool (!decide (v=v'∧n=m∧k=j))) W:=by have h:=VS v v' n m k j hn hm hk hj W;rw[W8,PG,Result.andThen_ok];show(do pure (.bool (!(←Op.equal 29 (.agg (cZ v n k).toArray) (.agg (cZ v' m j).toArray)))):Sem Value).run prog W=_;rw[W8,show(Op.equal 29 (.agg (cZ v n k).toArray) (.agg (cZ v' m j).toArray)).run prog W=_ from h];rfl
theorem SK(x y:Operand)(s t:ByteArray)(W:World):(do eqGuard .neq 9 x y (.string s) (.string t);binOp .neq 9 (.string s) (.string t):Sem Value).run prog W=.ok (.bool (!(s.toList==t.toList))) W:=rfl
theorem Uq{P:Program}{s:Sem Value}{W:World}{a b:Bool}(h:s.run P W=.ok (.bool a) W)(e:a=b):s.run P W=.ok (.bool b) W:=by rw[←e];exact h
theorem vr{s:List UInt8}{v:Bool}{n:Nat}{k:Int}(h:r7 s v n k)(hs:s.length≤100000000)(w:World)(HL:dO w):Calls prog 16 #[.string ⟨s.toArray⟩] w (Rn w (.tuple #[.agg (cZ v n k).toArray,.int .i64 0])):=by
 refine(KS s hs w HL).mono ?_;rintro e w' ⟨v',n',k',er,rfl,hC,hh⟩;rcases hh with⟨rfl,_,hu⟩ | ⟨_,_,_,_,hu⟩
 ·obtain⟨rfl,rfl,rfl⟩:=hu _ _ _ h
  exact⟨rfl,hC⟩
 ·exact absurd h (hu _ _ _)
theorem OH{s:List UInt8}(h:∀v n k,¬r7 s v n k)(hs:s.length≤100000000)(w:World)(HL:dO w):Calls prog 16 #[.string ⟨s.toArray⟩] w (Rn w (.tuple #[.agg (cZ false 0 0).toArray,.int .i64 151])):=by
 refine(KS s hs w HL).mono ?_;rintro e w' ⟨v',n',k',er,rfl,hC,hh⟩;rcases hh with⟨rfl,hp,_⟩ | ⟨rfl,rfl,rfl,rfl,_⟩
 ·exact absurd hp (h _ _ _)
 ·exact⟨rfl,hC⟩
theorem Hf{v:Bool}{n:Nat}{k:Int}(h1:k≤wid v):(iV v n k).length≤100000000:=by have h2:=eW v;have h3:=si v n;have h4:=iF (u:=k.toNat) (by omega);unfold iV;simp only[WT,WQ];omega
set_option maxRecDepth 100000
open Go.RowKit Go.Lib Go.Sort _root_.Go.Proofs.Tryz
set_option maxRecDepth 100000
theorem uq(x y:Operand)(s t:List UInt8)(W:World):(do eqGuard .neq 9 x y (.string ⟨s.toArray⟩) (.string ⟨t.toArray⟩);binOp .neq 9 (.string ⟨s.toArray⟩) (.string ⟨t.toArray⟩):Sem Value).run prog W=.ok (.bool (decide (s≠t))) W:=by
 refine Uq (SK x y _ _ W) ?_;have e:∀l:List UInt8,(⟨l.toArray⟩:ByteArray).toList=l:=fun l=>by simp
 rw[e,e];by_cases h:s=t<;>simp[h]
theorem J5(g:Nat)(A:Option Go.Addr)(n c:Nat)(s:List UInt8)(w:World)(hb:aq w g 154 (dH A n c n))(PP:List PanicEntry→World→Prop):Calls prog 152 #[.pointer (some ⟨g,0,none⟩),.string ⟨s.toArray⟩] w (Sx.gX ⟨w,[g],PP⟩ (U6 g (.bool false) (dH A n c n))):=by have c14:WN ((n:Int)==(n:Int))=.bool true:=qI (by simp);have h0:Sx.gA.val (WN false)=.val (.bool false):=rfl;have z1:[(g,154,dH A n c n)]=[(g,154,dH A n c n)]:=rfl;refine Sx.gz (args:=[.ptr 0 0,.val (.string ⟨s.toArray⟩)]) [(g,154,dH A n c n)] (by simpa using hb) (by simp) PP [(14,.is (.bool true))] [] (by kernel_rfl) func152 rfl (bU rfl) rfl ?_;exact WW (by kernel_rfl) (Sx.t2 c14 h0 z1)
theorem N6(g:Nat)(A:Option Go.Addr)(n c i:Nat)(ws:List (List UInt8))(x s:List UInt8)(hn:n≤1100000)(w:World)(hb:aq w g 154 (dH A n c i))(hw:A8 w [g] A n ws)(hx:ws[i]?=some x)(hs:x≠s)(PP:List PanicEntry→World→Prop):Calls prog 152 #[.pointer (some ⟨g,0,none⟩),.string ⟨s.toArray⟩] w (Sx.gX ⟨w,[g],PP⟩ (U6 g (.bool false) (dH A n c (i)))):=by
 have hi:i < n:=by rw[←hw.len];exact(WO.1 hx).1
 obtain⟨p,hp1,hp2⟩:=hw.at (c:=c) hx;have c14:WN ((i:Int)==(n:Int))=.bool false:=qa (by rw[beq_eq_false_iff_ne];omega);have c24:=fun W (_:ai [g] w W)=>hp1 W;have c25:=hp2;have c27:=fun W=>(uq (.tmp 25) (.tmp 26) x s W).trans (by rw[decide_eq_true hs]);have c33:=mY (i:=i) (by omega);have h0:Sx.gA.val (WN false)=.val (.bool false):=rfl;have z1:[(g,154,dH A n c (i))]=[(g,154,dH A n c (i))]:=rfl;refine Sx.gz (args:=[.ptr 0 0,.val (.string ⟨s.toArray⟩)]) [(g,154,dH A n c i)] (by simpa using hb) (by simp) PP [(14,.is (.bool false)),(24,.any p),(25,.any (.string ⟨x.toArray⟩)),(27,.bin (.bool true)),(33,.is (.int .i64 ((i+1:Nat):Int)))] [] (by kernel_rfl) func152 rfl (bU rfl) rfl ?_;exact WW (by kernel_rfl) (Sx.t4 c14 c24 c25 c27 (WU h0 z1))
theorem J4(g:Nat)(A:Option Go.Addr)(n c i:Nat)(ws:List (List UInt8))(x s:List UInt8)(hn:n≤1100000)(w:World)(hb:aq w g 154 (dH A n c i))(hw:A8 w [g] A n ws)(hx:ws[i]?=some x)(hs:x=s)(PP:List PanicEntry→World→Prop):Calls prog 152 #[.pointer (some ⟨g,0,none⟩),.string ⟨s.toArray⟩] w (Sx.gX ⟨w,[g],PP⟩ (U6 g (.bool true) (dH A n c (i+1)))):=by
 have hi:i < n:=by rw[←hw.len];exact(WO.1 hx).1
 obtain⟨p,hp1,hp2⟩:=hw.at (c:=c) hx;have c14:WN ((i:Int)==(n:Int))=.bool false:=qa (by rw[beq_eq_false_iff_ne];omega);have c24:=fun W (_:ai [g] w W)=>hp1 W;have c25:=hp2;have c27:=fun W=>(uq (.tmp 25) (.tmp 26) x s W).trans (by rw[decide_eq_false (fun h=>h hs)]);have c33:=mY (i:=i) (by omega);have h0:Sx.gA.val (WN true)=.val (.bool true):=rfl;have z1:[(g,154,dH A n c (i+1))]=[(g,154,dH A n c (i+1))]:=rfl;refine Sx.gz (args:=[.ptr 0 0,.val (.string ⟨s.toArray⟩)]) [(g,154,dH A n c i)] (by simpa using hb) (by simp) PP [(14,.is (.bool false)),(24,.any p),(25,.any (.string ⟨x.toArray⟩)),(27,.bin (.bool false)),(33,.is (.int .i64 ((i+1:Nat):Int)))] [] (by kernel_rfl) func152 rfl (bU rfl) rfl ?_;exact WW (by kernel_rfl) (Sx.t4 c14 c24 c25 c27 (Sx.t2 c33 h0 z1))
open Go.RowKit Go.Lib Go.Sort _root_.Go.Proofs.Tryz
def bM{α:Type}(g:Nat)(A:Option Go.Addr)(n c:Nat)(V:α→Value)(r:Out α)(w:World)(e:Ending)(w':World):Prop:=
 (∃a i,r=.ok a i∧i≤n∧e=.returned (V a)∧aq w' g 154 (dH A n c i)∧ai [g] w w')∨
 (∃code p chain,r=.no code p∧e=.panicked chain∧A9 code p w chain w'∧ai [g] w w')
def oU{α:Type}(r:Out α)(w:World)(chain:List PanicEntry)(w':World):Prop:=∃code p:Nat,r=.no code p∧A9 code p w chain w'
def DM{α:Type}(g:Nat)(A:Option Go.Addr)(n c:Nat)(V:α→Value)(r:Out α)(u:Sx.gA)(gl:List (Nat×TypeId×List Value)):Prop:=∃a i,r=.ok a i∧i≤n∧u=.val (V a)∧gl=[(g,154,dH A n c i)]
theorem bM.vM{α:Type}{g:Nat}{A:Option Go.Addr}{n c:Nat}{V:α→Value}{r:Out α}{w:World}{e:Ending}{w':World}(h:Sx.gX ⟨w,[g],oU r w⟩ (DM g A n c V r) e w'):bM g A n c V r w e w':=by
 rcases h with⟨u,gl,⟨a,i,h1,hi,h2,h3⟩,hp,hb⟩ | ⟨chain,he,⟨code,p,h1,hf⟩,hc⟩
 ·subst h2 h3
  exact .inl ⟨a,i,h1,hi,hp.1,hb (g,154,dH A n c i) (by simp),hp.2⟩
 ·exact .inr ⟨code,p,chain,h1,he,hf,hc⟩
theorem fP{α:Type}{P:Program}{w:World}{f:FuncId}{fn:Func}{co:Code}{g:Nat}{A:Option Go.Addr}{n c i:Nat}{V:α→Value}{r:Out α}(rest:List Value)(hb:aq w g 154 (dH A n c i))(H:List (Nat×Sx.Hint))(L:List Sx.Loop)
  (hm:P.follows .mixedOrders=true) (hf:P.funcs[f]?=some fn) (hbd:fn.body=some co) (hn:(rest.length+1)≤fn.ntmps)
  (hx:Sx.ky P fn.ntmps ⟨w,[g],oU r w⟩ co H L ⟨Sx.mf 0 (.ptr 0 0::rest.map .val),Sx.pX [(g,154,dH A n c i)]⟩ (Sx.qJ P fn (DM g A n c V r))) :
  Calls P f (.pointer (some ⟨g,0,none⟩)::rest).toArray w (bM g A n c V r w):=by
 have h:=Sx.gz (args:=.ptr 0 0::rest.map .val) [(g,154,dH A n c i)] (by simpa using hb) (by simp) (oU r w) H L hm hf hbd (by simpa using hn) (by
  have:∀l:List Value,Sx.eA (Sx.SP 1) (l.map .val)=true:=fun l=>by
   induction l with
   |nil=>rfl
   |cons x l ih=>exact ih
  exact this rest) hx
 have e:(Sx.SV.ptr 0 0::rest.map .val).map (Sx.SV.den (Sx.wZ [(g,154,dH A n c i)]))=.pointer (some ⟨g,0,none⟩)::rest:=by rw[Xr,Xt];have:(Sx.SV.den (Sx.wZ [(g,154,dH A n c i)]) ∘ Sx.SV.val)=id:=rfl;rw[this,Xu];rfl
 rw[e]at h;exact h.mono fun _ _=>bM.vM
theorem Ag{α:Type} [Inhabited α]{P:Program}{b:Sx.aV}{β:Sx.Env}{W:World}{row:Nat→Option Sx.Row}{m k f g n c i:Nat}{A:Option Go.Addr}{V:α→Value}{r:Out α}{gw:List Nat}(rest:List Value)
  (hS:Sx.eM b β W row gw) (hk:k∈gw) (hrow:row k=some ⟨154,.cR g (dH A n c i)⟩)
  (h:aq W g 154 (dH A n c i)→Calls P f (.pointer (some ⟨g,0,none⟩)::rest).toArray W (bM g A n c V r W))
  (hP:∀(code p:Nat) chain w',r=.no code p→A9 code p W chain w'→b.PP chain w') :
  Calls P f ((Sx.SV.ptr k 0::rest.map .val).map (Sx.SV.den β)).toArray W (Sx.br b β W row m ⟨gw,[(k,⟨154,.cR g (dH A n c r.pos)⟩)],[],[],.val (V r.val),some (r.okB=true∧r.pos≤n)⟩):=by
 have hh:=hS.held k hk _ hrow;have hg:β k=g:=hh.1;have hB:aq W g 154 (dH A n c i):=hg ▸ hh.2;have e:(Sx.SV.ptr k 0::rest.map .val).map (Sx.SV.den β)=.pointer (some ⟨g,0,none⟩)::rest:=by rw[Xr,Xt];have:(Sx.SV.den β ∘ Sx.SV.val)=id:=rfl;rw[this,Xu];show Value.pointer (some ⟨β k,0,none⟩)::rest=_;rw[hg]
 have ht:([k]:List Nat).filterMap (Sx.b8 β row)=[g]:=by
  have:Sx.b8 β row k=some g:=by unfold Sx.b8;rw[hrow];exact congrArg some hg
  simp[this]
 rw[e];refine(h hB).mono fun e w' hp=>?_;rcases hp with⟨a,j,rfl,hj,he,hb,hc⟩ | ⟨code,p,chain,rfl,he,hf,hc⟩
 ·refine .inl ⟨fun p hp=>by cases hp;exact⟨rfl,hj⟩,β,Sx.dt (v:=V a) rfl rfl he (fun q hq=>?_) ?_⟩
  ·have:q=(k,⟨154,.cR g (dH A n c j)⟩):=Xi.1 hq
   subst this;exact⟨hg,by show aq w' (β k) 154 _;rw[hg];exact hb⟩
  ·show ai (([k]++[]).filterMap (Sx.b8 β row)) W w'
   rw[Xl,ht];exact hc
 ·refine .inr ⟨rfl,chain,he,hP code p chain w' rfl hf,?_⟩
  show ai (([k]++[]).filterMap (Sx.b8 β row)) W w';rw[Xl,ht];exact hc
structure eC(w:World)(g:Nat)(A:Option Go.Addr)(n c i:Nat)(ws:List Bs):Prop where
 bO:aq w g 154 (dH A n c i)
 jw:A8 w [g] A n ws
 le:i≤n
 bd:n≤1100000
 uB:dO w
 g9:9≤g
 sz:∀x∈ws,x.length≤100000000
def ae(x:Bs):Value:=.string ⟨x.toArray⟩
theorem ou{w:World}{g:Nat}{A:Option Go.Addr}{n c i:Nat}{ws:List Bs}(h:eC w g A n c i ws):Calls prog 154 #[(pt g 0)] w (bM g A n c ae (aO ws i) w):=by
 have hlen:=h.jw.len;cases hx:ws[i]? with
 |some x=>
  have hr:aO ws i=.ok x (i+1):=by unfold aO;rw[hx]
  have hi:i < n:=by rw[←hlen];exact(WO.1 hx).1
  refine(Ls g A n c i ws x h.bd w h.bO h.jw hx (oU (aO ws i) w)).mono fun e w' hp=>bM.vM ?_;rcases hp with⟨u,gl,⟨h1,h2⟩,hp⟩ | hp
  ·exact .inl ⟨u,gl,⟨x,i+1,hr,hi,h1,h2⟩,hp⟩
  ·exact .inr hp
 |none=>
  have hi:i=n:=by have:=Xa.1 hx;have:=h.le;omega
  have hr:aO ws i=.no 200 (i+1):=by unfold aO;rw[hx]
  subst hi;refine(Pd g A i c h.bd w h.bO).mono fun e w' hp=>bM.vM ?_;rcases hp with⟨_,_,hf,_⟩ | ⟨chain,he,hf,hc⟩
  ·exact hf.elim
  ·exact .inr ⟨chain,he,⟨200,i+1,hr,hf⟩,hc⟩
theorem kY{w:World}{g:Nat}{A:Option Go.Addr}{n c i:Nat}{ws:List Bs}(s:Bs)(h:eC w g A n c i ws):Calls prog 152 #[.pointer (some ⟨g,0,none⟩),ae s] w (bM g A n c (fun b=>.bool b) (cN ws i s) w):=by
 have hlen:=h.jw.len;have up:∀{b:Bool} {j:Nat},cN ws i s=.ok b j→j≤n→∀{e w'},Sx.gX ⟨w,[g],oU (cN ws i s) w⟩ (U6 g (.bool b) (dH A n c j)) e w'→bM g A n c (fun b=>.bool b) (cN ws i s) w e w':=by
  intro b j hr hj e w' hp;refine bM.vM ?_;rcases hp with⟨u,gl,⟨h1,h2⟩,hp⟩ | hp
  ·exact .inl ⟨u,gl,⟨b,j,hr,hj,h1,h2⟩,hp⟩
  ·exact .inr hp
 cases hx:ws[i]? with
 |some x=>
  have hi:i < n:=by rw[←hlen];exact(WO.1 hx).1
  by_cases hs:x=s
  ·exact(J4 g A n c i ws x s h.bd w h.bO h.jw hx hs _).mono fun e w'=>up (by unfold cN;rw[hx,hs,if_pos rfl]) hi
  ·exact(N6 g A n c i ws x s h.bd w h.bO h.jw hx hs _).mono fun e w'=>up (by unfold cN;rw[hx,if_neg (by simpa using hs)]) h.le
 |none=>
  have hi:i=n:=by have:=Xa.1 hx;have:=h.le;omega
  subst hi;exact(J5 g A i c s w h.bO _).mono fun e w'=>up (by unfold cN;rw[hx,if_neg (by simp)]) (W3 _)
theorem nH{α:Type}{w:World}{g:Nat}{A:Option Go.Addr}{n c i:Nat}{ws:List Bs}(b:Bool)(code:Nat)(a:α)(h:eC w g A n c i ws):Calls prog 191 #[.pointer (some ⟨g,0,none⟩),.bool b,.int .i64 (code:Int)] w (bM g A n c (fun _=>.tuple #[]) (aR b code a i) w):=by
 cases b with
 |true=>exact(JV _ _ w).mono fun e w' ⟨he,hc⟩=>.inl ⟨a,i,rfl,h.le,he,h.bO.aF hc (by simp),hc.mono (by simp)⟩
 |false=>
  refine(N1 g (.slice A n c) i code w h.bO).mono fun e w' hp=>bM.vM ?_;rcases hp with⟨_,_,hf,_⟩ | ⟨chain,he,hf,hc⟩
  ·exact hf.elim
  ·exact .inr ⟨chain,he,⟨code,i,rfl,hf⟩,hc⟩
theorem eC.at{w W:World}{g:Nat}{A:Option Go.Addr}{n c i j:Nat}{ws:List Bs}(h:eC w g A n c i ws)(hc:ai [g] w W)(hj:j≤n)(hb:aq W g 154 (dH A n c j)):eC W g A n c j ws:=⟨hb,h.jw.aF hc,hj,h.bd,h.uB.aF hc (by simpa using h.g9),h.g9,h.sz⟩
theorem eC.Cp{w W:World}{g:Nat}{A:Option Go.Addr}{n c i:Nat}{ws:List Bs}(h:eC w g A n c i ws)(hc:ai [g] w W):dO W:=h.uB.aF hc (by simpa using h.g9)
theorem eC.len{w:World}{g:Nat}{A:Option Go.Addr}{n c i:Nat}{ws:List Bs}(h:eC w g A n c i ws):ws.length=n:=h.jw.len
theorem vT{ws:List Bs}{i:Nat}(h:∀x∈ws,x.length≤100000000):((aO ws i).val).length≤100000000:=by
 unfold aO;cases hx:ws[i]? with
 |some x=>exact h x (List.mem_of_getElem? hx)
 |none=>exact W2 _
theorem cD{α β:Type}{T:Out β}{r:Out α}{f:α→Nat→Out β}(e:T=r.bind f):∀code p,r=.no code p→T=.no code p:=fun code p h=>by rw[e,h];rfl
theorem cw{α β:Type} [Inhabited α]{T:Out β}{r:Out α}{f:α→Nat→Out β}(e:T=r.bind f)(h:r.okB=true):T=f r.val r.pos:=by
 rw[e];cases r with
 |ok a i=>rfl
 |no c p=>cases h
theorem yx{α:Type}{T r:Out α}(e:T=r):∀code p,r=.no code p→T=.no code p:=fun code p h=>by rw[e,h]
def gC{α:Type} [Inhabited α](k g:Nat)(A:Option Go.Addr)(n c:Nat)(r:Out α)(V:α→Value):Sx.ct:=⟨[k],[(k,⟨154,.cR g (dH A n c r.pos)⟩)],[],[],.val (V r.val),some (r.okB=true∧r.pos≤n)⟩
theorem lW{α γ:Type} [Inhabited α]{P:Program}{w:World}{f g n c i j:Nat}{A:Option Go.Addr}{V:α→Value}{r:Out α}{T:Out γ}{ws:List Bs}(rest:List Value)(h0:eC w g A n c i ws)(hj:j≤n)(hT:∀code p,r=.no code p→T=.no code p)
  (h:∀W,eC W g A n c j ws→Calls P f (.pointer (some ⟨g,0,none⟩)::rest).toArray W (bM g A n c V r W)) (W:World) (β:Sx.Env) (hS:Sx.eM ⟨w,[g],oU T w⟩ β W (Sx.rowAt (Sx.pX [(g,154,dH A n c j)])) [0]) :
  Calls P f ((Sx.SV.ptr 0 0::rest.map .val).map (Sx.SV.den β)).toArray W (Sx.br ⟨w,[g],oU T w⟩ β W (Sx.rowAt (Sx.pX [(g,154,dH A n c j)])) 1 (gC 0 g A n c r V)):=
 Ag rest hS (by simp) rfl (fun hB=>h W (h0.at hS.aF hj hB)) fun code p chain w' hr hf=>⟨code,p,hT code p hr,hf.up hS.aF.size⟩
theorem mQ{α γ:Type} [Inhabited α]{P:Program}{w:World}{f g n c i j:Nat}{A:Option Go.Addr}{V:α→Value}{r:Out α}{T:Out γ}{ws:List Bs}(ms:List Sx.Row)(rest:List Value)(h0:eC w g A n c i ws)(hj:j≤n)(hT:∀code p,r=.no code p→T=.no code p)
  (h:∀W,eC W g A n c j ws→Calls P f (.pointer (some ⟨g,0,none⟩)::rest).toArray W (bM g A n c V r W)) (W:World) (β:Sx.Env) (hS:Sx.eM ⟨w,[g],oU T w⟩ β W (Sx.rowAt (⟨154,.cR g (dH A n c j)⟩::ms)) [0]) :
  Calls P f ((Sx.SV.ptr 0 0::rest.map .val).map (Sx.SV.den β)).toArray W (Sx.br ⟨w,[g],oU T w⟩ β W (Sx.rowAt (⟨154,.cR g (dH A n c j)⟩::ms)) (ms.length+1) (gC 0 g A n c r V)):=
 Ag rest hS (by simp) rfl (fun hB=>h W (h0.at hS.aF hj hB)) fun code p chain w' hr hf=>⟨code,p,hT code p hr,hf.up hS.aF.size⟩
set_option maxRecDepth 100000
open Go.RowKit Go.Lib Go.Sort _root_.Go.Proofs.Tryz
set_option maxRecDepth 100000
def uw(s:Bs):Nat:=match Lib.parseUint10 0 s with
 |.ok u=>u
 |.range=>18446744073709551615
 |_=>0
def vD(s:Bs):Bool:=match s with
 | []=>false
 |_=>match Lib.parseUint10 0 s with
  |.ok _=>true
  |_=>false
theorem yn:∀(l:List UInt8) (acc u:Nat),Lib.parseUint10 acc l=.ok u→l.foldl (fun a c=>10*a+lu c) acc=u
 | [],acc,u,h=>by unfold Lib.parseUint10 at h;injection h
 |c::l,acc,u,h=>by
  unfold Lib.parseUint10 at h;split at h
  ·rename_i hc
   split at h
   ·cases h
   ·split at h
    ·cases h
    ·rw[List.foldl_cons]
     have hd:lu c=c.toNat - 48:=by unfold lu; rw[if_pos (by omega)]
     rw[hd,show 10*acc+(c.toNat - 48)=acc*10+(c.toNat - 48)by omega];exact yn l _ u h
  ·cases h
theorem vC{s:Bs}(h:vD s=true):cK s=uw s∧cK s < 18446744073709551616:=by
 unfold vD at h;split at h
 ·cases h
 ·split at h
  ·rename_i u hu
   have:=yn _ _ _ hu;refine⟨?_,?_⟩
   ·unfold cK uw;rw[this,hu]
   ·unfold cK;rw[this];exact Lib.parseUint10_lt _ 0 u (by omega) hu
  ·cases h
theorem vO{most:Nat}(hm:most < 18446744073709551616){s:Bs}(h:aM most s=true):vD s=true:=by
 unfold aM at h;rw[WZ,decide_eq_true_iff,decide_eq_true_iff]at h;have hp:=BO (cK s) (by omega);rw[h.2]at hp;unfold vD;split
 ·rename_i h1
  exact absurd h.2 (iR _)
 ·rw[hp]
theorem BV{most:Nat}{s:Bs}(h:vD s=true):aM most s=(decide (uw s≤most)&&(an 10 (uw s)==s)):=by unfold aM;rw[(vC h).1];congr 1;by_cases h2:an 10 (uw s)=s<;>simp[h2]
theorem Lq{most:Nat}(hm:most < 18446744073709551616){s:Bs}(h:vD s=false):aM most s=false:=by
 cases hn:aM most s with
 |false=>rfl
 |true=>rw[vO hm hn]at h;cases h
theorem RQ(s:Bs):uw s < 18446744073709551616:=by
 unfold uw;split
 ·rename_i u hu;exact Lib.parseUint10_lt _ 0 u (by omega) hu
 ·omega
 ·omega
def Ns(t:ByteArray)(w:World)(e:Ending)(w':World):Prop:=
 ∃er:Value,e=.returned (.tuple #[.int .u64 (uw t.data.toList:Nat),er])∧ai [] w w'∧((vD t.data.toList=true∧er=.nilIface)∨(vD t.data.toList=false∧(er=.iface 270 (.int .i64 2)∨er=.iface 270 (.int .i64 1))))
theorem Uc(t:ByteArray)(hmax:t.size≤281474976710656)(w:World):Calls prog 163 #[.string t,.int .i64 10,.int .i64 64] w (Ns t w):=by
 by_cases h0:t.size=0
 ·have ht:t=⟨#[]⟩:=by
   obtain⟨⟨l⟩⟩:=t;cases l with
   |nil=>rfl
   |cons _ _=>simp[ByteArray.size]at h0
  subst ht;refine(Tryz.internal_strconv_ParseUint_empty 10 64 w).mono ?_;rintro e w' ⟨rfl,rfl⟩;exact⟨_,rfl,ai.refl _ _,.inr ⟨rfl,.inl rfl⟩⟩
 ·refine(Tryz.internal_strconv_ParseUint_10_b64 t h0 (by omega) w).mono ?_
  rintro e w' ⟨rfl,rfl⟩;have hC:=sY w t;have hne:∃c l,t.data.toList=c::l:=by
   obtain⟨⟨l⟩⟩:=t;cases l with
   |nil=>simp[ByteArray.size]at h0
   |cons c l=>exact⟨c,l,rfl⟩
  obtain⟨c,l,hcl⟩:=hne;unfold Ns uw vD;rw[hcl];rcases h:Lib.parseUint10 0 (c::l)with u|_|_
  ·exact⟨.nilIface,rfl,hC,.inl ⟨rfl,rfl⟩⟩
  ·exact⟨_,rfl,hC,.inr ⟨rfl,.inl rfl⟩⟩
  ·exact⟨_,rfl,hC,.inr ⟨rfl,.inr rfl⟩⟩
def SY(t:ByteArray)(w:World)(e:Ending)(w':World):Prop:=
 ∃(v:Nat) (er:Value),e=.returned (.tuple #[.int .u64 v,er])∧v=uw t.data.toList∧ai [] w w'∧((vD t.data.toList=true∧er=.nilIface)∨(vD t.data.toList=false∧∃N,er=.iface 272 ((pt N 0))))
set_option maxHeartbeats 4000000 in
theorem Ud(t:ByteArray)(hmax:t.size≤281474976710656)(w:World)(hl:dO w):Calls prog 106 #[.string t,.int .i64 10,.int .i64 64] w (SY t w):=by
 have HP:=hid (Uc t hmax w);have HX:=hid hmax;clear hmax;go_enter func106,ntmps106
 go_wp2_with (go_at_call 163;refine HP.out.mono ?_)
 rintro e w2 ⟨er,rfl,C2,he⟩;obtain⟨v,hv⟩:∃v,v=uw t.data.toList:=⟨_,rfl⟩;rw[←hv];have HV:=hid hv;have HL:=hid (hl.dm C2);clear HP hv;rcases he with⟨hk,rfl⟩ | ⟨hk,rfl|rfl⟩
 ·have HK:=hid hk
  clear hk;go_wp2
  go_ret2
  exact⟨v,.nilIface,rfl,HV.out,C2,.inl ⟨HK.out,rfl⟩⟩
 ·have HK:=hid hk
  clear hk;obtain⟨ev,hev,hk⟩:=HL.out.e1;have HE:=hid hev;have HI:=hid hk;clear hev hk;go_wp2_with (go_at_call 164;refine(Tryz.strconv_toError_syntax _ _ _ _ ev _ HX.out HE.out HI.out).mono ?_;rintro e w3 ⟨N,rfl,hN,hN2,B3⟩)
  go_ret2
  exact⟨v,_,rfl,HV.out,C2.trans (ai.dG B3),.inr ⟨HK.out,N,rfl⟩⟩
 ·have HK:=hid hk
  clear hk;obtain⟨ev,hev,hk⟩:=HL.out.e2;have HE:=hid hev;have HI:=hid hk;clear hev hk;go_wp2_with (go_at_call 164;refine(Tryz.strconv_toError_range _ _ _ _ ev _ HX.out HE.out HI.out).mono ?_;rintro e w3 ⟨N,rfl,hN,hN2,B3⟩)
  go_ret2
  exact⟨v,_,rfl,HV.out,C2.trans (ai.dG B3),.inr ⟨HK.out,N,rfl⟩⟩
set_option maxHeartbeats 4000000 in
theorem Es(most:Nat)(hm:most < 18446744073709551616)(s:Bs)(hmax:s.length≤281474976710656)(w:World)(hl:dO w):Calls prog 232 #[.string ⟨s.toArray⟩,.int .u64 most] w fun e w'=>∃(v:Nat) (ok:Bool),e=.returned (.tuple #[.int .u64 v,.bool ok])∧v=uw s∧ok=aM most s∧ai [] w w':=by
 obtain⟨t,ht⟩:∃t:ByteArray,t=⟨s.toArray⟩:=⟨_,rfl⟩;have hts:t.data.toList=s:=by rw[ht]
 rw[←ht];have HP:=hid (Ud t (by rw[ht];exact hmax) w hl);have HF:=hid (fun(n:Nat) (hn:n < 18446744073709551616) (W:World) (hW:dO W)=>GP n hn W hW);have HM:=hid hm;have HT:=hid hts;have HL0:=hid hl;clear hmax hm hts ht hl;go_enter func232,ntmps232
 go_wp2_with (go_at_call 106;refine HP.out.mono ?_)
 rintro e w2 ⟨v,er,rfl,hv,C2,he⟩;rw[HT.out]at he hv;have HV:=hid hv;have HL:=hid (HL0.out.dm C2);clear HP hv;rcases he with⟨hk,rfl⟩ | ⟨hk,N,rfl⟩
 ·have HK:=hid hk
  clear hk;by_cases hle:v≤most
  ·have HF2:=hid (HF.out v (by rw[HV.out];exact RQ s) w2 HL.out)
   have HLE:=hid hle;have hle':decide ((v:Int)≤(most:Int))=true:=decide_eq_true (by omega);clear hle;go_wp2_with (go_at_call 73;refine HF2.out.mono ?_;rintro e w3 ⟨rfl,C3⟩)
   go_ret2
   refine⟨v,_,rfl,HV.out,?_,C2.trans C3⟩;rw[BV HK.out,←HV.out,decide_eq_true HLE.out,Xe,←HT.out,ByteArray.toList_eq]
  ·have hle':decide ((v:Int)≤(most:Int))=false:=decide_eq_false (by omega)
   have HLE:=hid hle;clear hle;go_wp2
   go_ret2
   refine⟨v,false,rfl,HV.out,?_,C2⟩;rw[BV HK.out,←HV.out,decide_eq_false HLE.out,Bool.false_and]
 ·have HK:=hid hk
  clear hk;go_wp2
  go_ret2
  exact⟨v,false,rfl,HV.out,(Lq HM.out HK.out).symm,C2⟩
theorem qq(most:Nat)(hm:most < 18446744073709551616)(s:Bs)(hmax:s.length≤281474976710656)(w:World)(hl:dO w):Calls prog 232 #[.string ⟨s.toArray⟩,.int .u64 most] w (Rn w (.tuple #[.int .u64 (uw s:Nat),.bool (aM most s)])):=
 (Es most hm s hmax w hl).mono fun _ _ ⟨_,_,he,hv,ho,hc⟩=>⟨by rw[he,hv,ho],hc⟩
set_option maxRecDepth 100000
open Go.RowKit Go.Lib Go.Sort _root_.Go.Proofs.Tryz
set_option maxHeartbeats 4000000 in
theorem sN(l:List UInt8)(w:World):Calls prog 33 #[.string ⟨l.toArray⟩] w fun e w'=>e=.returned (.bool (aS l))∧ai [] w w':=by
 obtain⟨s,hs⟩:∃s:ByteArray,s=⟨l.toArray⟩:=⟨_,rfl⟩;have hsz:s.size=l.length:=by rw[hs];rfl
 have HS:=hid hs;rw[←hs];clear hs;have HZ:=hid hsz;clear hsz;go_enter func33,ntmps33
 by_cases h0:s.size=0
 ·have hn:WN false=.bool (aS l):=by have:=HZ.out;unfold aS;rw[decide_eq_false (by omega)];rfl
  have HN:=hid hn;clear hn;go_wp2
  go_ret
  exact⟨congrArg _ HN.out,ai.refl _ _⟩
 by_cases h16:16 < s.size
 ·have hn:WN false=.bool (aS l):=by have:=HZ.out;unfold aS;rw[decide_eq_false (show ¬l.length≤16 by omega)];simp
  have HN:=hid hn;clear hn;go_wp2
  go_ret
  exact⟨congrArg _ HN.out,ai.refl _ _⟩
 have b0:((s.size:Int)==0)=false:=by rw[beq_eq_false_iff_ne];omega
 have b16:¬((16:Int) < (s.size:Int)):=by omega
 go_wp2
 go_loopw [3] (fun _ wr=>∃pos:Nat,wr.heap[w.heap.size]?=some (.stringIter s pos)∧Below w.heap.size w wr∧∀i c,i < pos→l[i]?=some c→Gs i c=true) (fun _ wr=>s.size - wr.iterPos w.heap.size)
 case atStart=>refine⟨0,?_,((Below.refl _ w).alloc (W3 _) _),fun i c h=>absurd h (Nat.not_lt_zero _)⟩;have:=World.iter_heap w s 0;simpa using this
 case round=>
  obtain⟨pos,hit,hbw,hok⟩:=hrel;have HOK:=hid hok;clear hok;by_cases hp:pos < s.size
  ·have hnx:∀ty,(Xv (.pointer (some ⟨w.heap.size,0,none⟩)) true ty).run prog wr=_:=fun ty=>Lib.run_next_any_at wr w.heap.size s pos ty hit hp
   have hr:=Om s pos hp;have hg:l[pos]?=some (s[pos]'hp):=by have:=HS.out;subst this;exact WX (show pos < l.length from hp)
   have hit2:=Lib.iterAt_heap wr w.heap.size s pos (pos+(Utf8.decode s pos).2) hit;have hbw2:=Lib.below_iterAt hbw (k:=w.heap.size) (by omega) s (pos+(Utf8.decode s pos).2);rcases hr with⟨hlo,hd⟩ | ⟨hhi,hd⟩
   ·rw[hd]at hnx hit2 hbw2
    generalize (s[pos]'hp)=c at*;obtain⟨x,hx⟩:∃x:Int,x=(c.toNat:Int):=⟨_,rfl⟩;rw[show((c.toNat:Nat):Int)=x from hx.symm]at hnx;have x0:0≤x:=by omega
    have HX:=hid hx;have HG:=hid hg;have HL2:=hid (show x < 128 by omega);clear hx hg hlo hd;have hup:Gs pos c=true→∀i c',i < pos+1→l[i]?=some c'→Gs i c'=true:=fun hc i c' hi h=>by
     by_cases he:i=pos
     ·subst he
      rw[HG.out]at h;injection h with h;rw[←h];exact hc
     ·exact HOK.out i c' (by omega) h
    have HUP:=hid hup;clear hup;by_cases hlet:97≤x∧x≤122
    ·obtain⟨ha,hb⟩:=hlet
     go_wp2
     go_roundw
     case rel=>exact⟨pos+1,hit2,hbw2,HUP.out (Pb HX.out ha hb)⟩
     case measure=>simp only[World.iterPos,hit2,hit];omega
    ·by_cases hpos:pos=0
     ·have hp0:¬((0:Int) < (pos:Int)):=by omega
      rcases(show x < 97∨(97≤x∧122 < x)by omega)with h97|⟨h97,h122⟩
      ·skip
       have h1:¬(97≤x):=by omega
       have hn:WN false=.bool (aS l):=by rw[lQ HG.out (yz HX.out (by omega) (by omega))]
       have HN:=hid hn;clear hn;go_wp2
       go_ret
       exact⟨congrArg _ HN.out,by simpa[hpos]using ai.dG hbw2⟩
      ·skip
       have h1:¬(x≤122):=by omega
       have hn:WN false=.bool (aS l):=by rw[lQ HG.out (yz HX.out (by omega) (by omega))]
       have HN:=hid hn;clear hn;go_wp2
       go_ret
       exact⟨congrArg _ HN.out,by simpa[hpos]using ai.dG hbw2⟩
     ·have hp0:(0:Int) < (pos:Int):=by omega
      rcases(show(97≤x∧122 < x)∨(x < 97∧48≤x∧x≤57)∨(x < 97∧x < 48∧x=45)∨(x < 97∧x < 48∧x≠45)∨(x < 97∧48≤x∧57 < x∧x=95)∨(x < 97∧48≤x∧57 < x∧x≠95)by omega)with⟨h97,h122⟩ | ⟨h97,h48,h57⟩ | ⟨h97,h48,hx⟩ | ⟨h97,h48,hx⟩ | ⟨h97,h48,h57,hx⟩ | ⟨h97,h48,h57,hx⟩
      ·skip
       have h1:¬(x≤122):=by omega
       have h48:48≤x:=by omega
       have h2:¬(x≤57):=by omega
       have e45:(x==45)=false:=by rw[beq_eq_false_iff_ne];omega
       have e95:(x==95)=false:=by rw[beq_eq_false_iff_ne];omega
       have hn:WN false=.bool (aS l):=by rw[lQ HG.out (yz HX.out (by omega) (by omega))]
       have HN:=hid hn;clear hn;go_wp2
       go_ret
       exact⟨congrArg _ HN.out,ai.dG hbw2⟩
      ·skip
       go_wp2
       go_roundw
       case rel=>exact⟨pos+1,hit2,hbw2,HUP.out (zZ HX.out (by omega) (by omega))⟩
       case measure=>simp only[World.iterPos,hit2,hit];omega
      ·skip
       have h1:¬(48≤x):=by omega
       have e45:(x==45)=true:=by rw[beq_iff_eq];omega
       go_wp2
       go_roundw
       case rel=>exact⟨pos+1,hit2,hbw2,HUP.out (zZ HX.out (by omega) (by omega))⟩
       case measure=>simp only[World.iterPos,hit2,hit];omega
      ·skip
       have h1:¬(48≤x):=by omega
       have e45:(x==45)=false:=by rw[beq_eq_false_iff_ne];omega
       have e95:(x==95)=false:=by rw[beq_eq_false_iff_ne];omega
       have hn:WN false=.bool (aS l):=by rw[lQ HG.out (yz HX.out (by omega) (by omega))]
       have HN:=hid hn;clear hn;go_wp2
       go_ret
       exact⟨congrArg _ HN.out,ai.dG hbw2⟩
      ·skip
       have h1:¬(x≤57):=by omega
       have e45:(x==45)=false:=by rw[beq_eq_false_iff_ne];omega
       have e95:(x==95)=true:=by rw[beq_iff_eq];omega
       go_wp2
       go_roundw
       case rel=>exact⟨pos+1,hit2,hbw2,HUP.out (zZ HX.out (by omega) (by omega))⟩
       case measure=>simp only[World.iterPos,hit2,hit];omega
      ·skip
       have h1:¬(x≤57):=by omega
       have e45:(x==45)=false:=by rw[beq_eq_false_iff_ne];omega
       have e95:(x==95)=false:=by rw[beq_eq_false_iff_ne];omega
       have hn:WN false=.bool (aS l):=by rw[lQ HG.out (yz HX.out (by omega) (by omega))]
       have HN:=hid hn;clear hn;go_wp2
       go_ret
       exact⟨congrArg _ HN.out,ai.dG hbw2⟩
   ·have HX:=hid (rfl:((s[pos]'hp).toNat:Int)=((s[pos]'hp).toNat:Int))
    have hn:WN false=.bool (aS l):=by rw[lQ hg (yz rfl (by omega) (by omega))]
    have HN:=hid hn;clear hn hg;obtain⟨x,hx⟩:∃x:Int,x=((Utf8.decode s pos).1:Int):=⟨_,rfl⟩;rw[←hx]at hnx;have hx128:128≤x:=by omega
    have h97:97≤x:=by omega
    have h122:122 < x:=by omega
    have h48:48≤x:=by omega
    have h57:57 < x:=by omega
    have e45:(x==45)=false:=by rw[beq_eq_false_iff_ne];omega
    have e95:(x==95)=false:=by rw[beq_eq_false_iff_ne];omega
    clear hhi hd hx;by_cases hpos:pos=0
    ·have hp0:¬((0:Int) < (pos:Int)):=by omega
     go_wp2
     go_ret
     exact⟨congrArg _ HN.out,by simpa[hpos]using ai.dG hbw2⟩
    ·have hp0:(0:Int) < (pos:Int):=by omega
     go_wp2
     go_ret
     exact⟨congrArg _ HN.out,ai.dG hbw2⟩
  ·have hnx:∀ty,(Xv (.pointer (some ⟨w.heap.size,0,none⟩)) true ty).run prog wr=_:=fun ty=>Lib.run_next_end_at wr w.heap.size s pos ty hit hp
   have hn:WN true=.bool (aS l):=by rw[IN (by have:=HZ.out;omega) (by have:=HZ.out;omega) (fun i c h=>HOK.out i c (by have:=(WO.1 h).1;have:=HZ.out;omega) h)]
   have HN:=hid hn;clear hn;go_wp2
   go_ret
   exact⟨congrArg _ HN.out,ai.dG hbw⟩
set_option maxRecDepth 100000
open Go.RowKit Go.Lib Go.Sort _root_.Go.Proofs.Tryz
def pR(n:Nat):Value:=.int .u64 (n:Int)
theorem lV(most:Nat)(hm:most < 18446744073709551616){w:World}{g:Nat}{A:Option Go.Addr}{n c i:Nat}{ws:List Bs}(h:eC w g A n c i ws):Calls prog 189 #[(pt g 0),.int .u64 (most:Int)] w (bM g A n c pR (a6 most ws i) w):=by
 have e1:a6 most ws i=(aO ws i).bind fun x j=>aR (aM most x) 200 (cK x) j:=rfl;have n1:=fun W (hL:eC W g A n c i ws)=>ou hL;have hx:(aO ws i).val.length≤100000000:=vT h.sz;generalize a6 most ws i=T at e1 ⊢;generalize aO ws i=r at e1 n1 hx;have c9:=lW [] h h.le (cD e1) n1;have c11f:=fun(_:r.okB=true∧r.pos≤n) W (hW:ai [g] w W)=>qq most hm r.val (by omega) W (h.Cp hW);have c16f:=fun(hp:r.okB=true∧r.pos≤n)=>lW [.bool (aM most r.val),.int .i64 200] h hp.2 (yx (cw e1 hp.1)) (fun W hL=>nH (aM most r.val) 200 (cK r.val) hL);have z2f:=fun(hp:r.okB=true∧r.pos≤n) (hp2:(aR (aM most r.val) 200 (cK r.val) r.pos).okB=true∧(aR (aM most r.val) 200 (cK r.val) r.pos).pos≤n)=>(show DM g A n c pR T (.val (pR (uw r.val))) [(g,154,dH A n c (aR (aM most r.val) 200 (cK r.val) r.pos).pos)]from by
  have e2:=cw e1 hp.1;cases hk:aM most r.val with
  |false=>rw[hk]at hp2;cases hp2.1
  |true=>rw[hk]at e2;exact⟨_,_,e2,hp.2,by rw[(vC (vO hm hk)).1],rfl⟩)
 refine fP [.int .u64 (most:Int)] h.bO [(9,.ay (gC 0 g A n c r ae)),(11,.call (.tuple #[pR (uw r.val),.bool (aM most r.val)])),(16,.ay (gC 0 g A n c (aR (aM most r.val) 200 (cK r.val) r.pos) fun _=>.tuple #[]))] [] (by kernel_rfl) func189 rfl (bU rfl) ?_;exact WW (by kernel_rfl) (WU c9 (fun(hx0:r.okB=true∧r.pos≤n)=>(Sx.t2 (c11f hx0) (c16f hx0) (fun(hx1:(aR (aM most r.val) 200 (cK r.val) r.pos).okB=true∧(aR (aM most r.val) 200 (cK r.val) r.pos).pos≤n)=>(z2f hx0 hx1)))))
set_option maxRecDepth 100000
open Go.RowKit Go.Lib Go.Sort _root_.Go.Proofs.Tryz
set_option maxRecDepth 100000
def rK(n:Nat):Value:=.int .i64 (n:Int)
theorem Et{most:Nat}{ws:List Bs}{i v j:Nat}(h:a6 most ws i=.ok v j):v≤most:=by
 unfold a6 at h;cases hr:aO ws i with
 |no c p=>rw[hr]at h;cases h
 |ok x k=>
  rw[hr]at h;simp only[Out.bind]at h;cases hk:aM most x with
  |false=>rw[hk]at h;cases h
  |true=>rw[hk]at h;injection h with h _;unfold aM at hk;rw[WZ,decide_eq_true_iff]at hk;omega
theorem Gk{α:Type} [Inhabited α]{r:Out α}{n:Nat}(h:r.okB=true∧r.pos≤n):r=.ok r.val r.pos:=Out.BS h.1
theorem we{w:World}{g:Nat}{A:Option Go.Addr}{n c i:Nat}{ws:List Bs}(h:eC w g A n c i ws):Calls prog 186 #[(pt g 0)] w (bM g A n c rK (ja ws i) w):=by have e1:ja ws i=a6 9223372036854775807 ws i:=rfl;have n1:=fun W (hL:eC W g A n c i ws)=>lV 9223372036854775807 (by omega) hL;have hle:∀v j,a6 9223372036854775807 ws i=.ok v j→v≤9223372036854775807:=fun v j=>Et;generalize ja ws i=T at e1 ⊢;generalize a6 9223372036854775807 ws i=r at e1 n1 hle;have c4:=lW [.int .u64 ((9223372036854775807:Nat):Int)] h h.le (yx e1) n1;have c5f:=fun(hp:r.okB=true∧r.pos≤n)=>(show WS .i64 (WR.wrap (r.val:Int))=.int .i64 (r.val:Int)from iw (jC (by omega) (by have:=hle _ _ (Gk hp);omega)));have z1f:=fun(hp:r.okB=true∧r.pos≤n)=>(show DM g A n c rK T (.val (rK r.val)) [(g,154,dH A n c r.pos)]from⟨_,_,by rw[e1];exact Gk hp,hp.2,rfl,rfl⟩);refine fP [] h.bO [(4,.ay (gC 0 g A n c r pR)),(5,.is (rK r.val))] [] (by kernel_rfl) func186 rfl (bU rfl) ?_;exact WW (by kernel_rfl) (WU c4 (fun(hx0:r.okB=true∧r.pos≤n)=>(WU (c5f hx0) (z1f hx0))))
theorem rC{w:World}{g:Nat}{A:Option Go.Addr}{n c i:Nat}{ws:List Bs}(h:eC w g A n c i ws):Calls prog 188 #[(pt g 0)] w (bM g A n c ae (fX ws i) w):=by
 have e1:fX ws i=(aO ws i).bind fun x j=>aR (aS x) 201 x j:=rfl;have n1:=fun W (hL:eC W g A n c i ws)=>ou hL;generalize fX ws i=T at e1 ⊢;generalize aO ws i=r at e1 n1;have c5:=lW [] h h.le (cD e1) n1;have c8f:=fun(_:r.okB=true∧r.pos≤n) W (_:ai [g] w W)=>sN r.val W;have c9f:=fun(hp:r.okB=true∧r.pos≤n)=>lW [.bool (aS r.val),.int .i64 201] h hp.2 (yx (cw e1 hp.1)) (fun W hL=>nH (aS r.val) 201 r.val hL);have z2f:=fun(hp:r.okB=true∧r.pos≤n) (hp2:(aR (aS r.val) 201 r.val r.pos).okB=true∧(aR (aS r.val) 201 r.val r.pos).pos≤n)=>(show DM g A n c ae T (.val (ae r.val)) [(g,154,dH A n c (aR (aS r.val) 201 r.val r.pos).pos)]from by
  have e2:=cw e1 hp.1;cases hk:aS r.val with
  |false=>rw[hk]at hp2;cases hp2.1
  |true=>rw[hk]at e2;exact⟨_,_,e2,hp.2,rfl,rfl⟩)
 refine fP [] h.bO [(5,.ay (gC 0 g A n c r ae)),(8,.call (.bool (aS r.val))),(9,.ay (gC 0 g A n c (aR (aS r.val) 201 r.val r.pos) fun _=>.tuple #[]))] [] (by kernel_rfl) func188 rfl (bU rfl) ?_;exact WW (by kernel_rfl) (WU c5 (fun(hx0:r.okB=true∧r.pos≤n)=>(Sx.t2 (c8f hx0) (c9f hx0) (fun(hx1:(aR (aS r.val) 201 r.val r.pos).okB=true∧(aR (aS r.val) 201 r.val r.pos).pos≤n)=>(z2f hx0 hx1)))))
open Go.RowKit Go.Lib Go.Sort
structure RS where
 at_:Nat
 e:Nat
abbrev RA(α:Type):=RS→α×RS
def j6{α β:Type}(q:RA α)(h:α→RA β):RA β:=fun st=>h (q st).1 (q st).2
def pW{α:Type}(a:α):RA α:=fun st=>(a,st)
def ee(code:Nat)(st:RS):RS:=match W4 st.e 0 with
 |true=>⟨st.at_ - 1,code⟩
 |false=>st
def xH{α:Type}(ok:Bool)(code:Nat)(a:α):RA α:=fun st=>(a,match ok with
 |true=>st
 |false=>ee code st)
def av(ws:List Bs):RA Bs:=fun st=>match W4 st.e 0 with
 |true=>match ws[st.at_]? with
  |some x=>(x,⟨st.at_+1,0⟩)
  |none=>([],⟨st.at_,200⟩)
 |false=>([],st)
def pZ(ws:List Bs)(s:Bs)(st:RS):Bool:=W4 st.e 0&&decide (ws[st.at_]?=some s)
def eR(most:Nat)(s:Bs):Nat:=match aM most s with
 |true=>cK s
 |false=>0
def jD(most:Nat)(ws:List Bs):RA Nat:=j6 (av ws) fun x=>xH (aM most x) 200 (eR most x)
noncomputable def dL(ws:List Bs):RA Px:=j6 (av ws) fun x=>xH (nE x).isSome 151 ((nE x).getD nz)
def eD(ws:List Bs):RA (Nat×Nat):=j6 (av ws) fun x=>xH (aM 65535 (cC x).1&&aM 65535 (cC x).2) 200 (eR 65535 (cC x).1,eR 65535 (cC x).2)
def e8(ws:List Bs):RA Nat:=fun st=>match pZ ws js st with
 |true=>(6,(av ws st).2)
 |false=>match pZ ws jH st with
  |true=>(17,(av ws st).2)
  |false=>jD 255 ws st
structure oT{α:Type}(L:Nat)(r:Nat→Out α)(q:RA α):Prop where
 run:∀i,i≤L→match r i with
  |.ok a j=>q ⟨i,0⟩=(a,⟨j,0⟩)∧j≤L
  |.no c p=>c≠0∧(q ⟨i,0⟩).2=⟨p - 1,c⟩
 stay:∀st:RS,st.e≠0→(q st).2=st
theorem oT.bind{α β:Type}{L:Nat}{r:Nat→Out α}{q:RA α}{f:α→Nat→Out β}{h:α→RA β}(H:oT L r q)(H2:∀a,oT L (f a) (h a)):oT L (fun i=>(r i).bind f) (j6 q h):=by
 refine⟨fun i hi=>?_,fun st hs=>?_⟩
 ·have h1:=H.run i hi
  cases hr:r i with
  |ok a j=>rw[hr]at h1;have h2:=(H2 a).run j h1.2;simp only[Out.bind];unfold j6;rw[h1.1];exact h2
  |no c p=>rw[hr]at h1;simp only[Out.bind];refine⟨h1.1,?_⟩;unfold j6;rw[(H2 _).stay _ (by rw[h1.2];exact h1.1),h1.2]
 ·unfold j6
  have:=H.stay st hs;rw[(H2 _).stay _ (by rw[this];exact hs),this]
theorem tk{code:Nat}{st:RS}(h:st.e≠0):ee code st=st:=by
 unfold ee;cases hb:W4 st.e 0 with
 |true=>exact absurd (WY hb) h
 |false=>rfl
theorem oT.SE{α:Type}{L:Nat}{ok:Bool}{code:Nat}{a a':α}(hc:code≠0)(h:ok=true→a'=a):oT L (aR ok code a) (xH ok code a'):=by
 refine⟨fun i hi=>?_,fun st hs=>?_⟩
 ·cases ok with
  |true=>exact⟨by simp only[xH,h rfl],hi⟩
  |false=>exact⟨hc,rfl⟩
 ·cases ok with
  |true=>rfl
  |false=>exact tk hs
theorem oT.pure{α:Type}{L:Nat}(a:α):oT L (fun i=>.ok a i) (pW a):=⟨fun _ hi=>⟨rfl,hi⟩,fun _ _=>rfl⟩
theorem oT.congr{α:Type}{L:Nat}{r r':Nat→Out α}{q q':RA α}(h:oT L r q)(hr:∀i,r' i=r i)(hq:∀st,q' st=q st):oT L r' q':=by have e1:r'=r:=funext hr;have e2:q'=q:=funext hq;rw[e1,e2];exact h
theorem u4(ws:List Bs):oT ws.length (aO ws) (av ws):=by
 refine⟨fun i hi=>?_,fun st hs=>?_⟩
 ·unfold aO av
  cases h:ws[i]? with
  |some x=>exact⟨by simp,(WO.1 h).1⟩
  |none=>exact⟨by decide,by simp⟩
 ·unfold av
  cases hb:W4 st.e 0 with
  |true=>exact absurd (WY hb) hs
  |false=>rfl
theorem vl{most:Nat}{s:Bs}(h:aM most s=true):eR most s=cK s:=by unfold eR;rw[h]
theorem D9(most:Nat)(ws:List Bs):oT ws.length (a6 most ws) (jD most ws):=
 (u4 ws).bind fun x=>oT.SE (by decide) fun h=>vl h
theorem uZ(ws:List Bs):oT ws.length (dr ws) (dL ws):=
 (u4 ws).bind fun x=>oT.SE (by decide) fun _=>rfl
theorem uY(ws:List Bs):oT ws.length (ig ws) (eD ws):=
 (u4 ws).bind fun x=>oT.SE (by decide) fun h=>by rw[WZ]at h;rw[vl h.1,vl h.2]
theorem BF{ws:List Bs}{s:Bs}{st:RS}(h:st.e≠0):pZ ws s st=false:=by
 unfold pZ;cases hb:W4 st.e 0 with
 |true=>exact absurd (WY hb) h
 |false=>rfl
theorem oT.DU{α:Type}{ws:List Bs}{s:Bs}{f:Bool→Nat→Out α}{h h':RA α}(H:oT ws.length (f true) h)(H':oT ws.length (f false) h') :
  oT ws.length (fun i=>(cN ws i s).bind f) (fun st=>match pZ ws s st with|true=>h (av ws st).2|false=>h' st):=by
 refine⟨fun i hl=>?_,fun st hs=>?_⟩
 ·by_cases hi:ws[i]?=some s
  ·have e1:cN ws i s=.ok true (i+1):=by unfold cN;rw[if_pos hi]
   have e2:pZ ws s ⟨i,0⟩=true:=by unfold pZ;simp[hi]
   have e3:(av ws ⟨i,0⟩).2=⟨i+1,0⟩:=by unfold av;simp[hi]
   rw[e1];simp only[e2,e3,Out.bind];exact H.run _ (WO.1 hi).1
  ·have e1:cN ws i s=.ok false i:=by unfold cN;rw[if_neg hi]
   have e2:pZ ws s ⟨i,0⟩=false:=by unfold pZ;simp[hi]
   rw[e1];simp only[e2,Out.bind];exact H'.run _ hl
 ·simp only[BF hs];exact H'.stay st hs
theorem Hn(ws:List Bs):oT ws.length (dS ws) (e8 ws):=by have h3:=oT.DU (ws:=ws) (s:=jH) (f:=fun b k=>match b with|true=>Out.ok 17 k|false=>a6 255 ws k) (oT.pure 17) (D9 255 ws);refine(oT.DU (ws:=ws) (s:=js) (f:=fun a j=>match a with|true=>Out.ok 6 j|false=>(cN ws j jH).bind fun b k=>match b with|true=>.ok 17 k|false=>a6 255 ws k) (oT.pure 6) h3).congr (fun _=>rfl) fun st=>?_;unfold e8 pW;cases pZ ws js st<;>rfl
noncomputable def lg(k:Nat)(m:Mt)(ws:List Bs):RA Mt:=match k with
 | 0=>j6 (eD ws) fun s=>pW { m with fE:=s }
 | 1=>j6 (dL ws) fun s=>pW { m with src:=s }
 | 2=>j6 (dL ws) fun s=>pW { m with dst:=s }
 | 3=>j6 (e8 ws) fun s=>pW { m with bc:=s }
 | 4=>j6 (eD ws) fun s=>pW { m with sp:=s }
 |_=>j6 (eD ws) fun s=>pW { m with dp:=s }
theorem Hm(k:Nat)(m:Mt)(ws:List Bs):oT ws.length (bV k m ws) (lg k m ws):=by
 rcases k with _|_|_|_|_|k
 ·exact(uY ws).bind fun _=>oT.pure _
 ·exact(uZ ws).bind fun _=>oT.pure _
 ·exact(uZ ws).bind fun _=>oT.pure _
 ·exact(Hn ws).bind fun _=>oT.pure _
 ·exact(uY ws).bind fun _=>oT.pure _
 ·exact(uY ws).bind fun _=>oT.pure _
def jy(ws:List Bs)(st:RS):Bool:=W4 st.e 0&&match ws[st.at_]? with
 |some x=>(lq x).isSome
 |none=>false
noncomputable def aP(ws:List Bs)(m:Mt):RA (Mt×Bool):=fun st=>match lq (av ws st).1 with
 |none=>((m,false),ee 200 (av ws st).2)
 |some k=>match m.asks.testBit k with
  |true=>((m,false),ee 200 (av ws st).2)
  |false=>(((lg k { m with asks:=m.asks|||2^k } ws (av ws st).2).1,true),(lg k { m with asks:=m.asks|||2^k } ws (av ws st).2).2)
noncomputable def db(ws:List Bs):Nat→Mt→RA Mt
 | 0,m=>fun st=>(m,st)
 |f+1,m=>fun st=>match(aP ws m st).1.2 with
  |false=>((aP ws m st).1.1,(aP ws m st).2)
  |true=>match jy ws (aP ws m st).2 with
   |true=>db ws f (aP ws m st).1.1 (aP ws m st).2
   |false=>((aP ws m st).1.1,(aP ws m st).2)
noncomputable def e9(ws:List Bs):RA Mt:=fun st=>match pZ ws gD st with
 |true=>(ei,(av ws st).2)
 |false=>db ws (ws.length+1 - st.at_) ei st
open Go.RowKit Go.Lib Go.Sort
def One{α:Type}(ws:List Bs)(r:Nat→Out α):Prop:=∀i a j,r i=.ok a j→j=i+1∧j≤ws.length
theorem rA(ws:List Bs):One ws (aO ws):=by
 intro i a j h;unfold aO at h;split at h
 ·rename_i x hx
  injection h with h1 h2;have:=(WO.1 hx).1;omega
 ·cases h
theorem One.SE{α:Type}{ws:List Bs}{f:Bs→Nat→Out α}(h:∀x j a k,f x j=.ok a k→k=j):One ws (fun i=>(aO ws i).bind f):=by
 intro i a j hj;cases hr:aO ws i with
 |ok x k=>simp only[hr,Out.bind]at hj;have:=rA ws i x k hr;rw[h x k a j hj];exact this
 |no c p=>simp only[hr,Out.bind]at hj;cases hj
theorem qX{α:Type}{b:Bool}{code:Nat}{a a':α}{i j:Nat}(h:aR b code a i=.ok a' j):j=i:=by
 cases b with
 |true=>injection h with _ h;exact h.symm
 |false=>cases h
theorem Ep(most:Nat)(ws:List Bs):One ws (a6 most ws):=One.SE fun _ _ _ _ h=>qX h
theorem vG(ws:List Bs):One ws (ig ws):=One.SE fun _ _ _ _ h=>qX h
theorem vH(ws:List Bs):One ws (dr ws):=One.SE fun _ _ _ _ h=>qX h
theorem gp{ws:List Bs}{i:Nat}{s:Bs}:(cN ws i s=.ok true (i+1)∧i+1≤ws.length)∨cN ws i s=.ok false i:=by
 unfold cN;split
 ·rename_i h
  have:=(WO.1 h).1;exact .inl ⟨rfl,this⟩
 ·exact .inr rfl
theorem Iz(ws:List Bs):One ws (dS ws):=by
 intro i a j h;unfold dS at h;rcases gp (ws:=ws) (i:=i) (s:=js)with⟨h1,h2⟩ | h1
 ·simp only[h1,Out.bind]at h
  injection h with _ h;omega
 ·simp only[h1,Out.bind]at h
  rcases gp (ws:=ws) (i:=i) (s:=jH)with⟨h3,h4⟩ | h3
  ·simp only[h3]at h
   injection h with _ h;omega
  ·simp only[h3]at h
   exact Ep 255 ws i a j h
theorem One.map{α β:Type}{ws:List Bs}{r:Nat→Out α}{f:α→β}(h:One ws r):One ws (fun i=>(r i).bind fun a j=>.ok (f a) j):=by
 intro i b j hj;cases hr:r i with
 |ok x k=>simp only[hr,Out.bind]at hj;injection hj with _ hj;rw[←hj];exact h i x k hr
 |no c p=>simp only[hr,Out.bind]at hj;cases hj
theorem Iy(k:Nat)(m:Mt)(ws:List Bs):One ws (bV k m ws):=by
 unfold bV;split
 ·exact(vG ws).map
 ·exact(vH ws).map
 ·exact(vH ws).map
 ·exact(Iz ws).map
 ·exact(vG ws).map
 ·exact(vG ws).map
theorem pA{ws:List Bs}{i:Nat}{m m':Mt}{j:Nat}(h:aI ws i m=.ok (true,m') j):j=i+2∧j≤ws.length:=by
 unfold aI at h;split at h
 ·cases h
 ·rename_i x hx
  split at h
  ·cases h
  ·rename_i k hk
   split at h
   ·cases h
   ·cases hr:bV k { m with asks:=m.asks|||2^k } ws (i+1)with
    |ok a l=>simp only[hr,Out.bind]at h;injection h with h1 h2;have:=Iy _ _ _ _ _ _ hr;omega
    |no c p=>simp only[hr,Out.bind]at h;cases h
theorem ow(ws:List Bs):∀(f f' i:Nat) (m:Mt),ws.length+1 - i≤f→ws.length+1 - i≤f'→i≤ws.length→dy ws f i m=dy ws f' i m
 | 0,_,i,m,h,_,hi=>by omega
 |_+1,0,i,m,_,h,hi=>by omega
 |f+1,f'+1,i,m,h1,h2,hi=>by
  unfold dy;cases hr:aI ws i m with
  |no c p=>rfl
  |ok r j=>
   obtain⟨b,m'⟩:=r;cases b with
   |false=>rfl
   |true=>simp only[Out.bind];have:=pA hr;exact ow ws f f' j m' (by omega) (by omega) this.2
noncomputable def iC(ws:List Bs)(i:Nat)(m:Mt):Out Mt:=(aI ws i m).bind fun r k=>match r.1 with
 |true=>dy ws (ws.length+1 - k) k r.2
 |false=>(aO ws k).bind fun _ l=>.no 200 l
theorem nV{ws:List Bs}{m:Mt}{st:RS}(h:lq (av ws st).1=none):aP ws m st=((m,false),ee 200 (av ws st).2):=by unfold aP;rw[h]
theorem GQ:lq []=none:=by decide
theorem B8{ws:List Bs}{j:Nat}(hj:j≤ws.length)(m:Mt):dy ws (ws.length+1 - j) j m=(match jy ws ⟨j,0⟩with|true=>iC ws j m|false=>.ok m j):=by
 obtain⟨f,hf⟩:∃f,ws.length+1 - j=f+1:=⟨ws.length - j,by omega⟩;rw[hf];unfold dy iC jy;cases hx:ws[j]? with
 |none=>
  have:aI ws j m=.ok (false,m) j:=by unfold aI;rw[hx]
  simp[this,Out.bind]
 |some x=>
  cases hk:lq x with
  |none=>
   have:aI ws j m=.ok (false,m) j:=by unfold aI;rw[hx];simp only[hk]
   simp[this,Out.bind,hk]
  |some k=>
   simp only[hk,Option.isSome_some,Nat.beq_refl,Bool.and_true];cases hr:aI ws j m with
   |no c p=>rfl
   |ok r l=>
    obtain⟨b,m'⟩:=r;cases b with
    |true=>simp only[Out.bind];have:=pA hr;exact ow ws _ _ _ _ (by omega) (W3 _) this.2
    |false=>
     exfalso;unfold aI at hr;rw[hx]at hr;simp only[hk]at hr;split at hr
     ·cases hr
     ·rename_i ht
      cases hr2:bV k { m with asks:=m.asks|||2^k } ws (j+1)with
      |ok a l=>rw[hr2]at hr;simp only[Out.bind]at hr;cases hr
      |no c p=>rw[hr2]at hr;simp only[Out.bind]at hr;cases hr
theorem Ee{ws:List Bs}{st:RS}(h:st.e≠0):jy ws st=false:=by
 unfold jy;cases hb:W4 st.e 0 with
 |true=>exact absurd (WY hb) h
 |false=>rfl
theorem tp(ws:List Bs):∀(f i:Nat) (m:Mt),i≤ws.length→ws.length+1 - i≤f→(match iC ws i m with
  |.ok a j=>db ws f m ⟨i,0⟩=(a,⟨j,0⟩)∧j≤ws.length
  |.no c p=>c≠0∧(db ws f m ⟨i,0⟩).2=⟨p - 1,c⟩)
 | 0,i,m,h,hf=>by omega
 |f+1,i,m,h,hf=>by
  cases hx:ws[i]? with
  |none=>
   have e1:aI ws i m=.ok (false,m) i:=by unfold aI;rw[hx]
   have e2:aO ws i=.no 200 (i+1):=by unfold aO;rw[hx]
   have e3:av ws ⟨i,0⟩=([],⟨i,200⟩):=by unfold av;simp[hx]
   have e4:iC ws i m=.no 200 (i+1):=by unfold iC;rw[e1];simp only[Out.bind];rw[e2]
   have e5:aP ws m ⟨i,0⟩=((m,false),⟨i,200⟩):=by rw[nV (by rw[e3];exact GQ),e3];rfl
   rw[e4];unfold db;rw[e5];exact⟨by decide,rfl⟩
  |some x=>
   have e3:av ws ⟨i,0⟩=(x,⟨i+1,0⟩):=by unfold av;simp[hx]
   cases hk:lq x with
   |none=>
    have e1:aI ws i m=.ok (false,m) i:=by unfold aI;rw[hx];simp only[hk]
    have e2:aO ws i=.ok x (i+1):=by unfold aO;rw[hx]
    have e4:iC ws i m=.no 200 (i+1):=by unfold iC;rw[e1];simp only[Out.bind];rw[e2]
    have e5:aP ws m ⟨i,0⟩=((m,false),⟨i,200⟩):=by rw[nV (by rw[e3];exact hk),e3];rfl
    rw[e4];unfold db;rw[e5];exact⟨by decide,rfl⟩
   |some k=>
    cases ht:m.asks.testBit k with
    |true=>
     have e1:aI ws i m=.no 200 (i+1):=by unfold aI;rw[hx];simp only[hk,ht]
     have e4:iC ws i m=.no 200 (i+1):=by unfold iC;rw[e1];rfl
     have e5:aP ws m ⟨i,0⟩=((m,false),⟨i,200⟩):=by unfold aP;rw[e3];simp only[hk,ht];rfl
     rw[e4];unfold db;rw[e5];exact⟨by decide,rfl⟩
    |false=>
     have hsim:=(Hm k { m with asks:=m.asks|||2^k } ws).run (i+1) (WO.1 hx).1;have e5:aP ws m ⟨i,0⟩=(((lg k { m with asks:=m.asks|||2^k } ws ⟨i+1,0⟩).1,true),(lg k { m with asks:=m.asks|||2^k } ws ⟨i+1,0⟩).2):=by unfold aP;rw[e3];simp only[hk,ht]
     cases hr:bV k { m with asks:=m.asks|||2^k } ws (i+1)with
     |no c p=>
      rw[hr]at hsim;have e1:aI ws i m=.no c p:=by unfold aI;rw[hx];simp only[hk,ht,hr];rfl
      have e4:iC ws i m=.no c p:=by unfold iC;rw[e1];rfl
      rw[e4];unfold db;rw[e5];simp only[Ee (ws:=ws) (st:=(lg k { m with asks:=m.asks|||2^k } ws ⟨i+1,0⟩).2) (by rw[hsim.2];exact hsim.1)];exact hsim
     |ok m' j=>
      rw[hr]at hsim;have e1:aI ws i m=.ok (true,m') j:=by unfold aI;rw[hx];simp only[hk,ht,hr];rfl
      have hj:=pA e1;have e4:iC ws i m=dy ws (ws.length+1 - j) j m':=by unfold iC; rw[e1]; rfl
      have hsim:lg k { m with asks:=m.asks|||2^k } ws ⟨i+1,0⟩=(m',⟨j,0⟩):=hsim.1;rw[e4,B8 hj.2];unfold db;rw[e5,hsim];cases hm:jy ws ⟨j,0⟩with
      |true=>exact tp ws f j m' hj.2 (by omega)
      |false=>exact⟨rfl,hj.2⟩
theorem zH(ws:List Bs):∀(f:Nat) (m:Mt) (st:RS),st.e≠0→(db ws f m st).2=st
 | 0,_,_,_=>rfl
 |f+1,m,st,hs=>by
  have e3:av ws st=([],st):=by
   unfold av;cases hb:W4 st.e 0 with
   |true=>exact absurd (WY hb) hs
   |false=>rfl
  have e5:aP ws m st=((m,false),st):=by rw[nV (by rw[e3];exact GQ),e3,tk hs]
  unfold db;rw[e5]
theorem Ef(ws:List Bs)(i:Nat)(hi:i≤ws.length):match cS ws i with
  |.ok a j=>e9 ws ⟨i,0⟩=(a,⟨j,0⟩)∧j≤ws.length
  |.no c p=>c≠0∧(e9 ws ⟨i,0⟩).2=⟨p - 1,c⟩:=by
 unfold cS e9;by_cases hx:ws[i]?=some gD
 ·have e1:cN ws i gD=.ok true (i+1):=by unfold cN;rw[if_pos hx]
  have e2:pZ ws gD ⟨i,0⟩=true:=by unfold pZ;simp[hx]
  have e3:(av ws ⟨i,0⟩).2=⟨i+1,0⟩:=by unfold av;simp[hx]
  rw[e1];simp only[e2,e3,Out.bind];exact⟨trivial,(WO.1 hx).1⟩
 ·have e1:cN ws i gD=.ok false i:=by unfold cN;rw[if_neg hx]
  have e2:pZ ws gD ⟨i,0⟩=false:=by unfold pZ;simp[hx]
  rw[e1];simp only[e2,Out.bind];exact tp ws _ i ei hi (W3 _)
theorem BE(ws:List Bs)(st:RS)(hs:st.e≠0):(e9 ws st).2=st:=by unfold e9;rw[BF hs];exact zH ws _ _ _ hs
theorem Ho(ws:List Bs):oT ws.length (cS ws) (e9 ws):=
 ⟨fun i hi=>by have:=Ef ws i hi;revert this;cases cS ws i<;>exact id,BE ws⟩
end Go.Proofs.YtnncigmpcdehnaaGreatDoor
