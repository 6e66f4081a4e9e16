import Derived.Test.YtnncigmpcdehnaaGreatDoorQi03
import Derived.Test.YtnncigmpcdehnaaGreatDoorQi05
import Derived.Lib.OthersKept
import Derived.Laws.RangeAny
import Derived.Deep.CutRange
open List renaming getElem?_eq_some_iff→VE,getElem?_eq_getElem→VH,getElem?_eq_none_iff→VM,append_nil→VT,mem_range→VU,map_cons→VY,map_map→Wa,map_id→Wb
open Go.Value renaming bool→VF,int→VL,string→VX
open Go.IntKind renaming i64→VG
open And renaming intro→VI
open Go.Sem renaming run_bind→VJ
open Bool renaming and_eq_true→VK,true_and→VN
open Nat renaming beq→VO,eq_of_beq_eq_true→VP,le_refl→VR,lt_of_lt_of_le→VS
open Eq renaming mp→VQ
open Go.Instr renaming sliceAt→VV,indexAt→VW,loadAt→VZ,next→Wc
namespace Go.Proofs.YtnncigmpcdehnaaGreatDoor
open Go.RowKit Go.Lib Go.Sort
def Ex(i:Nat)(c:UInt8):Bool:=(decide (97≤c.toNat)&&decide (c.toNat≤122))||(decide (0 < i)&&(decide (48≤c.toNat)&&decide (c.toNat≤57)||decide (c.toNat=45)||decide (c.toNat=95)))
def aJ(l:List UInt8):Bool:=decide (1≤l.length)&&decide (l.length≤16)&&(List.range l.length).all fun i=>Ex i (l[i]?.getD 0)
theorem ki{l:List UInt8}{i:Nat}{c:UInt8}(h:l[i]?=some c)(hc:Ex i c=false):aJ l=false:=by have hlt:i < l.length:=(VE.1 h).1;unfold aJ;rw[Bool.and_eq_false_iff];right;rw[List.all_eq_false];exact⟨i,VU.2 hlt,by rw[h];simpa using hc⟩
theorem Gr{l:List UInt8}(h1:1≤l.length)(h2:l.length≤16)(h:∀i c,l[i]?=some c→Ex i c=true):aJ l=true:=by unfold aJ;rw[decide_eq_true h1,decide_eq_true h2,VN,VN,List.all_eq_true];intro i hi;have hlt:=VU.1 hi;rw[VH hlt];exact h i _ (VH hlt)
theorem ND{i:Nat}{c:UInt8}{x:Int}(hx:x=(c.toNat:Int))(h1:97≤x)(h2:x≤122):Ex i c=true:=by unfold Ex;rw[decide_eq_true (show 97≤c.toNat by omega),decide_eq_true (show c.toNat≤122 by omega)];rfl
theorem xO{i:Nat}{c:UInt8}{x:Int}(hx:x=(c.toNat:Int))(hi:0 < i)(h:(48≤x∧x≤57)∨x=45∨x=95):Ex i c=true:=by
 unfold Ex;rw[decide_eq_true hi];rcases h with⟨h1,h2⟩ | h|h
 ·rw[decide_eq_true (show 48≤c.toNat by omega),decide_eq_true (show c.toNat≤57 by omega)];simp
 ·rw[decide_eq_true (show c.toNat=45 by omega)];simp
 ·rw[decide_eq_true (show c.toNat=95 by omega)];simp
theorem wi{i:Nat}{c:UInt8}{x:Int}(hx:x=(c.toNat:Int))(h1:¬(97≤x∧x≤122))(h2:¬(0 < i∧((48≤x∧x≤57)∨x=45∨x=95))):Ex i c=false:=by unfold Ex;apply Bool.eq_false_iff.2;intro h;simp only[Bool.or_eq_true,VK,decide_eq_true_eq]at h;omega
theorem MV(s:ByteArray)(pos:Nat)(h:pos < s.size):((s[pos]'h).toNat < 128∧Utf8.decode s pos=((s[pos]'h).toNat,1))∨(128≤(s[pos]'h).toNat∧128≤(Utf8.decode s pos).1):=by
 by_cases ha:(s[pos]'h).toNat < 128
 ·exact .inl ⟨ha,decode_ascii s pos h ha⟩
 ·exact .inr ⟨by omega,(decode_high s pos h (by omega)).1⟩
open Go.RowKit Go.Lib Go.Sort
abbrev Bs:=List UInt8
inductive Out (α:Type) where
 |ok (a:α) (i:Nat)
 |no (code:Nat) (place:Nat)
def Out.bind{α β:Type}(r:Out α)(f:α→Nat→Out β):Out β:=match r with
 |.ok a i=>f a i
 |.no c p=>.no c p
def Out.okB{α:Type}:Out α→Bool
 |.ok _ _=>true
 |.no _ _=>false
def Out.val{α:Type} [Inhabited α]:Out α→α
 |.ok a _=>a
 |.no _ _=>default
def Out.pos{α:Type}:Out α→Nat
 |.ok _ i=>i
 |.no _ p=>p
theorem Out.Et{α:Type} [Inhabited α]{r:Out α}(h:r.okB=true):r=.ok r.val r.pos:=by
 cases r with
 |ok a i=>rfl
 |no c p=>cases h
def kZ:Bs:=[97,110,121]
def wD:Bs:=[105,110]
def lD:Bs:=[115,114,99]
def nJ:Bs:=[100,115,116]
def fD:Bs:=[112,114,111,116,111]
def gV:Bs:=[115,112,111,114,116]
def iT:Bs:=[100,112,111,114,116]
def lC:Bs:=[116,99,112]
def mv:Bs:=[117,100,112]
def di:Bs:=[114,111,117,116,101]
def lA:Bs:=[100,114,111,112]
def fZ:Bs:=[114,101,106,101,99,116]
def oy:Bs:=[111,117,116]
def wB:Bs:=[45,62]
def bK:Bs:=[109,101,116,101,114]
def ba:Bs:=[109,105,114,114,111,114]
def kp:Bs:=[112,111,114,116]
def fY:Bs:=[114,117,108,101]
def bj:Bs:=[100,101,102,97,117,108,116]
structure Px where
 v:Bool
 n:Nat
 k:Int
def oN:Px:=⟨false,0,0⟩
instance:Inhabited Px:=⟨oN⟩
def Px.cells(p:Px):List Value:=ep p.v p.n p.k
noncomputable def oM(s:Bs):Option Px:=by
 classical
 exact if h:∃p:Px,BL s p.v p.n p.k then some h.choose else none
def dM(s:Bs):Nat:=s.foldl (fun a c=>10*a+nB c) 0
def bR(most:Nat)(s:Bs):Bool:=decide (dM s≤most)&&decide (ao 10 (dM s)=s)
def aP(ws:List Bs)(i:Nat):Out Bs:=match ws[i]? with
 |some x=>.ok x (i+1)
 |none=>.no 200 (i+1)
def dd(ws:List Bs)(i:Nat)(s:Bs):Out Bool:=if ws[i]?=some s then .ok true (i+1)else .ok false i
def aK{α:Type}(b:Bool)(code:Nat)(a:α)(i:Nat):Out α:=match b with
 |true=>.ok a i
 |false=>.no code i
def bc(most:Nat)(ws:List Bs)(i:Nat):Out Nat:=(aP ws i).bind fun x j=>aK (bR most x) 200 (dM x) j
def gz(ws:List Bs)(i:Nat):Out Nat:=bc 9223372036854775807 ws i
def fh(ws:List Bs)(i:Nat):Out Bs:=(aP ws i).bind fun x j=>aK (aJ x) 201 x j
noncomputable def cZ(ws:List Bs)(i:Nat):Out Px:=(aP ws i).bind fun x j=>aK (oM x).isSome 151 ((oM x).getD oN) j
def dI(x:Bs):Bs×Bs:=match(Lib.cut x [45]).2.2 with
 |true=>((Lib.cut x [45]).1,(Lib.cut x [45]).2.1)
 |false=>((Lib.cut x [45]).1,(Lib.cut x [45]).1)
def gZ(ws:List Bs)(i:Nat):Out (Nat×Nat):=(aP ws i).bind fun x j=>aK (bR 65535 (dI x).1&&bR 65535 (dI x).2) 200 (dM (dI x).1,dM (dI x).2) j
def dL(ws:List Bs)(i:Nat):Out Nat:=(dd ws i lC).bind fun a j=>match a with
 |true=>.ok 6 j
 |false=>(dd ws j mv).bind fun b k=>match b with
  |true=>.ok 17 k
  |false=>bc 255 ws k
structure Mt where
 asks:Nat
 fE:Nat×Nat
 src:Px
 dst:Px
 bE:Nat
 sp:Nat×Nat
 dp:Nat×Nat
def lG:Mt:=⟨0,(0,0),oN,oN,0,(0,0),(0,0)⟩
instance:Inhabited Mt:=⟨lG⟩
def Mt.cells(m:Mt):List Value:=
 [.int .u8 (m.asks:Int),.int .u16 (m.fE.1:Int),.int .u16 (m.fE.2:Int)]++(m.src.cells++(m.dst.cells++[.int .u8 (m.bE:Int),.int .u16 (m.sp.1:Int),.int .u16 (m.sp.2:Int),.int .u16 (m.dp.1:Int),.int .u16 (m.dp.2:Int)]))
def AE(x:Bs):Option Nat:=
 if x=wD then some 0 else if x=lD then some 1 else if x=nJ then some 2 else if x=fD then some 3 else if x=gV then some 4 else if x=iT then some 5 else none
noncomputable def bZ(k:Nat)(m:Mt)(ws:List Bs)(i:Nat):Out Mt:=match k with
 | 0=>(gZ ws i).bind fun s j=>.ok { m with fE:=s } j
 | 1=>(cZ ws i).bind fun s j=>.ok { m with src:=s } j
 | 2=>(cZ ws i).bind fun s j=>.ok { m with dst:=s } j
 | 3=>(dL ws i).bind fun s j=>.ok { m with bE:=s } j
 | 4=>(gZ ws i).bind fun s j=>.ok { m with sp:=s } j
 |_=>(gZ ws i).bind fun s j=>.ok { m with dp:=s } j
noncomputable def aZ(ws:List Bs)(i:Nat)(m:Mt):Out (Bool×Mt):=match ws[i]? with
 |none=>.ok (false,m) i
 |some x=>match AE x with
  |none=>.ok (false,m) i
  |some k=>match m.asks.testBit k with
   |true=>.no 200 (i+1)
   |false=>(bZ k { m with asks:=m.asks|||2^k } ws (i+1)).bind fun m' j=>.ok (true,m') j
noncomputable def dY(ws:List Bs):Nat→Nat→Mt→Out Mt
 | 0,i,m=>.ok m i
 |f+1,i,m=>(aZ ws i m).bind fun r j=>match r.1 with
  |true=>dY ws f j r.2
  |false=>.ok m j
noncomputable def fk(ws:List Bs)(i:Nat):Out Mt:=(dd ws i kZ).bind fun a j=>match a with
 |true=>.ok lG j
 |false=>(aZ ws j lG).bind fun r k=>match r.1 with
  |true=>dY ws (ws.length+1 - k) k r.2
  |false=>(aP ws k).bind fun _ l=>.no 200 l
def nL(out:Bool)(ws:List Bs)(i:Nat):Out (Int×Int):=(aP ws i).bind fun x j=>
 if x=di then .ok (1,0) j else if x=lA then .ok (2,0) j else if x=fZ then .ok (4,0) j else
 if x=oy∧out=true then(gz ws j).bind fun n k=>.ok (3,(n:Int)) k else .no 200 j
def fR(s:Nat×Nat):Bool:=decide (s=(0,0))
def BI(p:Px):Bool:=decide (p.v=false∧p.n=0∧p.k=0)
def bp(m:Mt):Bool:=
 (decide (m.asks < 64)&&((m.asks.testBit 0||fR m.fE)&&((m.asks.testBit 1||BI m.src)&&((m.asks.testBit 2||BI m.dst)&&((m.asks.testBit 3||decide (m.bE=0))&&((m.asks.testBit 4||fR m.sp)&&(m.asks.testBit 5||fR m.dp)))))))&&
 ((decide (m.fE.1≤m.fE.2)&&(decide (m.fE.2≤255)&&(decide (m.sp.1≤m.sp.2)&&decide (m.dp.1≤m.dp.2))))&&
 (((!m.asks.testBit 1||gv m.src.v m.src.n m.src.k)&&((!m.asks.testBit 2||gv m.dst.v m.dst.n m.dst.k)&&(!(m.asks.testBit 1&&m.asks.testBit 2)||decide (m.src.v=m.dst.v))))&&
 (!(m.asks.testBit 4||m.asks.testBit 5)||(decide (m.bE=6)||decide (m.bE=17)))))
structure Rl where
 name:Bs
 mt:Mt
 act:Int
 out:Int
 cK:Bs
 bL:Bs
def UU:Rl:=⟨[],lG,0,0,[],[]⟩
instance:Inhabited Rl:=⟨UU⟩
def Rl.cells(r:Rl):List Value:=.string ⟨r.name.toArray⟩::(r.mt.cells++[.int .i64 r.act,.int .i64 r.out,.string ⟨r.cK.toArray⟩,.string ⟨r.bL.toArray⟩])
def nH(s:Bs)(ws:List Bs)(i:Nat):Out Bs:=(dd ws i s).bind fun b j=>match b with
 |true=>fh ws j
 |false=>.ok [] j
def JQ(m:Mt)(ws:List Bs)(i:Nat):Out Unit:=(aP ws i).bind fun x i=>(aK (decide (x=wB)) 200 () i).bind fun _ i=>aK (bp m) 190 () i
noncomputable def lU(ws:List Bs)(i:Nat):Out Rl:=(fh ws i).bind fun nm i=>(fk ws i).bind fun m i=>(JQ m ws i).bind fun _ i=>(nL true ws i).bind fun a i=>(nH bK ws i).bind fun me i=>(nH ba ws i).bind fun mi i=>.ok ⟨nm,m,a.1,a.2,me,mi⟩ i
structure Rt where
 pf:Px
 out:Int
instance:Inhabited Rt:=⟨⟨oN,0⟩⟩
def Rt.cells(r:Rt):List Value:=r.pf.cells++[.int .i64 r.out]
structure Me where
 name:Bs
 num:Nat
 den:Nat
 nR:Nat
instance:Inhabited Me:=⟨⟨[],0,0,0⟩⟩
def Me.cells(m:Me):List Value:=[.string ⟨m.name.toArray⟩,.int .u64 (m.num:Int),.int .u64 (m.den:Int),.int .u64 (m.nR:Int)]
structure Mi where
 name:Bs
 out:Int
 room:Int
instance:Inhabited Mi:=⟨⟨[],0,0⟩⟩
def Mi.cells(m:Mi):List Value:=[.string ⟨m.name.toArray⟩,.int .i64 m.out,.int .i64 m.room]
structure CF where
 ag:List Int
 ae:List Rt
 rules:List Rl
 af:List Me
 aa:List Mi
 aR:Int
def wZ:CF:=⟨[],[],[],[],[],0⟩
instance:Inhabited CF:=⟨wZ⟩
noncomputable def eV(x:Bs)(ws:List Bs)(i:Nat)(cf:CF)(d:Nat):Out CF:=
 if x=kp then(gz ws i).bind fun n i=>.ok { cf with ag:=cf.ag++[(n:Int)] } i
 else if x=di then(cZ ws i).bind fun p i=>(gz ws i).bind fun n i=>.ok { cf with ae:=cf.ae++[⟨p,(n:Int)⟩] } i
 else if x=bK then(fh ws i).bind fun nm i=>(bc 18446744073709551615 ws i).bind fun a i=>(bc 18446744073709551615 ws i).bind fun b i=>(bc 18446744073709551615 ws i).bind fun c i=>.ok { cf with af:=cf.af++[⟨nm,a,b,c⟩] } i
 else if x=ba then(fh ws i).bind fun nm i=>(gz ws i).bind fun a i=>(gz ws i).bind fun b i=>.ok { cf with aa:=cf.aa++[⟨nm,(a:Int),(b:Int)⟩] } i
 else if x=fY then(lU ws i).bind fun r i=>.ok { cf with rules:=cf.rules++[r] } i
 else if x=bj then(aK (decide (d=0)) 200 () i).bind fun _ i=>(nL false ws i).bind fun a i=>.ok { cf with aR:=a.1 } i
 else .no 200 i
def pS{α:Type}(ws:List Bs)(a:α)(i:Nat):Out α:=match decide (i < ws.length)with
 |true=>.no 200 (i+1)
 |false=>.ok a i
noncomputable def pG(ws:List Bs)(i:Nat)(cf:CF)(d:Nat):Out CF:=(aP ws i).bind fun x i=>(eV x ws i cf d).bind fun c i=>pS ws c i
noncomputable def cY(ws:List Bs)(cf:CF)(d:Nat):Out CF:=match ws with
 | []=>.ok cf 0
 |_=>pG ws 0 cf d
def dN(ws:List Bs)(d:Nat):Nat:=if ws[0]?=some bj then d+1 else d
def aG(cm:Bool):Bs→Bs→List Bs
 |cur,[]=>if cur=[] then [] else [cur]
 |cur,c::r=>if cm=true∧c=35 then(if cur=[] then [] else [cur])else
  if c=32∨c=9 then(if cur=[] then aG cm [] r else cur::aG cm [] r)else aG cm (cur++[c]) r
def aj(cm:Bool)(s:Bs):List Bs:=aG cm [] s
inductive Pk where
 |ok (cf:CF)
 |no (code line:Nat)
noncomputable def bJ:List Bs→Nat→CF→Nat→Pk
 | [],_,cf,d=>.ok (if d=0 then { cf with aR:=2 }else cf)
 |l::ls,k,cf,d=>match cY (aj true l) cf d with
  |.ok c _=>bJ ls (k+1) c (dN (aj true l) d)
  |.no code _=>.no code k
set_option maxRecDepth 100000
open Go.RowKit Go.Lib Go.Sort _root_.Go.Proofs.Tryz
def BM(code at_:Int)(w:World)(chain:List PanicEntry)(w':World):Prop:=
 ∃N,chain=[{ v:=.iface 103 ((pt N 0)),recovered:=false }]∧w.heap.size≤N∧aq w' N 105 [.int .i64 code,.int .i64 at_]
set_option maxHeartbeats 4000000 in
theorem qD(lp:Value)(code at_:Int)(w:World):Calls prog 94 #[lp,.int .i64 code,.int .i64 at_] w fun e w'=>∃chain,e=.panicked chain∧BM code at_ w chain w'∧ah [] w w':=by
 go_enter func94,ntmps94
 go_wp2
 refine⟨rfl,_,rfl,⟨w.heap.size,rfl,VR _,?_⟩,(ah.refl [] w).alloc _⟩;exact aq.new w 105 #[.int .i64 code,.int .i64 at_]
open Go.RowKit Go.Lib Go.Sort _root_.Go.Proofs.Tryz
theorem FA(s:ByteArray)(lo hi:Nat)(h:lo≤hi)(h2:hi≤s.size)(W:World):(VV 9 (.string s) (some (.int .i64 lo)) (some (.int .i64 hi)) none).run prog W=.ok (.string (s.extract lo hi)) W:=by simp[VV,run_underlying underlying9,Instr.slice,Instr.sliceBounds,Instr.sliceBound,asIntOf,h,h2]
theorem rP(x y:Operand)(a b:List UInt8)(h:a.length+b.length≤9000000000000000000)(W:World):(do eqGuard .add 9 x y (.string ⟨a.toArray⟩) (.string ⟨b.toArray⟩);binOp .add 9 (.string ⟨a.toArray⟩) (.string ⟨b.toArray⟩):Sem Value).run prog W=.ok (.string ⟨(a++b).toArray⟩) W:=by
 have e:¬(((⟨a.toArray⟩:ByteArray).size+(⟨b.toArray⟩:ByteArray).size:Nat):Int) > VG.max:=by
  have:VG.max=9223372036854775807:=by decide
  rw[this];simp[ByteArray.size];omega
 show(Op.stringOp .add (⟨a.toArray⟩) (⟨b.toArray⟩)).run prog W=_;unfold Op.stringOp;simp only[if_neg e];show Result.ok (VX (⟨a.toArray⟩++⟨b.toArray⟩)) W=_;congr 2
theorem iw{a b:Int}(h:a=b):VL .i64 a=.int .i64 b:=by rw[h]
theorem Fs{a:Int}(h0 : -9223372036854775808≤a)(h1:a≤9223372036854775807):VG.wrap a=a:=IntWalk.i64_in _ ⟨h0,h1⟩
theorem bz{a b:Bool}(h:a=b):VF a=.bool b:=by rw[h]
section
variable{v:Bool}{n:Nat}{w:World}{Kr:Sx.St→Prop}
end
section
variable{n a k:Nat}{w:World}{Kr:Sx.St→Prop}
end
open Go.RowKit Go.Lib Go.Sort _root_.Go.Proofs.Tryz
def u8(c:UInt8):Value:=.int .u8 (c.toNat:Int)
theorem ss(s:List UInt8)(i:Nat)(c:UInt8)(h:s[i]?=some c)(W:World):(Instr.index 9 (.string ⟨s.toArray⟩) (.int .i64 (i:Int))).run prog W=.ok (u8 c) W:=by obtain⟨hlt,hc⟩:=VE.1 h;rw[run_index_string W 9 ⟨s.toArray⟩ .i64 (i:Int) underlying9,dif_pos ⟨by omega,by simpa[ByteArray.size]using hlt⟩];subst hc;simp[u8,ByteArray.getElem_eq_getElem_data]
theorem lz(s:List UInt8):VL .i64 (((⟨s.toArray⟩:ByteArray).size:Nat):Int)=.int .i64 (s.length:Int):=iw (by simp[ByteArray.size])
theorem Bk{b:Bool}(h:b=true):VF b=.bool true:=by rw[h]
theorem xl{b:Bool}(h:b=false):VF b=.bool false:=by rw[h]
set_option maxRecDepth 100000
open Go.RowKit Go.Lib Go.Sort _root_.Go.Proofs.Tryz
set_option maxRecDepth 100000
theorem BM.up{code at_:Int}{w W w':World}{chain:List PanicEntry}(h:BM code at_ W chain w')(hs:w.heap.size≤W.heap.size):BM code at_ w chain w':=by obtain⟨N,h1,h2,h3⟩:=h;exact⟨N,h1,Nat.le_trans hs h2,h3⟩
theorem jZ{P:Program}{f:FuncId}{args:Array Value}{b:Sx.aY}{W:World}{vs:List Value}{ps:List (Nat×Nat)}(h:Calls P f args W fun e w'=>∃chain,e=.panicked chain∧b.PP chain w'∧ah [] W w'):Calls P f args W (Sx.sg b W vs (.El ps)):=
 h.mono fun _ _ ⟨ch,he,hp,hc⟩=>⟨ch,[],he,hp,hc,fun _ hx=>by cases hx⟩
theorem MA(g:Nat)(ws:Value)(at_ code:Int)(w:World)(hb:aq w g 154 [ws,.int .i64 at_]):Calls prog 191 #[.pointer (some ⟨g,0,none⟩),.bool false,.int .i64 code] w (Sx.gb ⟨w,[g],BM code at_ w⟩ fun _ _=>False):=by have c14:=fun W (hW:ah [g] w W) (_:aq W g 154 [ws,.int .i64 at_])=>jZ (b:=⟨w,[g],BM code at_ w⟩) (vs:=[.pointer (some ⟨g,0,none⟩),.int .i64 code,.int .i64 at_]) (ps:=[(0,0)]) ((qD (.pointer (some ⟨g,0,none⟩)) code at_ W).mono fun _ _ ⟨ch,he,hf,hc⟩=>⟨ch,he,hf.up hW.size,hc⟩);have z0:=trivial;refine Sx.gC (args:=[.ptr 0 0,.val (.bool false),.val (.int .i64 code)]) [(g,154,[ws,.int .i64 at_])] (by simpa using hb) (by simp) (BM code at_ w) [(14,.pW)] [] (by kernel_rfl) func191 rfl (dR rfl) rfl ?_;exact VQ (by kernel_rfl) (VI c14 z0)
theorem Iq(lp:Value)(code:Int)(w:World):Calls prog 191 #[lp,.bool true,.int .i64 code] w (Rn w (.tuple #[])):=by have z0:Value.tuple #[]=.tuple #[]:=rfl;refine Sx.bX (args:=[lp,.bool true,.int .i64 code]) [] [] (by kernel_rfl) func191 rfl (dR rfl) ?_;exact VQ (by kernel_rfl) z0
def dh(A:Option Go.Addr)(n c:Nat)(at_:Nat):List Value:=[.slice A n c,.int .i64 (at_:Int)]
theorem NG(g:Nat)(A:Option Go.Addr)(n c:Nat)(hn:n≤1100000)(w:World)(hb:aq w g 154 (dh A n c n)):Calls prog 154 #[.pointer (some ⟨g,0,none⟩)] w (Sx.gb ⟨w,[g],BM 200 ((n:Int)+1) w⟩ fun _ _=>False):=by have c12:VF ((n:Int)==(n:Int))=.bool true:=Bk (by simp);have c18:VL .i64 (VG.wrap ((n:Int)+1))=.int .i64 ((n:Int)+1):=iw (Fs (by omega) (by omega));have c19:=fun W (hW:ah [g] w W) (_:aq W g 154 (dh A n c n))=>jZ (b:=⟨w,[g],BM 200 ((n:Int)+1) w⟩) (vs:=[.pointer (some ⟨g,0,none⟩),.int .i64 200,.int .i64 ((n:Int)+1)]) (ps:=[(0,0)]) ((qD (.pointer (some ⟨g,0,none⟩)) 200 ((n:Int)+1) W).mono fun _ _ ⟨ch,he,hf,hc⟩=>⟨ch,he,hf.up hW.size,hc⟩);have z0:=trivial;refine Sx.gC (args:=[.ptr 0 0]) [(g,154,dh A n c n)] (by simpa using hb) (by simp) (BM 200 ((n:Int)+1) w) [bq 12 true,(18,.is (.int .i64 ((n:Int)+1))),(19,.pW)] [] (by kernel_rfl) func154 rfl (dR rfl) rfl ?_;exact VQ (by kernel_rfl) (Sx.t2 c12 c18 (VI c19 z0))
open Go Go.RowKit Go.Lib Go.Sort
theorem MW{P:Program}{t:TypeId}{b off:Nat}{d:TypeDesc}{v:Value}(hu:P.underlying t=some d)(hd:d.isRow=false){W:World}(hc:W.cell? ⟨b,off,none⟩=some v) :
  (VZ t (.pointer (some ⟨b,off,none⟩))).run P W=.ok v W:=by
 have hagg:(isAgg t).run P W=.ok false W:=by unfold isAgg;rw[VJ,run_underlying hu W];cases d<;>simp_all
 rw[Sx.oX];simp[loadVar,VJ,hagg,load,Sem.run,hc]
set_option maxRecDepth 100000
open Go.RowKit Go.Lib Go.Sort _root_.Go.Proofs.Tryz
structure yP(w:World)(S:List Nat)(A:Option Go.Addr)(n:Nat)(ws:List (List UInt8)):Prop where
 len:ws.length=n
 row:0 < n→∃b o,A=some ⟨b,o,none⟩∧b∉S∧b < w.heap.size∧∀(j:Nat) (x:List UInt8),ws[j]?=some x→w.cell? ⟨b,o+j,none⟩=some (.string ⟨x.toArray⟩)
theorem yP.aD{w w':World}{S:List Nat}{A:Option Go.Addr}{n:Nat}{ws:List (List UInt8)}(h:yP w S A n ws)(hc:ah S w w'):yP w' S A n ws:=
 ⟨h.len,fun h0=>by obtain⟨b,o,h1,h2,h3,h4⟩:=h.row h0;exact⟨b,o,h1,h2,VS h3 hc.size,fun j x hx=>(hc.cell (p:=⟨b,o+j,none⟩) h3 h2).trans (h4 j x hx)⟩⟩
theorem yP.sub{w:World}{S S':List Nat}{A:Option Go.Addr}{n:Nat}{ws:List (List UInt8)}(h:yP w S A n ws)(hs:∀x∈S',x∈S):yP w S' A n ws:=
 ⟨h.len,fun h0=>by obtain⟨b,o,h1,h2,h3,h4⟩:=h.row h0;exact⟨b,o,h1,fun hb=>h2 (hs b hb),h3,h4⟩⟩
theorem yP.cons{w w':World}{S:List Nat}{A:Option Go.Addr}{n x:Nat}{ws:List (List UInt8)}(h:yP w S A n ws)(hc:ah S w w')(hx:w.heap.size≤x):yP w' (x::S) A n ws:=
 ⟨h.len,fun h0=>by
  obtain⟨b,o,h1,h2,h3,h4⟩:=h.row h0;refine⟨b,o,h1,fun hb=>?_,VS h3 hc.size,fun j y hy=>(hc.cell (p:=⟨b,o+j,none⟩) h3 h2).trans (h4 j y hy)⟩;rcases List.mem_cons.1 hb with rfl|hb
  ·omega
  ·exact h2 hb⟩
theorem yP.at{w:World}{S:List Nat}{A:Option Go.Addr}{n c:Nat}{ws:List (List UInt8)}(h:yP w S A n ws){i:Nat}{x:List UInt8}(hx:ws[i]?=some x) :
  ∃p,(∀W,(VW 70 (.slice A n c) (.int .i64 (i:Int))).run prog W=.ok p W)∧∀W,ah S w W→(VZ 9 p).run prog W=.ok (.string ⟨x.toArray⟩) W:=by
 have hi:i < n:=by rw[←h.len];exact(VE.1 hx).1
 obtain⟨b,o,rfl,hb,_,hr⟩:=h.row (by omega);refine⟨.pointer (some ⟨b,o+i,none⟩),fun W=>?_,fun W hW=>?_⟩
 ·have hs:(prog.info? 9).map (·.size)=some 1:=by kernel_rfl
  cases hq:prog.info? 9 with
  |none=>rw[hq]at hs;cases hs
  |some inf=>
   rw[hq]at hs;have hs:inf.size=1:=by simpa using hs
   simp[VW,run_underlying underlying70,asIntOf,hi,sizeOf,typeInfo,hq,hs,Addr.add_lit]
 ·obtain⟨_,_,h1,_,_,h4⟩:=(h.aD hW).row (by omega)
  injection h1 with h1;injection h1 with h1 h2 h3;subst h1 h2;exact MW underlying9 rfl (h4 i x hx)
set_option maxRecDepth 100000
open Go.RowKit Go.Lib Go.Sort _root_.Go.Proofs.Tryz
def TI(g:Nat)(v:Value)(cs:List Value)(r:Sx.jy)(gl:List (Nat×TypeId×List Value)):Prop:=r=.val v∧gl=[(g,154,cs)]
theorem JK(g:Nat)(A:Option Go.Addr)(n c i:Nat)(ws:List (List UInt8))(x:List UInt8)(hn:n≤1100000)(w:World)(hb:aq w g 154 (dh A n c i))(hw:yP w [g] A n ws)(hx:ws[i]?=some x)(PP:List PanicEntry→World→Prop):Calls prog 154 #[.pointer (some ⟨g,0,none⟩)] w (Sx.gb ⟨w,[g],PP⟩ (TI g (.string ⟨x.toArray⟩) (dh A n c (i+1)))):=by
 have hi:i < n:=by rw[←hw.len];exact(VE.1 hx).1
 obtain⟨p,hp1,hp2⟩:=hw.at (c:=c) hx;have c12:VF ((i:Int)==(n:Int))=.bool false:=xl (by rw[beq_eq_false_iff_ne];omega);have c24:=uh (i:=i) (by omega);have Ho:VL .i64 (VG.wrap (((i+1:Nat):Int) - 1))=.int .i64 (i:Int):=iw (by rw[Fs (by omega) (by omega)]; omega);have Mn:=fun W (_:ah [g] w W)=>hp1 W;have c37:=hp2;have h0:Sx.jy.val (VX ⟨x.toArray⟩)=.val (.string ⟨x.toArray⟩):=rfl;have z1:[(g,154,dh A n c (i+1))]=[(g,154,dh A n c (i+1))]:=rfl;refine Sx.gC (args:=[.ptr 0 0]) [(g,154,dh A n c i)] (by simpa using hb) (by simp) PP [bq 12 false,oP 24 (i+1),(35,.is (.int .i64 (i:Int))),(36,.any p),(37,.any (.string ⟨x.toArray⟩))] [] (by kernel_rfl) func154 rfl (dR rfl) rfl ?_;exact VQ (by kernel_rfl) (Sx.t4 c12 c24 Ho Mn (Sx.t2 c37 h0 z1))
open Go.RowKit Go.Lib Go.Sort _root_.Go.Proofs.Tryz
theorem TB(x y:Operand)(v v':Bool)(n m:Nat)(k j:Int)(hn:n < 2^128)(hm:m < 2^128)(hk : -9223372036854775808≤k∧k≤9223372036854775807)(hj : -9223372036854775808≤j∧j≤9223372036854775807)(W:World):(do eqGuard .neq 29 x y (.agg (ep v n k).toArray) (.agg (ep v' m j).toArray); binOp .neq 29 (.agg (ep v n k).toArray) (.agg (ep v' m j).toArray):Sem Value).run prog W=.ok (.bool (!decide (v=v'∧n=m∧k=j))) W:=by have h:=UH v v' n m k j hn hm hk hj W;rw[VJ,Oj,Result.andThen_ok];show(do pure (.bool (!(←Op.equal 29 (.agg (ep v n k).toArray) (.agg (ep v' m j).toArray)))):Sem Value).run prog W=_;rw[VJ,show(Op.equal 29 (.agg (ep v n k).toArray) (.agg (ep v' m j).toArray)).run prog W=_ from h];rfl
theorem Ry(x y:Operand)(s t:ByteArray)(W:World):(do eqGuard .neq 9 x y (.string s) (.string t);binOp .neq 9 (.string s) (.string t):Sem Value).run prog W=.ok (.bool (!(s.toList==t.toList))) W:=rfl
theorem SS{P:Program}{s:Sem Value}{W:World}{a b:Bool}(h:s.run P W=.ok (.bool a) W)(e:a=b):s.run P W=.ok (.bool b) W:=by rw[←e];exact h
theorem sW{s:List UInt8}{v:Bool}{n:Nat}{k:Int}(h:BL s v n k)(hs:s.length≤100000000)(w:World)(HL:dD w):Calls prog 16 #[.string ⟨s.toArray⟩] w (Rn w (.tuple #[.agg (ep v n k).toArray,.int .i64 0])):=by
 refine(Jf s hs w HL).mono ?_;rintro e w' ⟨v',n',k',er,rfl,hC,hh⟩;rcases hh with⟨rfl,_,hu⟩ | ⟨_,_,_,_,hu⟩
 ·obtain⟨rfl,rfl,rfl⟩:=hu _ _ _ h
  exact⟨rfl,hC⟩
 ·exact absurd h (hu _ _ _)
theorem Nf{s:List UInt8}(h:∀v n k,¬BL s v n k)(hs:s.length≤100000000)(w:World)(HL:dD w):Calls prog 16 #[.string ⟨s.toArray⟩] w (Rn w (.tuple #[.agg (ep false 0 0).toArray,.int .i64 151])):=by
 refine(Jf s hs w HL).mono ?_;rintro e w' ⟨v',n',k',er,rfl,hC,hh⟩;rcases hh with⟨rfl,hp,_⟩ | ⟨rfl,rfl,rfl,rfl,_⟩
 ·exact absurd hp (h _ _ _)
 ·exact⟨rfl,hC⟩
theorem Fu{v:Bool}{n:Nat}{k:Int}(h1:k≤wid v):(oT v n k).length≤100000000:=by have h2:=nU v;have h3:=vG v n;have h4:=gA (u:=k.toNat) (by omega);unfold oT;simp only[List.length_append,List.length_cons];omega
set_option maxRecDepth 100000
open Go.RowKit Go.Lib Go.Sort _root_.Go.Proofs.Tryz
set_option maxRecDepth 100000
theorem xt(x y:Operand)(s t:List UInt8)(W:World):(do eqGuard .neq 9 x y (.string ⟨s.toArray⟩) (.string ⟨t.toArray⟩);binOp .neq 9 (.string ⟨s.toArray⟩) (.string ⟨t.toArray⟩):Sem Value).run prog W=.ok (.bool (decide (s≠t))) W:=by
 refine SS (Ry x y _ _ W) ?_;have e:∀l:List UInt8,(⟨l.toArray⟩:ByteArray).toList=l:=fun l=>by simp
 rw[e,e];by_cases h:s=t<;>simp[h]
theorem IA(g:Nat)(A:Option Go.Addr)(n c:Nat)(s:List UInt8)(w:World)(hb:aq w g 154 (dh A n c n))(PP:List PanicEntry→World→Prop):Calls prog 152 #[.pointer (some ⟨g,0,none⟩),.string ⟨s.toArray⟩] w (Sx.gb ⟨w,[g],PP⟩ (TI g (.bool false) (dh A n c n))):=by have c14:VF ((n:Int)==(n:Int))=.bool true:=Bk (by simp);have h0:Sx.jy.val (VF false)=.val (.bool false):=rfl;have z1:[(g,154,dh A n c n)]=[(g,154,dh A n c n)]:=rfl;refine Sx.gC (args:=[.ptr 0 0,.val (.string ⟨s.toArray⟩)]) [(g,154,dh A n c n)] (by simpa using hb) (by simp) PP [bq 14 true] [] (by kernel_rfl) func152 rfl (dR rfl) rfl ?_;exact VQ (by kernel_rfl) (Sx.t2 c14 h0 z1)
theorem MF(g:Nat)(A:Option Go.Addr)(n c i:Nat)(ws:List (List UInt8))(x s:List UInt8)(hn:n≤1100000)(w:World)(hb:aq w g 154 (dh A n c i))(hw:yP w [g] A n ws)(hx:ws[i]?=some x)(hs:x≠s)(PP:List PanicEntry→World→Prop):Calls prog 152 #[.pointer (some ⟨g,0,none⟩),.string ⟨s.toArray⟩] w (Sx.gb ⟨w,[g],PP⟩ (TI g (.bool false) (dh A n c (i)))):=by
 have hi:i < n:=by rw[←hw.len];exact(VE.1 hx).1
 obtain⟨p,hp1,hp2⟩:=hw.at (c:=c) hx;have c14:VF ((i:Int)==(n:Int))=.bool false:=xl (by rw[beq_eq_false_iff_ne];omega);have c24:=fun W (_:ah [g] w W)=>hp1 W;have c25:=hp2;have c27:=fun W=>(xt (.tmp 25) (.tmp 26) x s W).trans (by rw[decide_eq_true hs]);have c33:=uh (i:=i) (by omega);have h0:Sx.jy.val (VF false)=.val (.bool false):=rfl;have z1:[(g,154,dh A n c (i))]=[(g,154,dh A n c (i))]:=rfl;refine Sx.gC (args:=[.ptr 0 0,.val (.string ⟨s.toArray⟩)]) [(g,154,dh A n c i)] (by simpa using hb) (by simp) PP [bq 14 false,(24,.any p),(25,.any (.string ⟨x.toArray⟩)),(27,.bin (.bool true)),oP 33 (i+1)] [] (by kernel_rfl) func152 rfl (dR rfl) rfl ?_;exact VQ (by kernel_rfl) (Sx.t4 c14 c24 c25 c27 (VI h0 z1))
theorem Iz(g:Nat)(A:Option Go.Addr)(n c i:Nat)(ws:List (List UInt8))(x s:List UInt8)(hn:n≤1100000)(w:World)(hb:aq w g 154 (dh A n c i))(hw:yP w [g] A n ws)(hx:ws[i]?=some x)(hs:x=s)(PP:List PanicEntry→World→Prop):Calls prog 152 #[.pointer (some ⟨g,0,none⟩),.string ⟨s.toArray⟩] w (Sx.gb ⟨w,[g],PP⟩ (TI g (.bool true) (dh A n c (i+1)))):=by
 have hi:i < n:=by rw[←hw.len];exact(VE.1 hx).1
 obtain⟨p,hp1,hp2⟩:=hw.at (c:=c) hx;have c14:VF ((i:Int)==(n:Int))=.bool false:=xl (by rw[beq_eq_false_iff_ne];omega);have c24:=fun W (_:ah [g] w W)=>hp1 W;have c25:=hp2;have c27:=fun W=>(xt (.tmp 25) (.tmp 26) x s W).trans (by rw[decide_eq_false (fun h=>h hs)]);have c33:=uh (i:=i) (by omega);have h0:Sx.jy.val (VF true)=.val (.bool true):=rfl;have z1:[(g,154,dh A n c (i+1))]=[(g,154,dh A n c (i+1))]:=rfl;refine Sx.gC (args:=[.ptr 0 0,.val (.string ⟨s.toArray⟩)]) [(g,154,dh A n c i)] (by simpa using hb) (by simp) PP [bq 14 false,(24,.any p),(25,.any (.string ⟨x.toArray⟩)),(27,.bin (.bool false)),oP 33 (i+1)] [] (by kernel_rfl) func152 rfl (dR rfl) rfl ?_;exact VQ (by kernel_rfl) (Sx.t4 c14 c24 c25 c27 (Sx.t2 c33 h0 z1))
open Go.RowKit Go.Lib Go.Sort _root_.Go.Proofs.Tryz
def bC{α:Type}(g:Nat)(A:Option Go.Addr)(n c:Nat)(V:α→Value)(r:Out α)(w:World)(e:Ending)(w':World):Prop:=
 (∃a i,r=.ok a i∧i≤n∧e=.returned (V a)∧aq w' g 154 (dh A n c i)∧ah [g] w w')∨
 (∃code p chain,r=.no code p∧e=.panicked chain∧BM code p w chain w'∧ah [g] w w')
def mS{α:Type}(r:Out α)(w:World)(chain:List PanicEntry)(w':World):Prop:=∃code p:Nat,r=.no code p∧BM code p w chain w'
def BK{α:Type}(g:Nat)(A:Option Go.Addr)(n c:Nat)(V:α→Value)(r:Out α)(u:Sx.jy)(gl:List (Nat×TypeId×List Value)):Prop:=∃a i,r=.ok a i∧i≤n∧u=.val (V a)∧gl=[(g,154,dh A n c i)]
theorem bC.tE{α:Type}{g:Nat}{A:Option Go.Addr}{n c:Nat}{V:α→Value}{r:Out α}{w:World}{e:Ending}{w':World}(h:Sx.gb ⟨w,[g],mS r w⟩ (BK g A n c V r) e w'):bC g A n c V r w e w':=by
 rcases h with⟨u,gl,⟨a,i,h1,hi,h2,h3⟩,hp,hb⟩ | ⟨chain,he,⟨code,p,h1,hf⟩,hc⟩
 ·subst h2 h3
  exact .inl ⟨a,i,h1,hi,hp.1,hb (g,154,dh A n c i) (by simp),hp.2⟩
 ·exact .inr ⟨code,p,chain,h1,he,hf,hc⟩
theorem fg{α:Type}{P:Program}{w:World}{f:FuncId}{fn:Func}{co:Code}{g:Nat}{A:Option Go.Addr}{n c i:Nat}{V:α→Value}{r:Out α}(rest:List Value)(hb:aq w g 154 (dh A n c i))(H:List (Nat×Sx.Hint))(L:List Sx.Loop)
  (hm:P.follows .mixedOrders=true) (hf:P.funcs[f]?=some fn) (hbd:fn.body=some co) (hn:(rest.length+1)≤fn.ntmps)
  (hx:Sx.lj P fn.ntmps ⟨w,[g],mS r w⟩ co H L ⟨Sx.lB 0 (.ptr 0 0::rest.map .val),Sx.pb [(g,154,dh A n c i)]⟩ (Sx.uR P fn (BK g A n c V r))) :
  Calls P f (.pointer (some ⟨g,0,none⟩)::rest).toArray w (bC g A n c V r w):=by
 have h:=Sx.gC (args:=.ptr 0 0::rest.map .val) [(g,154,dh A n c i)] (by simpa using hb) (by simp) (mS r w) H L hm hf hbd (by simpa using hn) (by
  have:∀l:List Value,Sx.eJ (Sx.TD 1) (l.map .val)=true:=fun l=>by
   induction l with
   |nil=>rfl
   |cons x l ih=>exact ih
  exact this rest) hx
 have e:(Sx.SV.ptr 0 0::rest.map .val).map (Sx.SV.den (Sx.yr [(g,154,dh A n c i)]))=.pointer (some ⟨g,0,none⟩)::rest:=by rw[VY,Wa];have:(Sx.SV.den (Sx.yr [(g,154,dh A n c i)]) ∘ Sx.SV.val)=id:=rfl;rw[this,Wb];rfl
 rw[e]at h;exact h.mono fun _ _=>bC.tE
theorem xW{α:Type} [Inhabited α]{P:Program}{b:Sx.aY}{β:Sx.Env}{W:World}{row:Nat→Option Sx.Row}{m k f g n c i:Nat}{A:Option Go.Addr}{V:α→Value}{r:Out α}{gh:List Nat}(rest:List Value)
  (hS:Sx.dS b β W row gh) (hk:k∈gh) (hrow:row k=some ⟨154,.dj g (dh A n c i)⟩)
  (h:aq W g 154 (dh A n c i)→Calls P f (.pointer (some ⟨g,0,none⟩)::rest).toArray W (bC g A n c V r W))
  (hP:∀(code p:Nat) chain w',r=.no code p→BM code p W chain w'→b.PP chain w') :
  Calls P f ((Sx.SV.ptr k 0::rest.map .val).map (Sx.SV.den β)).toArray W (Sx.br b β W row m ⟨gh,[(k,⟨154,.dj g (dh A n c r.pos)⟩)],[],[],.val (V r.val),some (r.okB=true∧r.pos≤n)⟩):=by
 have hh:=hS.held k hk _ hrow;have hg:β k=g:=hh.1;have hB:aq W g 154 (dh A n c i):=hg ▸ hh.2;have e:(Sx.SV.ptr k 0::rest.map .val).map (Sx.SV.den β)=.pointer (some ⟨g,0,none⟩)::rest:=by rw[VY,Wa];have:(Sx.SV.den β ∘ Sx.SV.val)=id:=rfl;rw[this,Wb];show Value.pointer (some ⟨β k,0,none⟩)::rest=_;rw[hg]
 have ht:([k]:List Nat).filterMap (Sx.cg β row)=[g]:=by
  have:Sx.cg β row k=some g:=by unfold Sx.cg;rw[hrow];exact congrArg some hg
  simp[this]
 rw[e];refine(h hB).mono fun e w' hp=>?_;rcases hp with⟨a,j,rfl,hj,he,hb,hc⟩ | ⟨code,p,chain,rfl,he,hf,hc⟩
 ·refine .inl ⟨fun p hp=>by cases hp;exact⟨rfl,hj⟩,β,Sx.dx (v:=V a) rfl rfl he (fun q hq=>?_) ?_⟩
  ·have:q=(k,⟨154,.dj g (dh A n c j)⟩):=List.mem_singleton.1 hq
   subst this;exact⟨hg,by show aq w' (β k) 154 _;rw[hg];exact hb⟩
  ·show ah (([k]++[]).filterMap (Sx.cg β row)) W w'
   rw[VT,ht];exact hc
 ·refine .inr ⟨rfl,chain,he,hP code p chain w' rfl hf,?_⟩
  show ah (([k]++[]).filterMap (Sx.cg β row)) W w';rw[VT,ht];exact hc
structure dU(w:World)(g:Nat)(A:Option Go.Addr)(n c i:Nat)(ws:List Bs):Prop where
 bY:aq w g 154 (dh A n c i)
 rM:yP w [g] A n ws
 le:i≤n
 bd:n≤1100000
 vk:dD w
 g9:9≤g
 sz:∀x∈ws,x.length≤100000000
def ab(x:Bs):Value:=.string ⟨x.toArray⟩
theorem mn{w:World}{g:Nat}{A:Option Go.Addr}{n c i:Nat}{ws:List Bs}(h:dU w g A n c i ws):Calls prog 154 #[(pt g 0)] w (bC g A n c ab (aP ws i) w):=by
 have hlen:=h.rM.len;cases hx:ws[i]? with
 |some x=>
  have hr:aP ws i=.ok x (i+1):=by unfold aP;rw[hx]
  have hi:i < n:=by rw[←hlen];exact(VE.1 hx).1
  refine(JK g A n c i ws x h.bd w h.bY h.rM hx (mS (aP ws i) w)).mono fun e w' hp=>bC.tE ?_;rcases hp with⟨u,gl,⟨h1,h2⟩,hp⟩ | hp
  ·exact .inl ⟨u,gl,⟨x,i+1,hr,hi,h1,h2⟩,hp⟩
  ·exact .inr hp
 |none=>
  have hi:i=n:=by have:=VM.1 hx;have:=h.le;omega
  have hr:aP ws i=.no 200 (i+1):=by unfold aP;rw[hx]
  subst hi;refine(NG g A i c h.bd w h.bY).mono fun e w' hp=>bC.tE ?_;rcases hp with⟨_,_,hf,_⟩ | ⟨chain,he,hf,hc⟩
  ·exact hf.elim
  ·exact .inr ⟨chain,he,⟨200,i+1,hr,hf⟩,hc⟩
theorem jE{w:World}{g:Nat}{A:Option Go.Addr}{n c i:Nat}{ws:List Bs}(s:Bs)(h:dU w g A n c i ws):Calls prog 152 #[.pointer (some ⟨g,0,none⟩),ab s] w (bC g A n c (fun b=>.bool b) (dd ws i s) w):=by
 have hlen:=h.rM.len;have up:∀{b:Bool} {j:Nat},dd ws i s=.ok b j→j≤n→∀{e w'},Sx.gb ⟨w,[g],mS (dd ws i s) w⟩ (TI g (.bool b) (dh A n c j)) e w'→bC g A n c (fun b=>.bool b) (dd ws i s) w e w':=by
  intro b j hr hj e w' hp;refine bC.tE ?_;rcases hp with⟨u,gl,⟨h1,h2⟩,hp⟩ | hp
  ·exact .inl ⟨u,gl,⟨b,j,hr,hj,h1,h2⟩,hp⟩
  ·exact .inr hp
 cases hx:ws[i]? with
 |some x=>
  have hi:i < n:=by rw[←hlen];exact(VE.1 hx).1
  by_cases hs:x=s
  ·exact(Iz g A n c i ws x s h.bd w h.bY h.rM hx hs _).mono fun e w'=>up (by unfold dd;rw[hx,hs,if_pos rfl]) hi
  ·exact(MF g A n c i ws x s h.bd w h.bY h.rM hx hs _).mono fun e w'=>up (by unfold dd;rw[hx,if_neg (by simpa using hs)]) h.le
 |none=>
  have hi:i=n:=by have:=VM.1 hx;have:=h.le;omega
  subst hi;exact(IA g A i c s w h.bY _).mono fun e w'=>up (by unfold dd;rw[hx,if_neg (by simp)]) (VR _)
theorem lJ{α:Type}{w:World}{g:Nat}{A:Option Go.Addr}{n c i:Nat}{ws:List Bs}(b:Bool)(code:Nat)(a:α)(h:dU w g A n c i ws):Calls prog 191 #[.pointer (some ⟨g,0,none⟩),.bool b,.int .i64 (code:Int)] w (bC g A n c (fun _=>.tuple #[]) (aK b code a i) w):=by
 cases b with
 |true=>exact(Iq _ _ w).mono fun e w' ⟨he,hc⟩=>.inl ⟨a,i,rfl,h.le,he,h.bY.aD hc (by simp),hc.mono (by simp)⟩
 |false=>
  refine(MA g (.slice A n c) i code w h.bY).mono fun e w' hp=>bC.tE ?_;rcases hp with⟨_,_,hf,_⟩ | ⟨chain,he,hf,hc⟩
  ·exact hf.elim
  ·exact .inr ⟨chain,he,⟨code,i,rfl,hf⟩,hc⟩
theorem dU.at{w W:World}{g:Nat}{A:Option Go.Addr}{n c i j:Nat}{ws:List Bs}(h:dU w g A n c i ws)(hc:ah [g] w W)(hj:j≤n)(hb:aq W g 154 (dh A n c j)):dU W g A n c j ws:=⟨hb,h.rM.aD hc,hj,h.bd,h.vk.aD hc (by simpa using h.g9),h.g9,h.sz⟩
theorem dU.Al{w W:World}{g:Nat}{A:Option Go.Addr}{n c i:Nat}{ws:List Bs}(h:dU w g A n c i ws)(hc:ah [g] w W):dD W:=h.vk.aD hc (by simpa using h.g9)
theorem dU.len{w:World}{g:Nat}{A:Option Go.Addr}{n c i:Nat}{ws:List Bs}(h:dU w g A n c i ws):ws.length=n:=h.rM.len
theorem tN{ws:List Bs}{i:Nat}(h:∀x∈ws,x.length≤100000000):((aP ws i).val).length≤100000000:=by
 unfold aP;cases hx:ws[i]? with
 |some x=>exact h x (List.mem_of_getElem? hx)
 |none=>exact Nat.zero_le _
theorem cq{α β:Type}{T:Out β}{r:Out α}{f:α→Nat→Out β}(e:T=r.bind f):∀code p,r=.no code p→T=.no code p:=fun code p h=>by rw[e,h];rfl
theorem cd{α β:Type} [Inhabited α]{T:Out β}{r:Out α}{f:α→Nat→Out β}(e:T=r.bind f)(h:r.okB=true):T=f r.val r.pos:=by
 rw[e];cases r with
 |ok a i=>rfl
 |no c p=>cases h
theorem wh{α:Type}{T r:Out α}(e:T=r):∀code p,r=.no code p→T=.no code p:=fun code p h=>by rw[e,h]
def fK{α:Type} [Inhabited α](k g:Nat)(A:Option Go.Addr)(n c:Nat)(r:Out α)(V:α→Value):Sx.cn:=⟨[k],[(k,⟨154,.dj g (dh A n c r.pos)⟩)],[],[],.val (V r.val),some (r.okB=true∧r.pos≤n)⟩
theorem ko{α γ:Type} [Inhabited α]{P:Program}{w:World}{f g n c i j:Nat}{A:Option Go.Addr}{V:α→Value}{r:Out α}{T:Out γ}{ws:List Bs}(rest:List Value)(h0:dU w g A n c i ws)(hj:j≤n)(hT:∀code p,r=.no code p→T=.no code p)
  (h:∀W,dU W g A n c j ws→Calls P f (.pointer (some ⟨g,0,none⟩)::rest).toArray W (bC g A n c V r W)) (W:World) (β:Sx.Env) (hS:Sx.dS ⟨w,[g],mS T w⟩ β W (Sx.rowAt (Sx.pb [(g,154,dh A n c j)])) [0]) :
  Calls P f ((Sx.SV.ptr 0 0::rest.map .val).map (Sx.SV.den β)).toArray W (Sx.br ⟨w,[g],mS T w⟩ β W (Sx.rowAt (Sx.pb [(g,154,dh A n c j)])) 1 (fK 0 g A n c r V)):=
 xW rest hS (by simp) rfl (fun hB=>h W (h0.at hS.aD hj hB)) fun code p chain w' hr hf=>⟨code,p,hT code p hr,hf.up hS.aD.size⟩
theorem kX{α γ:Type} [Inhabited α]{P:Program}{w:World}{f g n c i j:Nat}{A:Option Go.Addr}{V:α→Value}{r:Out α}{T:Out γ}{ws:List Bs}(ms:List Sx.Row)(rest:List Value)(h0:dU w g A n c i ws)(hj:j≤n)(hT:∀code p,r=.no code p→T=.no code p)
  (h:∀W,dU W g A n c j ws→Calls P f (.pointer (some ⟨g,0,none⟩)::rest).toArray W (bC g A n c V r W)) (W:World) (β:Sx.Env) (hS:Sx.dS ⟨w,[g],mS T w⟩ β W (Sx.rowAt (⟨154,.dj g (dh A n c j)⟩::ms)) [0]) :
  Calls P f ((Sx.SV.ptr 0 0::rest.map .val).map (Sx.SV.den β)).toArray W (Sx.br ⟨w,[g],mS T w⟩ β W (Sx.rowAt (⟨154,.dj g (dh A n c j)⟩::ms)) (ms.length+1) (fK 0 g A n c r V)):=
 xW rest hS (by simp) rfl (fun hB=>h W (h0.at hS.aD hj hB)) fun code p chain w' hr hf=>⟨code,p,hT code p hr,hf.up hS.aD.size⟩
set_option maxRecDepth 100000
open Go.RowKit Go.Lib Go.Sort _root_.Go.Proofs.Tryz
set_option maxRecDepth 100000
def rV(s:Bs):Nat:=match Lib.parseUint10 0 s with
 |.ok u=>u
 |.range=>18446744073709551615
 |_=>0
def tk(s:Bs):Bool:=match s with
 | []=>false
 |_=>match Lib.parseUint10 0 s with
  |.ok _=>true
  |_=>false
theorem vW:∀(l:List UInt8) (acc u:Nat),Lib.parseUint10 acc l=.ok u→l.foldl (fun a c=>10*a+nB c) acc=u
 | [],acc,u,h=>by unfold Lib.parseUint10 at h;injection h
 |c::l,acc,u,h=>by
  unfold Lib.parseUint10 at h;split at h
  ·rename_i hc
   split at h
   ·cases h
   ·split at h
    ·cases h
    ·rw[List.foldl_cons]
     have hd:nB c=c.toNat - 48:=by unfold nB; rw[if_pos (by omega)]
     rw[hd,show 10*acc+(c.toNat - 48)=acc*10+(c.toNat - 48)by omega];exact vW l _ u h
  ·cases h
theorem tj{s:Bs}(h:tk s=true):dM s=rV s∧dM s < 18446744073709551616:=by
 unfold tk at h;split at h
 ·cases h
 ·split at h
  ·rename_i u hu
   have:=vW _ _ _ hu;refine⟨?_,?_⟩
   ·unfold dM rV;rw[this,hu]
   ·unfold dM;rw[this];exact Lib.parseUint10_lt _ 0 u (by omega) hu
  ·cases h
theorem tH{most:Nat}(hm:most < 18446744073709551616){s:Bs}(h:bR most s=true):tk s=true:=by
 unfold bR at h;rw[VK,decide_eq_true_iff,decide_eq_true_iff]at h;have hp:=zL (dM s) (by omega);rw[h.2]at hp;unfold tk;split
 ·rename_i h1
  exact absurd h.2 (js _)
 ·rw[hp]
theorem zR{most:Nat}{s:Bs}(h:tk s=true):bR most s=(decide (rV s≤most)&&(ao 10 (rV s)==s)):=by unfold bR;rw[(tj h).1];congr 1;by_cases h2:ao 10 (rV s)=s<;>simp[h2]
theorem JJ{most:Nat}(hm:most < 18446744073709551616){s:Bs}(h:tk s=false):bR most s=false:=by
 cases hn:bR most s with
 |false=>rfl
 |true=>rw[tH hm hn]at h;cases h
theorem Qu(s:Bs):rV s < 18446744073709551616:=by
 unfold rV;split
 ·rename_i u hu;exact Lib.parseUint10_lt _ 0 u (by omega) hu
 ·omega
 ·omega
def LR(t:ByteArray)(w:World)(e:Ending)(w':World):Prop:=
 ∃er:Value,e=.returned (.tuple #[.int .u64 (rV t.data.toList:Nat),er])∧ah [] w w'∧((tk t.data.toList=true∧er=.nilIface)∨(tk t.data.toList=false∧(er=.iface 270 (.int .i64 2)∨er=.iface 270 (.int .i64 1))))
theorem SD(t:ByteArray)(hmax:t.size≤281474976710656)(w:World):Calls prog 163 #[.string t,.int .i64 10,.int .i64 64] w (LR t w):=by
 by_cases h0:t.size=0
 ·have ht:t=⟨#[]⟩:=by
   obtain⟨⟨l⟩⟩:=t;cases l with
   |nil=>rfl
   |cons _ _=>simp[ByteArray.size]at h0
  subst ht;refine(Tryz.internal_strconv_ParseUint_empty 10 64 w).mono ?_;rintro e w' ⟨rfl,rfl⟩;exact⟨_,rfl,ah.refl _ _,.inr ⟨rfl,.inl rfl⟩⟩
 ·refine(Tryz.internal_strconv_ParseUint_10_b64 t h0 (by omega) w).mono ?_
  rintro e w' ⟨rfl,rfl⟩;have hC:=qF w t;have hne:∃c l,t.data.toList=c::l:=by
   obtain⟨⟨l⟩⟩:=t;cases l with
   |nil=>simp[ByteArray.size]at h0
   |cons c l=>exact⟨c,l,rfl⟩
  obtain⟨c,l,hcl⟩:=hne;unfold LR rV tk;rw[hcl];rcases h:Lib.parseUint10 0 (c::l)with u|_|_
  ·exact⟨.nilIface,rfl,hC,.inl ⟨rfl,rfl⟩⟩
  ·exact⟨_,rfl,hC,.inr ⟨rfl,.inl rfl⟩⟩
  ·exact⟨_,rfl,hC,.inr ⟨rfl,.inr rfl⟩⟩
def RO(t:ByteArray)(w:World)(e:Ending)(w':World):Prop:=
 ∃(v:Nat) (er:Value),e=.returned (.tuple #[.int .u64 v,er])∧v=rV t.data.toList∧ah [] w w'∧((tk t.data.toList=true∧er=.nilIface)∨(tk t.data.toList=false∧∃N,er=.iface 272 ((pt N 0))))
set_option maxHeartbeats 4000000 in
theorem SE(t:ByteArray)(hmax:t.size≤281474976710656)(w:World)(hl:dD w):Calls prog 106 #[.string t,.int .i64 10,.int .i64 64] w (RO t w):=by
 have HP:=hid (SD t hmax w);have HX:=hid hmax;clear hmax;go_enter func106,ntmps106
 go_wp2_with (go_at_call 163;refine HP.out.mono ?_)
 rintro e w2 ⟨er,rfl,C2,he⟩;obtain⟨v,hv⟩:∃v,v=rV t.data.toList:=⟨_,rfl⟩;rw[←hv];have HV:=hid hv;have HL:=hid (hl.cW C2);clear HP hv;rcases he with⟨hk,rfl⟩ | ⟨hk,rfl|rfl⟩
 ·have HK:=hid hk
  clear hk;go_wp2
  go_ret2
  exact⟨v,.nilIface,rfl,HV.out,C2,.inl ⟨HK.out,rfl⟩⟩
 ·have HK:=hid hk
  clear hk;obtain⟨ev,hev,hk⟩:=HL.out.e1;have HE:=hid hev;have HI:=hid hk;clear hev hk;go_wp2_with (go_at_call 164;refine(Tryz.strconv_toError_syntax _ _ _ _ ev _ HX.out HE.out HI.out).mono ?_;rintro e w3 ⟨N,rfl,hN,hN2,B3⟩)
  go_ret2
  exact⟨v,_,rfl,HV.out,C2.trans (ah.df B3),.inr ⟨HK.out,N,rfl⟩⟩
 ·have HK:=hid hk
  clear hk;obtain⟨ev,hev,hk⟩:=HL.out.e2;have HE:=hid hev;have HI:=hid hk;clear hev hk;go_wp2_with (go_at_call 164;refine(Tryz.strconv_toError_range _ _ _ _ ev _ HX.out HE.out HI.out).mono ?_;rintro e w3 ⟨N,rfl,hN,hN2,B3⟩)
  go_ret2
  exact⟨v,_,rfl,HV.out,C2.trans (ah.df B3),.inr ⟨HK.out,N,rfl⟩⟩
set_option maxHeartbeats 4000000 in
theorem Cu(most:Nat)(hm:most < 18446744073709551616)(s:Bs)(hmax:s.length≤281474976710656)(w:World)(hl:dD w):Calls prog 232 #[.string ⟨s.toArray⟩,.int .u64 most] w fun e w'=>∃(v:Nat) (ok:Bool),e=.returned (.tuple #[.int .u64 v,.bool ok])∧v=rV s∧ok=bR most s∧ah [] w w':=by
 obtain⟨t,ht⟩:∃t:ByteArray,t=⟨s.toArray⟩:=⟨_,rfl⟩;have hts:t.data.toList=s:=by rw[ht]
 rw[←ht];have HP:=hid (SE t (by rw[ht];exact hmax) w hl);have HF:=hid (fun(n:Nat) (hn:n < 18446744073709551616) (W:World) (hW:dD W)=>EU n hn W hW);have HM:=hid hm;have HT:=hid hts;have HL0:=hid hl;clear hmax hm hts ht hl;go_enter func232,ntmps232
 go_wp2_with (go_at_call 106;refine HP.out.mono ?_)
 rintro e w2 ⟨v,er,rfl,hv,C2,he⟩;rw[HT.out]at he hv;have HV:=hid hv;have HL:=hid (HL0.out.cW C2);clear HP hv;rcases he with⟨hk,rfl⟩ | ⟨hk,N,rfl⟩
 ·have HK:=hid hk
  clear hk;by_cases hle:v≤most
  ·have HF2:=hid (HF.out v (by rw[HV.out];exact Qu s) w2 HL.out)
   have HLE:=hid hle;have hle':decide ((v:Int)≤(most:Int))=true:=decide_eq_true (by omega);clear hle;go_wp2_with (go_at_call 73;refine HF2.out.mono ?_;rintro e w3 ⟨rfl,C3⟩)
   go_ret2
   refine⟨v,_,rfl,HV.out,?_,C2.trans C3⟩;rw[zR HK.out,←HV.out,decide_eq_true HLE.out,VN,←HT.out,ByteArray.toList_eq]
  ·have hle':decide ((v:Int)≤(most:Int))=false:=decide_eq_false (by omega)
   have HLE:=hid hle;clear hle;go_wp2
   go_ret2
   refine⟨v,false,rfl,HV.out,?_,C2⟩;rw[zR HK.out,←HV.out,decide_eq_false HLE.out,Bool.false_and]
 ·have HK:=hid hk
  clear hk;go_wp2
  go_ret2
  exact⟨v,false,rfl,HV.out,(JJ HM.out HK.out).symm,C2⟩
theorem oq(most:Nat)(hm:most < 18446744073709551616)(s:Bs)(hmax:s.length≤281474976710656)(w:World)(hl:dD w):Calls prog 232 #[.string ⟨s.toArray⟩,.int .u64 most] w (Rn w (.tuple #[.int .u64 (rV s:Nat),.bool (bR most s)])):=
 (Cu most hm s hmax w hl).mono fun _ _ ⟨_,_,he,hv,ho,hc⟩=>⟨by rw[he,hv,ho],hc⟩
set_option maxRecDepth 100000
open Go.RowKit Go.Lib Go.Sort _root_.Go.Proofs.Tryz
set_option maxHeartbeats 4000000 in
theorem qv(l:List UInt8)(w:World):Calls prog 33 #[.string ⟨l.toArray⟩] w fun e w'=>e=.returned (.bool (aJ l))∧ah [] w w':=by
 obtain⟨s,hs⟩:∃s:ByteArray,s=⟨l.toArray⟩:=⟨_,rfl⟩;have hsz:s.size=l.length:=by rw[hs];rfl
 have HS:=hid hs;rw[←hs];clear hs;have HZ:=hid hsz;clear hsz;go_enter func33,ntmps33
 by_cases h0:s.size=0
 ·have hn:VF false=.bool (aJ l):=by have:=HZ.out;unfold aJ;rw[decide_eq_false (by omega)];rfl
  have HN:=hid hn;clear hn;go_wp2
  go_ret
  exact⟨congrArg _ HN.out,ah.refl _ _⟩
 by_cases h16:16 < s.size
 ·have hn:VF false=.bool (aJ l):=by have:=HZ.out;unfold aJ;rw[decide_eq_false (show ¬l.length≤16 by omega)];simp
  have HN:=hid hn;clear hn;go_wp2
  go_ret
  exact⟨congrArg _ HN.out,ah.refl _ _⟩
 have b0:((s.size:Int)==0)=false:=by rw[beq_eq_false_iff_ne];omega
 have b16:¬((16:Int) < (s.size:Int)):=by omega
 go_wp2
 go_loopw [3] (fun _ wr=>∃pos:Nat,wr.heap[w.heap.size]?=some (.stringIter s pos)∧Below w.heap.size w wr∧∀i c,i < pos→l[i]?=some c→Ex i c=true) (fun _ wr=>s.size - wr.iterPos w.heap.size)
 case atStart=>refine⟨0,?_,((Below.refl _ w).alloc (VR _) _),fun i c h=>absurd h (Nat.not_lt_zero _)⟩;have:=World.iter_heap w s 0;simpa using this
 case round=>
  obtain⟨pos,hit,hbw,hok⟩:=hrel;have HOK:=hid hok;clear hok;by_cases hp:pos < s.size
  ·have hnx:∀ty,(Wc (.pointer (some ⟨w.heap.size,0,none⟩)) true ty).run prog wr=_:=fun ty=>Lib.run_next_any_at wr w.heap.size s pos ty hit hp
   have hr:=MV s pos hp;have hg:l[pos]?=some (s[pos]'hp):=by have:=HS.out;subst this;exact VH (show pos < l.length from hp)
   have hit2:=Lib.iterAt_heap wr w.heap.size s pos (pos+(Utf8.decode s pos).2) hit;have hbw2:=Lib.below_iterAt hbw (k:=w.heap.size) (by omega) s (pos+(Utf8.decode s pos).2);rcases hr with⟨hlo,hd⟩ | ⟨hhi,hd⟩
   ·rw[hd]at hnx hit2 hbw2
    generalize (s[pos]'hp)=c at*;obtain⟨x,hx⟩:∃x:Int,x=(c.toNat:Int):=⟨_,rfl⟩;rw[show((c.toNat:Nat):Int)=x from hx.symm]at hnx;have x0:0≤x:=by omega
    have HX:=hid hx;have HG:=hid hg;have HL2:=hid (show x < 128 by omega);clear hx hg hlo hd;have hup:Ex pos c=true→∀i c',i < pos+1→l[i]?=some c'→Ex i c'=true:=fun hc i c' hi h=>by
     by_cases he:i=pos
     ·subst he
      rw[HG.out]at h;injection h with h;rw[←h];exact hc
     ·exact HOK.out i c' (by omega) h
    have HUP:=hid hup;clear hup;by_cases hlet:97≤x∧x≤122
    ·obtain⟨ha,hb⟩:=hlet
     go_wp2
     go_roundw
     case rel=>exact⟨pos+1,hit2,hbw2,HUP.out (ND HX.out ha hb)⟩
     case measure=>simp only[World.iterPos,hit2,hit];omega
    ·by_cases hpos:pos=0
     ·have hp0:¬((0:Int) < (pos:Int)):=by omega
      rcases(show x < 97∨(97≤x∧122 < x)by omega)with h97|⟨h97,h122⟩
      ·skip
       have h1:¬(97≤x):=by omega
       have hn:VF false=.bool (aJ l):=by rw[ki HG.out (wi HX.out (by omega) (by omega))]
       have HN:=hid hn;clear hn;go_wp2
       go_ret
       exact⟨congrArg _ HN.out,by simpa[hpos]using ah.df hbw2⟩
      ·skip
       have h1:¬(x≤122):=by omega
       have hn:VF false=.bool (aJ l):=by rw[ki HG.out (wi HX.out (by omega) (by omega))]
       have HN:=hid hn;clear hn;go_wp2
       go_ret
       exact⟨congrArg _ HN.out,by simpa[hpos]using ah.df hbw2⟩
     ·have hp0:(0:Int) < (pos:Int):=by omega
      rcases(show(97≤x∧122 < x)∨(x < 97∧48≤x∧x≤57)∨(x < 97∧x < 48∧x=45)∨(x < 97∧x < 48∧x≠45)∨(x < 97∧48≤x∧57 < x∧x=95)∨(x < 97∧48≤x∧57 < x∧x≠95)by omega)with⟨h97,h122⟩ | ⟨h97,h48,h57⟩ | ⟨h97,h48,hx⟩ | ⟨h97,h48,hx⟩ | ⟨h97,h48,h57,hx⟩ | ⟨h97,h48,h57,hx⟩
      ·skip
       have h1:¬(x≤122):=by omega
       have h48:48≤x:=by omega
       have h2:¬(x≤57):=by omega
       have e45:(x==45)=false:=by rw[beq_eq_false_iff_ne];omega
       have e95:(x==95)=false:=by rw[beq_eq_false_iff_ne];omega
       have hn:VF false=.bool (aJ l):=by rw[ki HG.out (wi HX.out (by omega) (by omega))]
       have HN:=hid hn;clear hn;go_wp2
       go_ret
       exact⟨congrArg _ HN.out,ah.df hbw2⟩
      ·skip
       go_wp2
       go_roundw
       case rel=>exact⟨pos+1,hit2,hbw2,HUP.out (xO HX.out (by omega) (by omega))⟩
       case measure=>simp only[World.iterPos,hit2,hit];omega
      ·skip
       have h1:¬(48≤x):=by omega
       have e45:(x==45)=true:=by rw[beq_iff_eq];omega
       go_wp2
       go_roundw
       case rel=>exact⟨pos+1,hit2,hbw2,HUP.out (xO HX.out (by omega) (by omega))⟩
       case measure=>simp only[World.iterPos,hit2,hit];omega
      ·skip
       have h1:¬(48≤x):=by omega
       have e45:(x==45)=false:=by rw[beq_eq_false_iff_ne];omega
       have e95:(x==95)=false:=by rw[beq_eq_false_iff_ne];omega
       have hn:VF false=.bool (aJ l):=by rw[ki HG.out (wi HX.out (by omega) (by omega))]
       have HN:=hid hn;clear hn;go_wp2
       go_ret
       exact⟨congrArg _ HN.out,ah.df hbw2⟩
      ·skip
       have h1:¬(x≤57):=by omega
       have e45:(x==45)=false:=by rw[beq_eq_false_iff_ne];omega
       have e95:(x==95)=true:=by rw[beq_iff_eq];omega
       go_wp2
       go_roundw
       case rel=>exact⟨pos+1,hit2,hbw2,HUP.out (xO HX.out (by omega) (by omega))⟩
       case measure=>simp only[World.iterPos,hit2,hit];omega
      ·skip
       have h1:¬(x≤57):=by omega
       have e45:(x==45)=false:=by rw[beq_eq_false_iff_ne];omega
       have e95:(x==95)=false:=by rw[beq_eq_false_iff_ne];omega
       have hn:VF false=.bool (aJ l):=by rw[ki HG.out (wi HX.out (by omega) (by omega))]
       have HN:=hid hn;clear hn;go_wp2
       go_ret
       exact⟨congrArg _ HN.out,ah.df hbw2⟩
   ·have HX:=hid (rfl:((s[pos]'hp).toNat:Int)=((s[pos]'hp).toNat:Int))
    have hn:VF false=.bool (aJ l):=by rw[ki hg (wi rfl (by omega) (by omega))]
    have HN:=hid hn;clear hn hg;obtain⟨x,hx⟩:∃x:Int,x=((Utf8.decode s pos).1:Int):=⟨_,rfl⟩;rw[←hx]at hnx;have hx128:128≤x:=by omega
    have h97:97≤x:=by omega
    have h122:122 < x:=by omega
    have h48:48≤x:=by omega
    have h57:57 < x:=by omega
    have e45:(x==45)=false:=by rw[beq_eq_false_iff_ne];omega
    have e95:(x==95)=false:=by rw[beq_eq_false_iff_ne];omega
    clear hhi hd hx;by_cases hpos:pos=0
    ·have hp0:¬((0:Int) < (pos:Int)):=by omega
     go_wp2
     go_ret
     exact⟨congrArg _ HN.out,by simpa[hpos]using ah.df hbw2⟩
    ·have hp0:(0:Int) < (pos:Int):=by omega
     go_wp2
     go_ret
     exact⟨congrArg _ HN.out,ah.df hbw2⟩
  ·have hnx:∀ty,(Wc (.pointer (some ⟨w.heap.size,0,none⟩)) true ty).run prog wr=_:=fun ty=>Lib.run_next_end_at wr w.heap.size s pos ty hit hp
   have hn:VF true=.bool (aJ l):=by rw[Gr (by have:=HZ.out;omega) (by have:=HZ.out;omega) (fun i c h=>HOK.out i c (by have:=(VE.1 h).1;have:=HZ.out;omega) h)]
   have HN:=hid hn;clear hn;go_wp2
   go_ret
   exact⟨congrArg _ HN.out,ah.df hbw⟩
set_option maxRecDepth 100000
open Go.RowKit Go.Lib Go.Sort _root_.Go.Proofs.Tryz
def qu(n:Nat):Value:=.int .u64 (n:Int)
theorem kn(most:Nat)(hm:most < 18446744073709551616){w:World}{g:Nat}{A:Option Go.Addr}{n c i:Nat}{ws:List Bs}(h:dU w g A n c i ws):Calls prog 189 #[(pt g 0),.int .u64 (most:Int)] w (bC g A n c qu (bc most ws i) w):=by
 have e1:bc most ws i=(aP ws i).bind fun x j=>aK (bR most x) 200 (dM x) j:=rfl;have n1:=fun W (hL:dU W g A n c i ws)=>mn hL;have hx:(aP ws i).val.length≤100000000:=tN h.sz;generalize bc most ws i=T at e1 ⊢;generalize aP ws i=r at e1 n1 hx;have c9:=ko [] h h.le (cq e1) n1;have c11f:=fun(_:r.okB=true∧r.pos≤n) W (hW:ah [g] w W)=>oq most hm r.val (by omega) W (h.Al hW);have c16f:=fun(hp:r.okB=true∧r.pos≤n)=>ko [.bool (bR most r.val),.int .i64 200] h hp.2 (wh (cd e1 hp.1)) (fun W hL=>lJ (bR most r.val) 200 (dM r.val) hL);have z2f:=fun(hp:r.okB=true∧r.pos≤n) (hp2:(aK (bR most r.val) 200 (dM r.val) r.pos).okB=true∧(aK (bR most r.val) 200 (dM r.val) r.pos).pos≤n)=>(show BK g A n c qu T (.val (qu (rV r.val))) [(g,154,dh A n c (aK (bR most r.val) 200 (dM r.val) r.pos).pos)]from by
  have e2:=cd e1 hp.1;cases hk:bR most r.val with
  |false=>rw[hk]at hp2;cases hp2.1
  |true=>rw[hk]at e2;exact⟨_,_,e2,hp.2,by rw[(tj (tH hm hk)).1],rfl⟩)
 refine fg [.int .u64 (most:Int)] h.bY [(9,.au (fK 0 g A n c r ab)),(11,.call (.tuple #[qu (rV r.val),.bool (bR most r.val)])),(16,.au (fK 0 g A n c (aK (bR most r.val) 200 (dM r.val) r.pos) fun _=>.tuple #[]))] [] (by kernel_rfl) func189 rfl (dR rfl) ?_;exact VQ (by kernel_rfl) (VI c9 (fun(hx0:r.okB=true∧r.pos≤n)=>(Sx.t2 (c11f hx0) (c16f hx0) (fun(hx1:(aK (bR most r.val) 200 (dM r.val) r.pos).okB=true∧(aK (bR most r.val) 200 (dM r.val) r.pos).pos≤n)=>(z2f hx0 hx1)))))
set_option maxRecDepth 100000
open Go.RowKit Go.Lib Go.Sort _root_.Go.Proofs.Tryz
set_option maxRecDepth 100000
def pH(n:Nat):Value:=.int .i64 (n:Int)
theorem ot{most:Nat}{ws:List Bs}{i v j:Nat}(h:bc most ws i=.ok v j):v≤most:=by
 unfold bc at h;cases hr:aP ws i with
 |no c p=>rw[hr]at h;cases h
 |ok x k=>
  rw[hr]at h;simp only[Out.bind]at h;cases hk:bR most x with
  |false=>rw[hk]at h;cases h
  |true=>rw[hk]at h;injection h with h _;unfold bR at hk;rw[VK,decide_eq_true_iff]at hk;omega
theorem Ep{α:Type} [Inhabited α]{r:Out α}{n:Nat}(h:r.okB=true∧r.pos≤n):r=.ok r.val r.pos:=Out.Et h.1
theorem tV{w:World}{g:Nat}{A:Option Go.Addr}{n c i:Nat}{ws:List Bs}(h:dU w g A n c i ws):Calls prog 186 #[(pt g 0)] w (bC g A n c pH (gz ws i) w):=by have e1:gz ws i=bc 9223372036854775807 ws i:=rfl;have n1:=fun W (hL:dU W g A n c i ws)=>kn 9223372036854775807 (by omega) hL;have hle:∀v j,bc 9223372036854775807 ws i=.ok v j→v≤9223372036854775807:=fun v j=>ot;generalize gz ws i=T at e1 ⊢;generalize bc 9223372036854775807 ws i=r at e1 n1 hle;have c4:=ko [.int .u64 ((9223372036854775807:Nat):Int)] h h.le (wh e1) n1;have c5f:=fun(hp:r.okB=true∧r.pos≤n)=>(show VL .i64 (VG.wrap (r.val:Int))=.int .i64 (r.val:Int)from iw (Fs (by omega) (by have:=hle _ _ (Ep hp);omega)));have z1f:=fun(hp:r.okB=true∧r.pos≤n)=>(show BK g A n c pH T (.val (pH r.val)) [(g,154,dh A n c r.pos)]from⟨_,_,by rw[e1];exact Ep hp,hp.2,rfl,rfl⟩);refine fg [] h.bY [(4,.au (fK 0 g A n c r qu)),(5,.is (pH r.val))] [] (by kernel_rfl) func186 rfl (dR rfl) ?_;exact VQ (by kernel_rfl) (VI c4 (fun(hx0:r.okB=true∧r.pos≤n)=>(VI (c5f hx0) (z1f hx0))))
theorem pA{w:World}{g:Nat}{A:Option Go.Addr}{n c i:Nat}{ws:List Bs}(h:dU w g A n c i ws):Calls prog 188 #[(pt g 0)] w (bC g A n c ab (fh ws i) w):=by
 have e1:fh ws i=(aP ws i).bind fun x j=>aK (aJ x) 201 x j:=rfl;have n1:=fun W (hL:dU W g A n c i ws)=>mn hL;generalize fh ws i=T at e1 ⊢;generalize aP ws i=r at e1 n1;have c5:=ko [] h h.le (cq e1) n1;have c8f:=fun(_:r.okB=true∧r.pos≤n) W (_:ah [g] w W)=>qv r.val W;have c9f:=fun(hp:r.okB=true∧r.pos≤n)=>ko [.bool (aJ r.val),.int .i64 201] h hp.2 (wh (cd e1 hp.1)) (fun W hL=>lJ (aJ r.val) 201 r.val hL);have z2f:=fun(hp:r.okB=true∧r.pos≤n) (hp2:(aK (aJ r.val) 201 r.val r.pos).okB=true∧(aK (aJ r.val) 201 r.val r.pos).pos≤n)=>(show BK g A n c ab T (.val (ab r.val)) [(g,154,dh A n c (aK (aJ r.val) 201 r.val r.pos).pos)]from by
  have e2:=cd e1 hp.1;cases hk:aJ r.val with
  |false=>rw[hk]at hp2;cases hp2.1
  |true=>rw[hk]at e2;exact⟨_,_,e2,hp.2,rfl,rfl⟩)
 refine fg [] h.bY [(5,.au (fK 0 g A n c r ab)),(8,.call (.bool (aJ r.val))),(9,.au (fK 0 g A n c (aK (aJ r.val) 201 r.val r.pos) fun _=>.tuple #[]))] [] (by kernel_rfl) func188 rfl (dR rfl) ?_;exact VQ (by kernel_rfl) (VI c5 (fun(hx0:r.okB=true∧r.pos≤n)=>(Sx.t2 (c8f hx0) (c9f hx0) (fun(hx1:(aK (aJ r.val) 201 r.val r.pos).okB=true∧(aK (aJ r.val) 201 r.val r.pos).pos≤n)=>(z2f hx0 hx1)))))
open Go.RowKit Go.Lib Go.Sort
structure RS where
 at_:Nat
 e:Nat
abbrev RA(α:Type):=RS→α×RS
def iO{α β:Type}(q:RA α)(h:α→RA β):RA β:=fun st=>h (q st).1 (q st).2
def oZ{α:Type}(a:α):RA α:=fun st=>(a,st)
def jH(code:Nat)(st:RS):RS:=match VO st.e 0 with
 |true=>⟨st.at_ - 1,code⟩
 |false=>st
def Co{α:Type}(ok:Bool)(code:Nat)(a:α):RA α:=fun st=>(a,match ok with
 |true=>st
 |false=>jH code st)
def dJ(ws:List Bs):RA Bs:=fun st=>match VO st.e 0 with
 |true=>match ws[st.at_]? with
  |some x=>(x,⟨st.at_+1,0⟩)
  |none=>([],⟨st.at_,200⟩)
 |false=>([],st)
def Cj(ws:List Bs)(s:Bs)(st:RS):Bool:=VO st.e 0&&decide (ws[st.at_]?=some s)
def zE(most:Nat)(s:Bs):Nat:=match bR most s with
 |true=>dM s
 |false=>0
def Ef(most:Nat)(ws:List Bs):RA Nat:=iO (dJ ws) fun x=>Co (bR most x) 200 (zE most x)
noncomputable def rQ(ws:List Bs):RA Px:=iO (dJ ws) fun x=>Co (oM x).isSome 151 ((oM x).getD oN)
def sM(ws:List Bs):RA (Nat×Nat):=iO (dJ ws) fun x=>Co (bR 65535 (dI x).1&&bR 65535 (dI x).2) 200 (zE 65535 (dI x).1,zE 65535 (dI x).2)
def od(ws:List Bs):RA Nat:=fun st=>match Cj ws lC st with
 |true=>(6,(dJ ws st).2)
 |false=>match Cj ws mv st with
  |true=>(17,(dJ ws st).2)
  |false=>Ef 255 ws st
structure DF{α:Type}(L:Nat)(r:Nat→Out α)(q:RA α):Prop where
 run:∀i,i≤L→match r i with
  |.ok a j=>q ⟨i,0⟩=(a,⟨j,0⟩)∧j≤L
  |.no c p=>c≠0∧(q ⟨i,0⟩).2=⟨p - 1,c⟩
 stay:∀st:RS,st.e≠0→(q st).2=st
theorem DF.bind{α β:Type}{L:Nat}{r:Nat→Out α}{q:RA α}{f:α→Nat→Out β}{h:α→RA β}(H:DF L r q)(H2:∀a,DF L (f a) (h a)):DF L (fun i=>(r i).bind f) (iO q h):=by
 refine⟨fun i hi=>?_,fun st hs=>?_⟩
 ·have h1:=H.run i hi
  cases hr:r i with
  |ok a j=>rw[hr]at h1;have h2:=(H2 a).run j h1.2;simp only[Out.bind];unfold iO;rw[h1.1];exact h2
  |no c p=>rw[hr]at h1;simp only[Out.bind];refine⟨h1.1,?_⟩;unfold iO;rw[(H2 _).stay _ (by rw[h1.2];exact h1.1),h1.2]
 ·unfold iO
  have:=H.stay st hs;rw[(H2 _).stay _ (by rw[this];exact hs),this]
theorem zx{code:Nat}{st:RS}(h:st.e≠0):jH code st=st:=by
 unfold jH;cases hb:VO st.e 0 with
 |true=>exact absurd (VP hb) h
 |false=>rfl
theorem DF.TX{α:Type}{L:Nat}{ok:Bool}{code:Nat}{a a':α}(hc:code≠0)(h:ok=true→a'=a):DF L (aK ok code a) (Co ok code a'):=by
 refine⟨fun i hi=>?_,fun st hs=>?_⟩
 ·cases ok with
  |true=>exact⟨by simp only[Co,h rfl],hi⟩
  |false=>exact⟨hc,rfl⟩
 ·cases ok with
  |true=>rfl
  |false=>exact zx hs
theorem DF.pure{α:Type}{L:Nat}(a:α):DF L (fun i=>.ok a i) (oZ a):=⟨fun _ hi=>⟨rfl,hi⟩,fun _ _=>rfl⟩
theorem DF.congr{α:Type}{L:Nat}{r r':Nat→Out α}{q q':RA α}(h:DF L r q)(hr:∀i,r' i=r i)(hq:∀st,q' st=q st):DF L r' q':=by have e1:r'=r:=funext hr;have e2:q'=q:=funext hq;rw[e1,e2];exact h
theorem IZ{ws:List Bs}{s:Bs}{st:RS}(h:st.e≠0):Cj ws s st=false:=by
 unfold Cj;cases hb:VO st.e 0 with
 |true=>exact absurd (VP hb) h
 |false=>rfl
theorem DF.IB{α:Type}{ws:List Bs}{s:Bs}{f:Bool→Nat→Out α}{h h':RA α}(H:DF ws.length (f true) h)(H':DF ws.length (f false) h') :
  DF ws.length (fun i=>(dd ws i s).bind f) (fun st=>match Cj ws s st with|true=>h (dJ ws st).2|false=>h' st):=by
 refine⟨fun i hl=>?_,fun st hs=>?_⟩
 ·by_cases hi:ws[i]?=some s
  ·have e1:dd ws i s=.ok true (i+1):=by unfold dd;rw[if_pos hi]
   have e2:Cj ws s ⟨i,0⟩=true:=by unfold Cj;simp[hi]
   have e3:(dJ ws ⟨i,0⟩).2=⟨i+1,0⟩:=by unfold dJ;simp[hi]
   rw[e1];simp only[e2,e3,Out.bind];exact H.run _ (VE.1 hi).1
  ·have e1:dd ws i s=.ok false i:=by unfold dd;rw[if_neg hi]
   have e2:Cj ws s ⟨i,0⟩=false:=by unfold Cj;simp[hi]
   rw[e1];simp only[e2,Out.bind];exact H'.run _ hl
 ·simp only[IZ hs];exact H'.stay st hs
noncomputable def sN(k:Nat)(m:Mt)(ws:List Bs):RA Mt:=match k with
 | 0=>iO (sM ws) fun s=>oZ { m with fE:=s }
 | 1=>iO (rQ ws) fun s=>oZ { m with src:=s }
 | 2=>iO (rQ ws) fun s=>oZ { m with dst:=s }
 | 3=>iO (od ws) fun s=>oZ { m with bE:=s }
 | 4=>iO (sM ws) fun s=>oZ { m with sp:=s }
 |_=>iO (sM ws) fun s=>oZ { m with dp:=s }
def Eg(ws:List Bs)(st:RS):Bool:=VO st.e 0&&match ws[st.at_]? with
 |some x=>(AE x).isSome
 |none=>false
noncomputable def dH(ws:List Bs)(m:Mt):RA (Mt×Bool):=fun st=>match AE (dJ ws st).1 with
 |none=>((m,false),jH 200 (dJ ws st).2)
 |some k=>match m.asks.testBit k with
  |true=>((m,false),jH 200 (dJ ws st).2)
  |false=>(((sN k { m with asks:=m.asks|||2^k } ws (dJ ws st).2).1,true),(sN k { m with asks:=m.asks|||2^k } ws (dJ ws st).2).2)
noncomputable def rR(ws:List Bs):Nat→Mt→RA Mt
 | 0,m=>fun st=>(m,st)
 |f+1,m=>fun st=>match(dH ws m st).1.2 with
  |false=>((dH ws m st).1.1,(dH ws m st).2)
  |true=>match Eg ws (dH ws m st).2 with
   |true=>rR ws f (dH ws m st).1.1 (dH ws m st).2
   |false=>((dH ws m st).1.1,(dH ws m st).2)
open Go.RowKit Go.Lib Go.Sort
def One{α:Type}(ws:List Bs)(r:Nat→Out α):Prop:=∀i a j,r i=.ok a j→j=i+1∧j≤ws.length
theorem JD(ws:List Bs):One ws (aP ws):=by
 intro i a j h;unfold aP at h;split at h
 ·rename_i x hx
  injection h with h1 h2;have:=(VE.1 hx).1;omega
 ·cases h
theorem One.TX{α:Type}{ws:List Bs}{f:Bs→Nat→Out α}(h:∀x j a k,f x j=.ok a k→k=j):One ws (fun i=>(aP ws i).bind f):=by
 intro i a j hj;cases hr:aP ws i with
 |ok x k=>simp only[hr,Out.bind]at hj;have:=JD ws i x k hr;rw[h x k a j hj];exact this
 |no c p=>simp only[hr,Out.bind]at hj;cases hj
theorem sq{α:Type}{b:Bool}{code:Nat}{a a':α}{i j:Nat}(h:aK b code a i=.ok a' j):j=i:=by
 cases b with
 |true=>injection h with _ h;exact h.symm
 |false=>cases h
theorem Cs(most:Nat)(ws:List Bs):One ws (bc most ws):=One.TX fun _ _ _ _ h=>sq h
theorem ts(ws:List Bs):One ws (gZ ws):=One.TX fun _ _ _ _ h=>sq h
theorem tu(ws:List Bs):One ws (cZ ws):=One.TX fun _ _ _ _ h=>sq h
theorem gq{ws:List Bs}{i:Nat}{s:Bs}:(dd ws i s=.ok true (i+1)∧i+1≤ws.length)∨dd ws i s=.ok false i:=by
 unfold dd;split
 ·rename_i h
  have:=(VE.1 h).1;exact .inl ⟨rfl,this⟩
 ·exact .inr rfl
theorem Gk(ws:List Bs):One ws (dL ws):=by
 intro i a j h;unfold dL at h;rcases gq (ws:=ws) (i:=i) (s:=lC)with⟨h1,h2⟩ | h1
 ·simp only[h1,Out.bind]at h
  injection h with _ h;omega
 ·simp only[h1,Out.bind]at h
  rcases gq (ws:=ws) (i:=i) (s:=mv)with⟨h3,h4⟩ | h3
  ·simp only[h3]at h
   injection h with _ h;omega
  ·simp only[h3]at h
   exact Cs 255 ws i a j h
theorem One.map{α β:Type}{ws:List Bs}{r:Nat→Out α}{f:α→β}(h:One ws r):One ws (fun i=>(r i).bind fun a j=>.ok (f a) j):=by
 intro i b j hj;cases hr:r i with
 |ok x k=>simp only[hr,Out.bind]at hj;injection hj with _ hj;rw[←hj];exact h i x k hr
 |no c p=>simp only[hr,Out.bind]at hj;cases hj
theorem Gj(k:Nat)(m:Mt)(ws:List Bs):One ws (bZ k m ws):=by
 unfold bZ;split
 ·exact(ts ws).map
 ·exact(tu ws).map
 ·exact(tu ws).map
 ·exact(Gk ws).map
 ·exact(ts ws).map
 ·exact(ts ws).map
theorem wR{ws:List Bs}{i:Nat}{m m':Mt}{j:Nat}(h:aZ ws i m=.ok (true,m') j):j=i+2∧j≤ws.length:=by
 unfold aZ at h;split at h
 ·cases h
 ·rename_i x hx
  split at h
  ·cases h
  ·rename_i k hk
   split at h
   ·cases h
   ·cases hr:bZ k { m with asks:=m.asks|||2^k } ws (i+1)with
    |ok a l=>simp only[hr,Out.bind]at h;injection h with h1 h2;have:=Gj _ _ _ _ _ _ hr;omega
    |no c p=>simp only[hr,Out.bind]at h;cases h
theorem qY(ws:List Bs):∀(f f' i:Nat) (m:Mt),ws.length+1 - i≤f→ws.length+1 - i≤f'→i≤ws.length→dY ws f i m=dY ws f' i m
 | 0,_,i,m,h,_,hi=>by omega
 |_+1,0,i,m,_,h,hi=>by omega
 |f+1,f'+1,i,m,h1,h2,hi=>by
  unfold dY;cases hr:aZ ws i m with
  |no c p=>rfl
  |ok r j=>
   obtain⟨b,m'⟩:=r;cases b with
   |false=>rfl
   |true=>simp only[Out.bind];have:=wR hr;exact qY ws f f' j m' (by omega) (by omega) this.2
end Go.Proofs.YtnncigmpcdehnaaGreatDoor
