import Derived.Test.YtnncigmpcdehnaaGreatDoorQc12
namespace Go.Proofs.YtnncigmpcdehnaaGreatDoor
set_option maxRecDepth 100000
open Go.RowKit Go.Lib Go.Sort
def OY(g:Nat)(v:Value)(cs:List Value)(r:Sx.lz)(gl:List (Nat×TypeId×List Value)):Prop:=r=.val v∧gl=[(g,154,cs)]
theorem Gi(g:Nat)(A:Option Go.Addr)(n c i:Nat)(ws:List (List UInt8))(x:List UInt8)(hn:n≤1000000)(w:World)(hb:aq w g 154 (cW A n c i))(hw:zG w [g] A n ws)(hx:ws[i]?=some x)(PP:List PanicEntry→World→Prop):Calls Tryz.prog 154 #[.pointer (some ⟨g,0,none⟩)] w (Sx.gk ⟨w,[g],PP⟩ (OY g (.string ⟨x.toArray⟩) (cW A n c (i+1)))):=by
 have hi:i < n:=by rw[←hw.len];exact(List.getElem?_eq_some_iff.1 hx).1
 obtain⟨p,hp1,hp2⟩:=hw.at (c:=c) hx
 have c12:Value.bool ((i:Int)==(n:Int))=.bool false:=iB (by rw[beq_eq_false_iff_ne];omega)
 have c24:Value.int .i64 (IntKind.i64.wrap ((i:Int)+1))=.int .i64 ((i+1:Nat):Int):=iw (by rw[jR (by omega) (by omega)];rfl)
 have c35:Value.int .i64 (IntKind.i64.wrap (((i+1:Nat):Int) - 1))=.int .i64 (i:Int):=iw (by rw[jR (by omega) (by omega)]; omega)
 have c36:=fun W (_:ah [g] w W)=>hp1 W
 have c37:=hp2
 have h0:Sx.lz.val (Value.string ⟨x.toArray⟩)=.val (.string ⟨x.toArray⟩):=rfl
 have z1:[(g,154,cW A n c (i+1))]=[(g,154,cW A n c (i+1))]:=rfl
 refine Sx.gP (args:=[.ptr 0 0]) [(g,154,cW A n c i)] (by simpa using hb) (by simp) PP [(12,.is (.bool false)),(24,.is (.int .i64 ((i+1:Nat):Int))),(35,.is (.int .i64 (i:Int))),(36,.any p),(37,.any (.string ⟨x.toArray⟩))] [] (by kernel_rfl) Tryz.func154 rfl (Nat.le_of_ble_eq_true rfl) rfl ?_
 exact Eq.mp (by kernel_rfl) (Sx.t4 c12 c24 c35 c36 (Sx.t2 c37 h0 z1))
open Go.RowKit Go.Lib Go.Sort
theorem OO(x y:Operand)(v v':Bool)(n m:Nat)(k j:Int)(hn:n < 2^128)(hm:m < 2^128)(hk : -9223372036854775808≤k∧k≤9223372036854775807)(hj : -9223372036854775808≤j∧j≤9223372036854775807)(W:World):(do eqGuard .neq 29 x y (.agg (ew v n k).toArray) (.agg (ew v' m j).toArray); binOp .neq 29 (.agg (ew v n k).toArray) (.agg (ew v' m j).toArray):Sem Value).run Tryz.prog W=.ok (.bool (!decide (v=v'∧n=m∧k=j))) W:=by
 have h:=PC v v' n m k j hn hm hk hj W
 rw[Sem.run_bind,Kq,Result.andThen_ok]
 show(do pure (.bool (!(←Op.equal 29 (.agg (ew v n k).toArray) (.agg (ew v' m j).toArray)))):Sem Value).run Tryz.prog W=_
 rw[Sem.run_bind,show(Op.equal 29 (.agg (ew v n k).toArray) (.agg (ew v' m j).toArray)).run Tryz.prog W=_ from h]
 rfl
theorem Nb(x y:Operand)(s t:ByteArray)(W:World):(do eqGuard .neq 9 x y (.string s) (.string t);binOp .neq 9 (.string s) (.string t):Sem Value).run Tryz.prog W=.ok (.bool (!(s.toList==t.toList))) W:=rfl
theorem Oj{P:Program}{s:Sem Value}{W:World}{a b:Bool}(h:s.run P W=.ok (.bool a) W)(e:a=b):s.run P W=.ok (.bool b) W:=by rw[←e];exact h
theorem rQ{s:List UInt8}{v:Bool}{n:Nat}{k:Int}(h:zN s v n k)(hs:s.length≤100000000)(w:World)(HL:dy w):Calls Tryz.prog 16 #[.string ⟨s.toArray⟩] w fun e w'=>e=.returned (.tuple #[.agg (ew v n k).toArray,.int .i64 0])∧ah [] w w':=by
 refine(FO s hs w HL).mono ?_
 rintro e w' ⟨v',n',k',er,rfl,hC,hh⟩
 rcases hh with⟨rfl,_,hu⟩ | ⟨_,_,_,_,hu⟩
 ·obtain⟨rfl,rfl,rfl⟩:=hu _ _ _ h
  exact⟨rfl,hC⟩
 ·exact absurd h (hu _ _ _)
theorem JA{s:List UInt8}(h:∀v n k,¬zN s v n k)(hs:s.length≤100000000)(w:World)(HL:dy w):Calls Tryz.prog 16 #[.string ⟨s.toArray⟩] w fun e w'=>e=.returned (.tuple #[.agg (ew false 0 0).toArray,.int .i64 151])∧ah [] w w':=by
 refine(FO s hs w HL).mono ?_
 rintro e w' ⟨v',n',k',er,rfl,hC,hh⟩
 rcases hh with⟨rfl,hp,_⟩ | ⟨rfl,rfl,rfl,rfl,_⟩
 ·exact absurd hp (h _ _ _)
 ·exact⟨rfl,hC⟩
theorem Dj{v:Bool}{n:Nat}{k:Int}(h1:k≤wid v):(oz v n k).length≤100000000:=by
 have h2:=nF v
 have h3:=uj v n
 have h4:=gM (u:=k.toNat) (by omega)
 unfold oz
 simp only[List.length_append,List.length_cons]
 omega
set_option maxRecDepth 100000
open Go.RowKit Go.Lib Go.Sort
theorem vq(x y:Operand)(s t:List UInt8)(W:World):(do eqGuard .neq 9 x y (.string ⟨s.toArray⟩) (.string ⟨t.toArray⟩);binOp .neq 9 (.string ⟨s.toArray⟩) (.string ⟨t.toArray⟩):Sem Value).run Tryz.prog W=.ok (.bool (decide (s≠t))) W:=by
 refine Oj (Nb x y _ _ W) ?_
 have e:∀l:List UInt8,(⟨l.toArray⟩:ByteArray).toList=l:=fun l=>by simp
 rw[e,e]
 by_cases h:s=t<;>simp[h]
theorem Ff(g:Nat)(A:Option Go.Addr)(n c:Nat)(s:List UInt8)(w:World)(hb:aq w g 154 (cW A n c n))(PP:List PanicEntry→World→Prop):Calls Tryz.prog 152 #[.pointer (some ⟨g,0,none⟩),.string ⟨s.toArray⟩] w (Sx.gk ⟨w,[g],PP⟩ (OY g (.bool false) (cW A n c n))):=by
 have c14:Value.bool ((n:Int)==(n:Int))=.bool true:=gF (by simp)
 have h0:Sx.lz.val (Value.bool false)=.val (.bool false):=rfl
 have z1:[(g,154,cW A n c n)]=[(g,154,cW A n c n)]:=rfl
 refine Sx.gP (args:=[.ptr 0 0,.val (.string ⟨s.toArray⟩)]) [(g,154,cW A n c n)] (by simpa using hb) (by simp) PP [(14,.is (.bool true))] [] (by kernel_rfl) Tryz.func152 rfl (Nat.le_of_ble_eq_true rfl) rfl ?_
 exact Eq.mp (by kernel_rfl) (Sx.t2 c14 h0 z1)
theorem Jc(g:Nat)(A:Option Go.Addr)(n c i:Nat)(ws:List (List UInt8))(x s:List UInt8)(hn:n≤1000000)(w:World)(hb:aq w g 154 (cW A n c i))(hw:zG w [g] A n ws)(hx:ws[i]?=some x)(hs:x≠s)(PP:List PanicEntry→World→Prop):Calls Tryz.prog 152 #[.pointer (some ⟨g,0,none⟩),.string ⟨s.toArray⟩] w (Sx.gk ⟨w,[g],PP⟩ (OY g (.bool false) (cW A n c (i)))):=by
 have hi:i < n:=by rw[←hw.len];exact(List.getElem?_eq_some_iff.1 hx).1
 obtain⟨p,hp1,hp2⟩:=hw.at (c:=c) hx
 have c14:Value.bool ((i:Int)==(n:Int))=.bool false:=iB (by rw[beq_eq_false_iff_ne];omega)
 have c24:=fun W (_:ah [g] w W)=>hp1 W
 have c25:=hp2
 have c27:=fun W=>(vq (.tmp 25) (.tmp 26) x s W).trans (by rw[decide_eq_true hs])
 have c33:Value.int .i64 (IntKind.i64.wrap ((i:Int)+1))=.int .i64 ((i+1:Nat):Int):=iw (by rw[jR (by omega) (by omega)];rfl)
 have h0:Sx.lz.val (Value.bool false)=.val (.bool false):=rfl
 have z1:[(g,154,cW A n c (i))]=[(g,154,cW A n c (i))]:=rfl
 refine Sx.gP (args:=[.ptr 0 0,.val (.string ⟨s.toArray⟩)]) [(g,154,cW A n c i)] (by simpa using hb) (by simp) PP [(14,.is (.bool false)),(24,.any p),(25,.any (.string ⟨x.toArray⟩)),(27,.bin (.bool true)),(33,.is (.int .i64 ((i+1:Nat):Int)))] [] (by kernel_rfl) Tryz.func152 rfl (Nat.le_of_ble_eq_true rfl) rfl ?_
 exact Eq.mp (by kernel_rfl) (Sx.t4 c14 c24 c25 c27 (And.intro h0 z1))
theorem Fe(g:Nat)(A:Option Go.Addr)(n c i:Nat)(ws:List (List UInt8))(x s:List UInt8)(hn:n≤1000000)(w:World)(hb:aq w g 154 (cW A n c i))(hw:zG w [g] A n ws)(hx:ws[i]?=some x)(hs:x=s)(PP:List PanicEntry→World→Prop):Calls Tryz.prog 152 #[.pointer (some ⟨g,0,none⟩),.string ⟨s.toArray⟩] w (Sx.gk ⟨w,[g],PP⟩ (OY g (.bool true) (cW A n c (i+1)))):=by
 have hi:i < n:=by rw[←hw.len];exact(List.getElem?_eq_some_iff.1 hx).1
 obtain⟨p,hp1,hp2⟩:=hw.at (c:=c) hx
 have c14:Value.bool ((i:Int)==(n:Int))=.bool false:=iB (by rw[beq_eq_false_iff_ne];omega)
 have c24:=fun W (_:ah [g] w W)=>hp1 W
 have c25:=hp2
 have c27:=fun W=>(vq (.tmp 25) (.tmp 26) x s W).trans (by rw[decide_eq_false (fun h=>h hs)])
 have c33:Value.int .i64 (IntKind.i64.wrap ((i:Int)+1))=.int .i64 ((i+1:Nat):Int):=iw (by rw[jR (by omega) (by omega)];rfl)
 have h0:Sx.lz.val (Value.bool true)=.val (.bool true):=rfl
 have z1:[(g,154,cW A n c (i+1))]=[(g,154,cW A n c (i+1))]:=rfl
 refine Sx.gP (args:=[.ptr 0 0,.val (.string ⟨s.toArray⟩)]) [(g,154,cW A n c i)] (by simpa using hb) (by simp) PP [(14,.is (.bool false)),(24,.any p),(25,.any (.string ⟨x.toArray⟩)),(27,.bin (.bool false)),(33,.is (.int .i64 ((i+1:Nat):Int)))] [] (by kernel_rfl) Tryz.func152 rfl (Nat.le_of_ble_eq_true rfl) rfl ?_
 exact Eq.mp (by kernel_rfl) (Sx.t4 c14 c24 c25 c27 (Sx.t2 c33 h0 z1))
open Go.RowKit Go.Lib Go.Sort
theorem oK:∀(l:List UInt8) (acc:Nat),(∀c∈l,∃d,d < 10∧c=sig d)→l.foldl (fun a c=>10*a+qZ c) acc < 18446744073709551616→Lib.parseUint10 acc l=.ok (l.foldl (fun a c=>10*a+qZ c) acc)
 | [],acc,_,_=>rfl
 |c::l,acc,h,hn=>by
  obtain⟨d,hd,rfl⟩:=h c (by simp)
  have h1:=gR (d:=d) (by omega)
  rw[if_pos hd]at h1
  rw[List.foldl_cons]at hn ⊢
  have h2:=wv (b:=10) (by omega) l (10*acc+qZ (sig d))
  have h3:qZ (sig d)=d:=oZ (by omega)
  unfold Lib.parseUint10
  rw[if_pos (by omega),if_neg (by omega),if_neg (by omega)]
  rw[show acc*10+((sig d).toNat - 48)=10*acc+qZ (sig d)by omega]
  exact oK l _ (fun c hc=>h c (by simp[hc])) hn
theorem xL(n:Nat)(hn:n < 18446744073709551616):Lib.parseUint10 0 (au 10 n)=.ok n:=by
 have hv:(au 10 n).foldl (fun a c=>10*a+qZ c) 0=n:=iT (b:=10) (by omega) (by omega) n
 rw[oK (au 10 n) 0 (kn (by omega) n) (by rw[hv];exact hn),hv]
theorem CL(n:Nat)(hn:n < 18446744073709551616)(w:World)(hl:dy w):Calls Tryz.prog 73 #[.int .u64 n,.int .i64 10] w fun e w'=>e=.returned (.string ⟨(au 10 n).toArray⟩)∧ah [] w w':=by
 have H:Calls Tryz.prog 143 #[.int .u64 n,.int .i64 10] w fun e w'=>e=.returned (.string ⟨(au 10 n).toArray⟩)∧ah [] w w':=by
  by_cases h:n < 100
  ·exact xt n h w
  ·exact Ii n (by omega) hn w hl
 go_enter Tryz.func73,Tryz.ntmps73
 go_wp2_with (go_at_call 143;refine H.mono ?_;rintro e w2 ⟨rfl,C2⟩)
 go_ret
 exact⟨rfl,C2⟩
open Go.RowKit Go.Lib Go.Sort
abbrev Bs:=List UInt8
inductive Out (α:Type) where
 |ok (a:α) (i:Nat)
 |no (code:Nat) (place:Nat)
def Out.bind{α β:Type}(r:Out α)(f:α→Nat→Out β):Out β:=match r with
 |.ok a i=>f a i
 |.no c p=>.no c p
def Out.okB{α:Type}:Out α→Bool
 |.ok _ _=>true
 |.no _ _=>false
def Out.val{α:Type} [Inhabited α]:Out α→α
 |.ok a _=>a
 |.no _ _=>default
def Out.pos{α:Type}:Out α→Nat
 |.ok _ i=>i
 |.no _ p=>p
theorem Out.xP{α:Type} [Inhabited α]{r:Out α}(h:r.okB=true):r=.ok r.val r.pos:=by
 cases r with
 |ok a i=>rfl
 |no c p=>cases h
def kZ:Bs:=[97,110,121]
def lq:Bs:=[105,110]
def fx:Bs:=[115,114,99]
def gw:Bs:=[100,115,116]
def dv:Bs:=[112,114,111,116,111]
def eM:Bs:=[115,112,111,114,116]
def gi:Bs:=[100,112,111,114,116]
def oQ:Bs:=[116,99,112]
def pY:Bs:=[117,100,112]
def aT:Bs:=[114,111,117,116,101]
def lr:Bs:=[100,114,111,112]
def gh:Bs:=[114,101,106,101,99,116]
def nV:Bs:=[111,117,116]
def nU:Bs:=[45,62]
def aH:Bs:=[109,101,116,101,114]
def ax:Bs:=[109,105,114,114,111,114]
def bX:Bs:=[112,111,114,116]
def dB:Bs:=[114,117,108,101]
def aV:Bs:=[100,101,102,97,117,108,116]
structure Px where
 v:Bool
 n:Nat
 k:Int
def ow:Px:=⟨false,0,0⟩
instance:Inhabited Px:=⟨ow⟩
def Px.cells(p:Px):List Value:=ew p.v p.n p.k
noncomputable def pG(s:Bs):Option Px:=by
 classical
 exact if h:∃p:Px,zN s p.v p.n p.k then some h.choose else none
def gf(s:Bs):Nat:=s.foldl (fun a c=>10*a+qZ c) 0
def cI(most:Nat)(s:Bs):Bool:=decide (gf s≤most)&&decide (au 10 (gf s)=s)
def aY(ws:List Bs)(i:Nat):Out Bs:=match ws[i]? with
 |some x=>.ok x (i+1)
 |none=>.no 200 (i+1)
def cH(ws:List Bs)(i:Nat)(s:Bs):Out Bool:=if ws[i]?=some s then .ok true (i+1)else .ok false i
def ak{α:Type}(b:Bool)(code:Nat)(a:α)(i:Nat):Out α:=match b with
 |true=>.ok a i
 |false=>.no code i
def bw(most:Nat)(ws:List Bs)(i:Nat):Out Nat:=(aY ws i).bind fun x j=>ak (cI most x) 200 (gf x) j
def ic(ws:List Bs)(i:Nat):Out Nat:=bw 9223372036854775807 ws i
def ed(ws:List Bs)(i:Nat):Out Bs:=(aY ws i).bind fun x j=>ak (aG x) 201 x j
noncomputable def dD(ws:List Bs)(i:Nat):Out Px:=(aY ws i).bind fun x j=>ak (pG x).isSome 151 ((pG x).getD ow) j
def eO(x:Bs):Bs×Bs:=match(Lib.cut x [45]).2.2 with
 |true=>((Lib.cut x [45]).1,(Lib.cut x [45]).2.1)
 |false=>((Lib.cut x [45]).1,(Lib.cut x [45]).1)
def iC(ws:List Bs)(i:Nat):Out (Nat×Nat):=(aY ws i).bind fun x j=>ak (cI 65535 (eO x).1&&cI 65535 (eO x).2) 200 (gf (eO x).1,gf (eO x).2) j
def dX(ws:List Bs)(i:Nat):Out Nat:=(cH ws i oQ).bind fun a j=>match a with
 |true=>.ok 6 j
 |false=>(cH ws j pY).bind fun b k=>match b with
  |true=>.ok 17 k
  |false=>bw 255 ws k
structure Mt where
 asks:Nat
 fU:Nat×Nat
 src:Px
 dst:Px
 bS:Nat
 sp:Nat×Nat
 dp:Nat×Nat
def fL:Mt:=⟨0,(0,0),ow,ow,0,(0,0),(0,0)⟩
instance:Inhabited Mt:=⟨fL⟩
def Mt.cells(m:Mt):List Value:=
 [.int .u8 (m.asks:Int),.int .u16 (m.fU.1:Int),.int .u16 (m.fU.2:Int)]++(m.src.cells++(m.dst.cells++[.int .u8 (m.bS:Int),.int .u16 (m.sp.1:Int),.int .u16 (m.sp.2:Int),.int .u16 (m.dp.1:Int),.int .u16 (m.dp.2:Int)]))
def tf(x:Bs):Option Nat:=
 if x=lq then some 0 else if x=fx then some 1 else if x=gw then some 2 else if x=dv then some 3 else if x=eM then some 4 else if x=gi then some 5 else none
noncomputable def br(k:Nat)(m:Mt)(ws:List Bs)(i:Nat):Out Mt:=match k with
 | 0=>(iC ws i).bind fun s j=>.ok { m with fU:=s } j
 | 1=>(dD ws i).bind fun s j=>.ok { m with src:=s } j
 | 2=>(dD ws i).bind fun s j=>.ok { m with dst:=s } j
 | 3=>(dX ws i).bind fun s j=>.ok { m with bS:=s } j
 | 4=>(iC ws i).bind fun s j=>.ok { m with sp:=s } j
 |_=>(iC ws i).bind fun s j=>.ok { m with dp:=s } j
noncomputable def bp(ws:List Bs)(i:Nat)(m:Mt):Out (Bool×Mt):=match ws[i]? with
 |none=>.ok (false,m) i
 |some x=>match tf x with
  |none=>.ok (false,m) i
  |some k=>match m.asks.testBit k with
   |true=>.no 200 (i+1)
   |false=>(br k { m with asks:=m.asks|||2^k } ws (i+1)).bind fun m' j=>.ok (true,m') j
noncomputable def ei(ws:List Bs):Nat→Nat→Mt→Out Mt
 | 0,i,m=>.ok m i
 |f+1,i,m=>(bp ws i m).bind fun r j=>match r.1 with
  |true=>ei ws f j r.2
  |false=>.ok m j
noncomputable def dR(ws:List Bs)(i:Nat):Out Mt:=(cH ws i kZ).bind fun a j=>match a with
 |true=>.ok fL j
 |false=>(bp ws j fL).bind fun r k=>match r.1 with
  |true=>ei ws (ws.length+1 - k) k r.2
  |false=>(aY ws k).bind fun _ l=>.no 200 l
def ou(out:Bool)(ws:List Bs)(i:Nat):Out (Int×Int):=(aY ws i).bind fun x j=>
 if x=aT then .ok (1,0) j else if x=lr then .ok (2,0) j else if x=gh then .ok (4,0) j else
 if x=nV∧out=true then(ic ws j).bind fun n k=>.ok (3,(n:Int)) k else .no 200 j
def fZ(s:Nat×Nat):Bool:=decide (s=(0,0))
def zL(p:Px):Bool:=decide (p.v=false∧p.n=0∧p.k=0)
def bj(m:Mt):Bool:=
 (decide (m.asks < 64)&&((m.asks.testBit 0||fZ m.fU)&&((m.asks.testBit 1||zL m.src)&&((m.asks.testBit 2||zL m.dst)&&((m.asks.testBit 3||decide (m.bS=0))&&((m.asks.testBit 4||fZ m.sp)&&(m.asks.testBit 5||fZ m.dp)))))))&&
 ((decide (m.fU.1≤m.fU.2)&&(decide (m.fU.2≤255)&&(decide (m.sp.1≤m.sp.2)&&decide (m.dp.1≤m.dp.2))))&&
 (((!m.asks.testBit 1||gr m.src.v m.src.n m.src.k)&&((!m.asks.testBit 2||gr m.dst.v m.dst.n m.dst.k)&&(!(m.asks.testBit 1&&m.asks.testBit 2)||decide (m.src.v=m.dst.v))))&&
 (!(m.asks.testBit 4||m.asks.testBit 5)||(decide (m.bS=6)||decide (m.bS=17)))))
structure Rl where
 name:Bs
 mt:Mt
 act:Int
 out:Int
 df:Bs
 bZ:Bs
def NY:Rl:=⟨[],fL,0,0,[],[]⟩
instance:Inhabited Rl:=⟨NY⟩
def Rl.cells(r:Rl):List Value:=.string ⟨r.name.toArray⟩::(r.mt.cells++[.int .i64 r.act,.int .i64 r.out,.string ⟨r.df.toArray⟩,.string ⟨r.bZ.toArray⟩])
def js(s:Bs)(ws:List Bs)(i:Nat):Out Bs:=(cH ws i s).bind fun b j=>match b with
 |true=>ed ws j
 |false=>.ok [] j
def J1(m:Mt)(ws:List Bs)(i:Nat):Out Unit:=(aY ws i).bind fun x i=>(ak (decide (x=nU)) 200 () i).bind fun _ i=>ak (bj m) 190 () i
noncomputable def nu(ws:List Bs)(i:Nat):Out Rl:=(ed ws i).bind fun nm i=>(dR ws i).bind fun m i=>(J1 m ws i).bind fun _ i=>(ou true ws i).bind fun a i=>
 (js aH ws i).bind fun me i=>(js ax ws i).bind fun mi i=>.ok ⟨nm,m,a.1,a.2,me,mi⟩ i
structure Rt where
 pf:Px
 out:Int
instance:Inhabited Rt:=⟨⟨ow,0⟩⟩
def Rt.cells(r:Rt):List Value:=r.pf.cells++[.int .i64 r.out]
structure Me where
 name:Bs
 num:Nat
 den:Nat
 pj:Nat
instance:Inhabited Me:=⟨⟨[],0,0,0⟩⟩
def Me.cells(m:Me):List Value:=[.string ⟨m.name.toArray⟩,.int .u64 (m.num:Int),.int .u64 (m.den:Int),.int .u64 (m.pj:Int)]
structure Mi where
 name:Bs
 out:Int
 room:Int
instance:Inhabited Mi:=⟨⟨[],0,0⟩⟩
def Mi.cells(m:Mi):List Value:=[.string ⟨m.name.toArray⟩,.int .i64 m.out,.int .i64 m.room]
structure CF where
 ag:List Int
 ae:List Rt
 rules:List Rl
 af:List Me
 aa:List Mi
 a8:Int
def CX:CF:=⟨[],[],[],[],[],0⟩
instance:Inhabited CF:=⟨CX⟩
noncomputable def fC(x:Bs)(ws:List Bs)(i:Nat)(cf:CF)(d:Nat):Out CF:=
 if x=bX then(ic ws i).bind fun n i=>.ok { cf with ag:=cf.ag++[(n:Int)] } i
 else if x=aT then(dD ws i).bind fun p i=>(ic ws i).bind fun n i=>.ok { cf with ae:=cf.ae++[⟨p,(n:Int)⟩] } i
 else if x=aH then(ed ws i).bind fun nm i=>(bw 18446744073709551615 ws i).bind fun a i=>(bw 18446744073709551615 ws i).bind fun b i=>(bw 18446744073709551615 ws i).bind fun c i=>.ok { cf with af:=cf.af++[⟨nm,a,b,c⟩] } i
 else if x=ax then(ed ws i).bind fun nm i=>(ic ws i).bind fun a i=>(ic ws i).bind fun b i=>.ok { cf with aa:=cf.aa++[⟨nm,(a:Int),(b:Int)⟩] } i
 else if x=dB then(nu ws i).bind fun r i=>.ok { cf with rules:=cf.rules++[r] } i
 else if x=aV then(ak (decide (d=0)) 200 () i).bind fun _ i=>(ou false ws i).bind fun a i=>.ok { cf with a8:=a.1 } i
 else .no 200 i
def gy{α:Type}(ws:List Bs)(a:α)(i:Nat):Out α:=match decide (i < ws.length)with
 |true=>.no 200 (i+1)
 |false=>.ok a i
noncomputable def oR(ws:List Bs)(i:Nat)(cf:CF)(d:Nat):Out CF:=(aY ws i).bind fun x i=>(fC x ws i cf d).bind fun c i=>gy ws c i
noncomputable def eS(ws:List Bs)(cf:CF)(d:Nat):Out CF:=match ws with
 | []=>.ok cf 0
 |_=>oR ws 0 cf d
def dN(ws:List Bs)(d:Nat):Nat:=if ws[0]?=some aV then d+1 else d
def bY(cm:Bool):Bs→Bs→List Bs
 |cur,[]=>if cur=[] then [] else [cur]
 |cur,c::r=>if cm=true∧c=35 then(if cur=[] then [] else [cur])else
  if c=32∨c=9 then(if cur=[] then bY cm [] r else cur::bY cm [] r)else bY cm (cur++[c]) r
def aI(cm:Bool)(s:Bs):List Bs:=bY cm [] s
inductive OW where
 |ok (cf:CF)
 |no (code line:Nat)
noncomputable def fz:List Bs→Nat→CF→Nat→OW
 | [],_,cf,d=>.ok (if d=0 then { cf with a8:=2 }else cf)
 |l::ls,k,cf,d=>match eS (aI true l) cf d with
  |.ok c _=>fz ls (k+1) c (dN (aI true l) d)
  |.no code _=>.no code k
noncomputable def gb(s:Bs):Out Mt:=(dR (aI false s) 0).bind fun m i=>(gy (aI false s) () i).bind fun _ i=>match bj m with
  |true=>.ok m i
  |false=>.no 190 (i+1)
end Go.Proofs.YtnncigmpcdehnaaGreatDoor
