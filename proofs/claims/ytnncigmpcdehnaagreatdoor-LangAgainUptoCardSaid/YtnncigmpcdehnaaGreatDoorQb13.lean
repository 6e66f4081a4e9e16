import Derived.Test.YtnncigmpcdehnaaGreatDoorQb12
namespace Go.Proofs.YtnncigmpcdehnaaGreatDoor
set_option maxRecDepth 100000
open Go.RowKit Go.Lib Go.Sort
def NF(g:Nat)(v:Value)(cs:List Value)(r:Sx.lz)(gl:List (Nat×TypeId×List Value)):Prop:=r=.val v∧gl=[(g,154,cs)]
theorem FU(g:Nat)(A:Option Go.Addr)(n c i:Nat)(ws:List (List UInt8))(x:List UInt8)(hn:n≤1000000)(w:World)(hb:aB w g 154 (df A n c i))(hw:zw w [g] A n ws)(hx:ws[i]?=some x)(PP:List PanicEntry→World→Prop):Calls Tryz.prog 154 #[.pointer (some ⟨g,0,none⟩)] w (Sx.gv ⟨w,[g],PP⟩ (NF g (.string ⟨x.toArray⟩) (df A n c (i+1)))):=by
 have hi:i < n:=by rw[←hw.len];exact(List.getElem?_eq_some_iff.1 hx).1
 obtain⟨p,hp1,hp2⟩:=hw.at (c:=c) hx
 have c12:Value.bool ((i:Int)==(n:Int))=.bool false:=dY (by rw[beq_eq_false_iff_ne];omega)
 have c24:Value.int .i64 (IntKind.i64.wrap ((i:Int)+1))=.int .i64 ((i+1:Nat):Int):=iw (by rw[j5 (by omega) (by omega)];rfl)
 have c35:Value.int .i64 (IntKind.i64.wrap (((i+1:Nat):Int) - 1))=.int .i64 (i:Int):=iw (by rw[j5 (by omega) (by omega)]; omega)
 have c36:=fun W (_:aw [g] w W)=>hp1 W
 have c37:=hp2
 have h0:Sx.lz.val (Value.string ⟨x.toArray⟩)=.val (.string ⟨x.toArray⟩):=rfl
 have z1:[(g,154,df A n c (i+1))]=[(g,154,df A n c (i+1))]:=rfl
 refine Sx.gW (args:=[.ptr 0 0]) [(g,154,df A n c i)] (by simpa using hb) (by simp) PP [(12,.is (.bool false)),(24,.is (.int .i64 ((i+1:Nat):Int))),(35,.is (.int .i64 (i:Int))),(36,.any p),(37,.any (.string ⟨x.toArray⟩))] [] (by kernel_rfl) Tryz.func154 rfl (Nat.le_of_ble_eq_true rfl) rfl ?_
 exact Eq.mp (by kernel_rfl) (Sx.t4 c12 c24 c35 c36 (Sx.t2 c37 h0 z1))
open Go.RowKit Go.Lib Go.Sort
theorem Nw(x y:Operand)(v v':Bool)(n m:Nat)(k j:Int)(hn:n < 2^128)(hm:m < 2^128)(hk : -9223372036854775808≤k∧k≤9223372036854775807)(hj : -9223372036854775808≤j∧j≤9223372036854775807)(W:World):(do eqGuard .neq 29 x y (.agg (eM v n k).toArray) (.agg (eM v' m j).toArray); binOp .neq 29 (.agg (eM v n k).toArray) (.agg (eM v' m j).toArray):Sem Value).run Tryz.prog W=.ok (.bool (!decide (v=v'∧n=m∧k=j))) W:=by
 have h:=N9 v v' n m k j hn hm hk hj W
 rw[Sem.run_bind,JH,Result.andThen_ok]
 show(do pure (.bool (!(←Op.equal 29 (.agg (eM v n k).toArray) (.agg (eM v' m j).toArray)))):Sem Value).run Tryz.prog W=_
 rw[Sem.run_bind,show(Op.equal 29 (.agg (eM v n k).toArray) (.agg (eM v' m j).toArray)).run Tryz.prog W=_ from h]
 rfl
theorem Mj(x y:Operand)(s t:ByteArray)(W:World):(do eqGuard .neq 9 x y (.string s) (.string t);binOp .neq 9 (.string s) (.string t):Sem Value).run Tryz.prog W=.ok (.bool (!(s.toList==t.toList))) W:=rfl
theorem M7{P:Program}{s:Sem Value}{W:World}{a b:Bool}(h:s.run P W=.ok (.bool a) W)(e:a=b):s.run P W=.ok (.bool b) W:=by rw[←e];exact h
theorem rT{s:List UInt8}{v:Bool}{n:Nat}{k:Int}(h:zC s v n k)(hs:s.length≤100000000)(w:World)(HL:dG w):Calls Tryz.prog 16 #[.string ⟨s.toArray⟩] w fun e w'=>e=.returned (.tuple #[.agg (eM v n k).toArray,.int .i64 0])∧aw [] w w':=by
 refine(Fm s hs w HL).mono ?_
 rintro e w' ⟨v',n',k',er,rfl,hC,hh⟩
 rcases hh with⟨rfl,_,hu⟩ | ⟨_,_,_,_,hu⟩
 ·obtain⟨rfl,rfl,rfl⟩:=hu _ _ _ h
  exact⟨rfl,hC⟩
 ·exact absurd h (hu _ _ _)
theorem IV{s:List UInt8}(h:∀v n k,¬zC s v n k)(hs:s.length≤100000000)(w:World)(HL:dG w):Calls Tryz.prog 16 #[.string ⟨s.toArray⟩] w fun e w'=>e=.returned (.tuple #[.agg (eM false 0 0).toArray,.int .i64 151])∧aw [] w w':=by
 refine(Fm s hs w HL).mono ?_
 rintro e w' ⟨v',n',k',er,rfl,hC,hh⟩
 rcases hh with⟨rfl,hp,_⟩ | ⟨rfl,rfl,rfl,rfl,_⟩
 ·exact absurd hp (h _ _ _)
 ·exact⟨rfl,hC⟩
theorem CD{v:Bool}{n:Nat}{k:Int}(h1:k≤wid v):(oF v n k).length≤100000000:=by
 have h2:=nJ v
 have h3:=ur v n
 have h4:=gT (u:=k.toNat) (by omega)
 unfold oF
 simp only[List.length_append,List.length_cons]
 omega
set_option maxRecDepth 100000
open Go.RowKit Go.Lib Go.Sort
theorem vA(x y:Operand)(s t:List UInt8)(W:World):(do eqGuard .neq 9 x y (.string ⟨s.toArray⟩) (.string ⟨t.toArray⟩);binOp .neq 9 (.string ⟨s.toArray⟩) (.string ⟨t.toArray⟩):Sem Value).run Tryz.prog W=.ok (.bool (decide (s≠t))) W:=by
 refine M7 (Mj x y _ _ W) ?_
 have e:∀l:List UInt8,(⟨l.toArray⟩:ByteArray).toList=l:=fun l=>by simp
 rw[e,e]
 by_cases h:s=t<;>simp[h]
theorem EG(g:Nat)(A:Option Go.Addr)(n c:Nat)(s:List UInt8)(w:World)(hb:aB w g 154 (df A n c n))(PP:List PanicEntry→World→Prop):Calls Tryz.prog 152 #[.pointer (some ⟨g,0,none⟩),.string ⟨s.toArray⟩] w (Sx.gv ⟨w,[g],PP⟩ (NF g (.bool false) (df A n c n))):=by
 have c14:Value.bool ((n:Int)==(n:Int))=.bool true:=dQ (by simp)
 have h0:Sx.lz.val (Value.bool false)=.val (.bool false):=rfl
 have z1:[(g,154,df A n c n)]=[(g,154,df A n c n)]:=rfl
 refine Sx.gW (args:=[.ptr 0 0,.val (.string ⟨s.toArray⟩)]) [(g,154,df A n c n)] (by simpa using hb) (by simp) PP [(14,.is (.bool true))] [] (by kernel_rfl) Tryz.func152 rfl (Nat.le_of_ble_eq_true rfl) rfl ?_
 exact Eq.mp (by kernel_rfl) (Sx.t2 c14 h0 z1)
theorem Iz(g:Nat)(A:Option Go.Addr)(n c i:Nat)(ws:List (List UInt8))(x s:List UInt8)(hn:n≤1000000)(w:World)(hb:aB w g 154 (df A n c i))(hw:zw w [g] A n ws)(hx:ws[i]?=some x)(hs:x≠s)(PP:List PanicEntry→World→Prop):Calls Tryz.prog 152 #[.pointer (some ⟨g,0,none⟩),.string ⟨s.toArray⟩] w (Sx.gv ⟨w,[g],PP⟩ (NF g (.bool false) (df A n c (i)))):=by
 have hi:i < n:=by rw[←hw.len];exact(List.getElem?_eq_some_iff.1 hx).1
 obtain⟨p,hp1,hp2⟩:=hw.at (c:=c) hx
 have c14:Value.bool ((i:Int)==(n:Int))=.bool false:=dY (by rw[beq_eq_false_iff_ne];omega)
 have c24:=fun W (_:aw [g] w W)=>hp1 W
 have c25:=hp2
 have c27:=fun W=>(vA (.tmp 25) (.tmp 26) x s W).trans (by rw[decide_eq_true hs])
 have c33:Value.int .i64 (IntKind.i64.wrap ((i:Int)+1))=.int .i64 ((i+1:Nat):Int):=iw (by rw[j5 (by omega) (by omega)];rfl)
 have h0:Sx.lz.val (Value.bool false)=.val (.bool false):=rfl
 have z1:[(g,154,df A n c (i))]=[(g,154,df A n c (i))]:=rfl
 refine Sx.gW (args:=[.ptr 0 0,.val (.string ⟨s.toArray⟩)]) [(g,154,df A n c i)] (by simpa using hb) (by simp) PP [(14,.is (.bool false)),(24,.any p),(25,.any (.string ⟨x.toArray⟩)),(27,.bin (.bool true)),(33,.is (.int .i64 ((i+1:Nat):Int)))] [] (by kernel_rfl) Tryz.func152 rfl (Nat.le_of_ble_eq_true rfl) rfl ?_
 exact Eq.mp (by kernel_rfl) (Sx.t4 c14 c24 c25 c27 (And.intro h0 z1))
theorem EF(g:Nat)(A:Option Go.Addr)(n c i:Nat)(ws:List (List UInt8))(x s:List UInt8)(hn:n≤1000000)(w:World)(hb:aB w g 154 (df A n c i))(hw:zw w [g] A n ws)(hx:ws[i]?=some x)(hs:x=s)(PP:List PanicEntry→World→Prop):Calls Tryz.prog 152 #[.pointer (some ⟨g,0,none⟩),.string ⟨s.toArray⟩] w (Sx.gv ⟨w,[g],PP⟩ (NF g (.bool true) (df A n c (i+1)))):=by
 have hi:i < n:=by rw[←hw.len];exact(List.getElem?_eq_some_iff.1 hx).1
 obtain⟨p,hp1,hp2⟩:=hw.at (c:=c) hx
 have c14:Value.bool ((i:Int)==(n:Int))=.bool false:=dY (by rw[beq_eq_false_iff_ne];omega)
 have c24:=fun W (_:aw [g] w W)=>hp1 W
 have c25:=hp2
 have c27:=fun W=>(vA (.tmp 25) (.tmp 26) x s W).trans (by rw[decide_eq_false (fun h=>h hs)])
 have c33:Value.int .i64 (IntKind.i64.wrap ((i:Int)+1))=.int .i64 ((i+1:Nat):Int):=iw (by rw[j5 (by omega) (by omega)];rfl)
 have h0:Sx.lz.val (Value.bool true)=.val (.bool true):=rfl
 have z1:[(g,154,df A n c (i+1))]=[(g,154,df A n c (i+1))]:=rfl
 refine Sx.gW (args:=[.ptr 0 0,.val (.string ⟨s.toArray⟩)]) [(g,154,df A n c i)] (by simpa using hb) (by simp) PP [(14,.is (.bool false)),(24,.any p),(25,.any (.string ⟨x.toArray⟩)),(27,.bin (.bool false)),(33,.is (.int .i64 ((i+1:Nat):Int)))] [] (by kernel_rfl) Tryz.func152 rfl (Nat.le_of_ble_eq_true rfl) rfl ?_
 exact Eq.mp (by kernel_rfl) (Sx.t4 c14 c24 c25 c27 (Sx.t2 c33 h0 z1))
open Go.RowKit Go.Lib Go.Sort
theorem oS:∀(l:List UInt8) (acc:Nat),(∀c∈l,∃d,d < 10∧c=sig d)→l.foldl (fun a c=>10*a+rm c) acc < 18446744073709551616→Lib.parseUint10 acc l=.ok (l.foldl (fun a c=>10*a+rm c) acc)
 | [],acc,_,_=>rfl
 |c::l,acc,h,hn=>by
  obtain⟨d,hd,rfl⟩:=h c (by simp)
  have h1:=gY (d:=d) (by omega)
  rw[if_pos hd]at h1
  rw[List.foldl_cons]at hn ⊢
  have h2:=wE (b:=10) (by omega) l (10*acc+rm (sig d))
  have h3:rm (sig d)=d:=po (by omega)
  unfold Lib.parseUint10
  rw[if_pos (by omega),if_neg (by omega),if_neg (by omega)]
  rw[show acc*10+((sig d).toNat - 48)=10*acc+rm (sig d)by omega]
  exact oS l _ (fun c hc=>h c (by simp[hc])) hn
theorem xO(n:Nat)(hn:n < 18446744073709551616):Lib.parseUint10 0 (az 10 n)=.ok n:=by
 have hv:(az 10 n).foldl (fun a c=>10*a+rm c) 0=n:=iY (b:=10) (by omega) (by omega) n
 rw[oS (az 10 n) 0 (kq (by omega) n) (by rw[hv];exact hn),hv]
theorem Ci(n:Nat)(hn:n < 18446744073709551616)(w:World)(hl:dG w):Calls Tryz.prog 73 #[.int .u64 n,.int .i64 10] w fun e w'=>e=.returned (.string ⟨(az 10 n).toArray⟩)∧aw [] w w':=by
 have H:Calls Tryz.prog 143 #[.int .u64 n,.int .i64 10] w fun e w'=>e=.returned (.string ⟨(az 10 n).toArray⟩)∧aw [] w w':=by
  by_cases h:n < 100
  ·exact xx n h w
  ·exact Hm n (by omega) hn w hl
 go_enter Tryz.func73,Tryz.ntmps73
 go_wp2_with (go_at_call 143;refine H.mono ?_;rintro e w2 ⟨rfl,C2⟩)
 go_ret
 exact⟨rfl,C2⟩
open Go.RowKit Go.Lib Go.Sort
abbrev Bs:=List UInt8
inductive Out (α:Type) where
 |ok (a:α) (i:Nat)
 |no (code:Nat) (place:Nat)
def Out.bind{α β:Type}(r:Out α)(f:α→Nat→Out β):Out β:=match r with
 |.ok a i=>f a i
 |.no c p=>.no c p
def Out.okB{α:Type}:Out α→Bool
 |.ok _ _=>true
 |.no _ _=>false
def Out.val{α:Type} [Inhabited α]:Out α→α
 |.ok a _=>a
 |.no _ _=>default
def Out.pos{α:Type}:Out α→Nat
 |.ok _ i=>i
 |.no _ p=>p
theorem Out.BP{α:Type} [Inhabited α]{r:Out α}(h:r.okB=true):r=.ok r.val r.pos:=by
 cases r with
 |ok a i=>rfl
 |no c p=>cases h
def k8:Bs:=[97,110,121]
def lr:Bs:=[105,110]
def fG:Bs:=[115,114,99]
def gB:Bs:=[100,115,116]
def dC:Bs:=[112,114,111,116,111]
def eQ:Bs:=[115,112,111,114,116]
def gr:Bs:=[100,112,111,114,116]
def oZ:Bs:=[116,99,112]
def p9:Bs:=[117,100,112]
def aJ:Bs:=[114,111,117,116,101]
def cW:Bs:=[100,114,111,112]
def bn:Bs:=[114,101,106,101,99,116]
def ek:Bs:=[111,117,116]
def oD:Bs:=[45,62]
def ak:Bs:=[109,101,116,101,114]
def ae:Bs:=[109,105,114,114,111,114]
def b8:Bs:=[112,111,114,116]
def dM:Bs:=[114,117,108,101]
def av:Bs:=[100,101,102,97,117,108,116]
structure Px where
 v:Bool
 n:Nat
 k:Int
def oB:Px:=⟨false,0,0⟩
instance:Inhabited Px:=⟨oB⟩
def Px.cells(p:Px):List Value:=eM p.v p.n p.k
noncomputable def pI(s:Bs):Option Px:=by
 classical
 exact if h:∃p:Px,zC s p.v p.n p.k then some h.choose else none
def gp(s:Bs):Nat:=s.foldl (fun a c=>10*a+rm c) 0
def cP(most:Nat)(s:Bs):Bool:=decide (gp s≤most)&&decide (az 10 (gp s)=s)
def bj(ws:List Bs)(i:Nat):Out Bs:=match ws[i]? with
 |some x=>.ok x (i+1)
 |none=>.no 200 (i+1)
def cM(ws:List Bs)(i:Nat)(s:Bs):Out Bool:=if ws[i]?=some s then .ok true (i+1)else .ok false i
def ax{α:Type}(b:Bool)(code:Nat)(a:α)(i:Nat):Out α:=match b with
 |true=>.ok a i
 |false=>.no code i
def bF(most:Nat)(ws:List Bs)(i:Nat):Out Nat:=(bj ws i).bind fun x j=>ax (cP most x) 200 (gp x) j
def gQ(ws:List Bs)(i:Nat):Out Nat:=bF 9223372036854775807 ws i
def eh(ws:List Bs)(i:Nat):Out Bs:=(bj ws i).bind fun x j=>ax (aM x) 201 x j
noncomputable def dA(ws:List Bs)(i:Nat):Out Px:=(bj ws i).bind fun x j=>ax (pI x).isSome 151 ((pI x).getD oB) j
def eV(x:Bs):Bs×Bs:=match(Lib.cut x [45]).2.2 with
 |true=>((Lib.cut x [45]).1,(Lib.cut x [45]).2.1)
 |false=>((Lib.cut x [45]).1,(Lib.cut x [45]).1)
def iH(ws:List Bs)(i:Nat):Out (Nat×Nat):=(bj ws i).bind fun x j=>ax (cP 65535 (eV x).1&&cP 65535 (eV x).2) 200 (gp (eV x).1,gp (eV x).2) j
def eg(ws:List Bs)(i:Nat):Out Nat:=(cM ws i oZ).bind fun a j=>match a with
 |true=>.ok 6 j
 |false=>(cM ws j p9).bind fun b k=>match b with
  |true=>.ok 17 k
  |false=>bF 255 ws k
structure Mt where
 asks:Nat
 gf:Nat×Nat
 src:Px
 dst:Px
 bV:Nat
 sp:Nat×Nat
 dp:Nat×Nat
def kZ:Mt:=⟨0,(0,0),oB,oB,0,(0,0),(0,0)⟩
instance:Inhabited Mt:=⟨kZ⟩
def Mt.cells(m:Mt):List Value:=
 [.int .u8 (m.asks:Int),.int .u16 (m.gf.1:Int),.int .u16 (m.gf.2:Int)]++(m.src.cells++(m.dst.cells++[.int .u8 (m.bV:Int),.int .u16 (m.sp.1:Int),.int .u16 (m.sp.2:Int),.int .u16 (m.dp.1:Int),.int .u16 (m.dp.2:Int)]))
def s6(x:Bs):Option Nat:=
 if x=lr then some 0 else if x=fG then some 1 else if x=gB then some 2 else if x=dC then some 3 else if x=eQ then some 4 else if x=gr then some 5 else none
noncomputable def bA(k:Nat)(m:Mt)(ws:List Bs)(i:Nat):Out Mt:=match k with
 | 0=>(iH ws i).bind fun s j=>.ok { m with gf:=s } j
 | 1=>(dA ws i).bind fun s j=>.ok { m with src:=s } j
 | 2=>(dA ws i).bind fun s j=>.ok { m with dst:=s } j
 | 3=>(eg ws i).bind fun s j=>.ok { m with bV:=s } j
 | 4=>(iH ws i).bind fun s j=>.ok { m with sp:=s } j
 |_=>(iH ws i).bind fun s j=>.ok { m with dp:=s } j
noncomputable def bB(ws:List Bs)(i:Nat)(m:Mt):Out (Bool×Mt):=match ws[i]? with
 |none=>.ok (false,m) i
 |some x=>match s6 x with
  |none=>.ok (false,m) i
  |some k=>match m.asks.testBit k with
   |true=>.no 200 (i+1)
   |false=>(bA k { m with asks:=m.asks|||2^k } ws (i+1)).bind fun m' j=>.ok (true,m') j
noncomputable def ey(ws:List Bs):Nat→Nat→Mt→Out Mt
 | 0,i,m=>.ok m i
 |f+1,i,m=>(bB ws i m).bind fun r j=>match r.1 with
  |true=>ey ws f j r.2
  |false=>.ok m j
noncomputable def fF(ws:List Bs)(i:Nat):Out Mt:=(cM ws i k8).bind fun a j=>match a with
 |true=>.ok kZ j
 |false=>(bB ws j kZ).bind fun r k=>match r.1 with
  |true=>ey ws (ws.length+1 - k) k r.2
  |false=>(bj ws k).bind fun _ l=>.no 200 l
def np(out:Bool)(ws:List Bs)(i:Nat):Out (Int×Int):=(bj ws i).bind fun x j=>
 if x=aJ then .ok (1,0) j else if x=cW then .ok (2,0) j else if x=bn then .ok (4,0) j else
 if x=ek∧out=true then(gQ ws j).bind fun n k=>.ok (3,(n:Int)) k else .no 200 j
def gi(s:Nat×Nat):Bool:=decide (s=(0,0))
def zA(p:Px):Bool:=decide (p.v=false∧p.n=0∧p.k=0)
def bL(m:Mt):Bool:=
 (decide (m.asks < 64)&&((m.asks.testBit 0||gi m.gf)&&((m.asks.testBit 1||zA m.src)&&((m.asks.testBit 2||zA m.dst)&&((m.asks.testBit 3||decide (m.bV=0))&&((m.asks.testBit 4||gi m.sp)&&(m.asks.testBit 5||gi m.dp)))))))&&
 ((decide (m.gf.1≤m.gf.2)&&(decide (m.gf.2≤255)&&(decide (m.sp.1≤m.sp.2)&&decide (m.dp.1≤m.dp.2))))&&
 (((!m.asks.testBit 1||gg m.src.v m.src.n m.src.k)&&((!m.asks.testBit 2||gg m.dst.v m.dst.n m.dst.k)&&(!(m.asks.testBit 1&&m.asks.testBit 2)||decide (m.src.v=m.dst.v))))&&
 (!(m.asks.testBit 4||m.asks.testBit 5)||(decide (m.bV=6)||decide (m.bV=17)))))
structure Rl where
 name:Bs
 mt:Mt
 act:Int
 out:Int
 aq:Bs
 ai:Bs
def MX:Rl:=⟨[],kZ,0,0,[],[]⟩
instance:Inhabited Rl:=⟨MX⟩
def Rl.cells(r:Rl):List Value:=.string ⟨r.name.toArray⟩::(r.mt.cells++[.int .i64 r.act,.int .i64 r.out,.string ⟨r.aq.toArray⟩,.string ⟨r.ai.toArray⟩])
def jh(s:Bs)(ws:List Bs)(i:Nat):Out Bs:=(cM ws i s).bind fun b j=>match b with
 |true=>eh ws j
 |false=>.ok [] j
def F0(m:Mt)(ws:List Bs)(i:Nat):Out Unit:=(bj ws i).bind fun x i=>(ax (decide (x=oD)) 200 () i).bind fun _ i=>ax (bL m) 190 () i
noncomputable def lM(ws:List Bs)(i:Nat):Out Rl:=(eh ws i).bind fun nm i=>(fF ws i).bind fun m i=>(F0 m ws i).bind fun _ i=>(np true ws i).bind fun a i=>
 (jh ak ws i).bind fun me i=>(jh ae ws i).bind fun mi i=>.ok ⟨nm,m,a.1,a.2,me,mi⟩ i
structure Rt where
 pf:Px
 out:Int
instance:Inhabited Rt:=⟨⟨oB,0⟩⟩
def Rt.cells(r:Rt):List Value:=r.pf.cells++[.int .i64 r.out]
structure Me where
 name:Bs
 num:Nat
 den:Nat
 nF:Nat
instance:Inhabited Me:=⟨⟨[],0,0,0⟩⟩
def Me.cells(m:Me):List Value:=[.string ⟨m.name.toArray⟩,.int .u64 (m.num:Int),.int .u64 (m.den:Int),.int .u64 (m.nF:Int)]
structure Mi where
 name:Bs
 out:Int
 room:Int
instance:Inhabited Mi:=⟨⟨[],0,0⟩⟩
def Mi.cells(m:Mi):List Value:=[.string ⟨m.name.toArray⟩,.int .i64 m.out,.int .i64 m.room]
structure CF where
 ao:List Int
 ah:List Rt
 rules:List Rl
 aj:List Me
 ab:List Mi
 aL:Int
def wS:CF:=⟨[],[],[],[],[],0⟩
instance:Inhabited CF:=⟨wS⟩
noncomputable def ft(x:Bs)(ws:List Bs)(i:Nat)(cf:CF)(d:Nat):Out CF:=
 if x=b8 then(gQ ws i).bind fun n i=>.ok { cf with ao:=cf.ao++[(n:Int)] } i
 else if x=aJ then(dA ws i).bind fun p i=>(gQ ws i).bind fun n i=>.ok { cf with ah:=cf.ah++[⟨p,(n:Int)⟩] } i
 else if x=ak then(eh ws i).bind fun nm i=>(bF 18446744073709551615 ws i).bind fun a i=>(bF 18446744073709551615 ws i).bind fun b i=>(bF 18446744073709551615 ws i).bind fun c i=>.ok { cf with aj:=cf.aj++[⟨nm,a,b,c⟩] } i
 else if x=ae then(eh ws i).bind fun nm i=>(gQ ws i).bind fun a i=>(gQ ws i).bind fun b i=>.ok { cf with ab:=cf.ab++[⟨nm,(a:Int),(b:Int)⟩] } i
 else if x=dM then(lM ws i).bind fun r i=>.ok { cf with rules:=cf.rules++[r] } i
 else if x=av then(ax (decide (d=0)) 200 () i).bind fun _ i=>(np false ws i).bind fun a i=>.ok { cf with aL:=a.1 } i
 else .no 200 i
def gR{α:Type}(ws:List Bs)(a:α)(i:Nat):Out α:=match decide (i < ws.length)with
 |true=>.no 200 (i+1)
 |false=>.ok a i
noncomputable def o6(ws:List Bs)(i:Nat)(cf:CF)(d:Nat):Out CF:=(bj ws i).bind fun x i=>(ft x ws i cf d).bind fun c i=>gR ws c i
noncomputable def dE(ws:List Bs)(cf:CF)(d:Nat):Out CF:=match ws with
 | []=>.ok cf 0
 |_=>o6 ws 0 cf d
def dN(ws:List Bs)(d:Nat):Nat:=if ws[0]?=some av then d+1 else d
def b9(cm:Bool):Bs→Bs→List Bs
 |cur,[]=>if cur=[] then [] else [cur]
 |cur,c::r=>if cm=true∧c=35 then(if cur=[] then [] else [cur])else
  if c=32∨c=9 then(if cur=[] then b9 cm [] r else cur::b9 cm [] r)else b9 cm (cur++[c]) r
def aS(cm:Bool)(s:Bs):List Bs:=b9 cm [] s
inductive NC where
 |ok (cf:CF)
 |no (code line:Nat)
noncomputable def dy:List Bs→Nat→CF→Nat→NC
 | [],_,cf,d=>.ok (if d=0 then { cf with aL:=2 }else cf)
 |l::ls,k,cf,d=>match dE (aS true l) cf d with
  |.ok c _=>dy ls (k+1) c (dN (aS true l) d)
  |.no code _=>.no code k
end Go.Proofs.YtnncigmpcdehnaaGreatDoor
