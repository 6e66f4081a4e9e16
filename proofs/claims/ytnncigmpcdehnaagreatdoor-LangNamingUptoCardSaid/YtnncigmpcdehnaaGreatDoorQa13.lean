import Derived.Test.YtnncigmpcdehnaaGreatDoorQa12
namespace Go.Proofs.YtnncigmpcdehnaaGreatDoor
set_option maxRecDepth 100000
open Go.RowKit Go.Lib Go.Sort
def GvR(g:Nat)(v:Value)(cs:List Value)(r:Sx.Ret)(gl:List (Nat×TypeId×List Value)):Prop:=r=.val v∧gl=[(g,154,cs)]
theorem next_yes(g:Nat)(A:Option Go.Addr)(n c i:Nat)(ws:List (List UInt8))(x:List UInt8)(hn:n≤1000000)(w:World)(hb:Blk w g 154 (lnC A n c i))(hw:Wds w [g] A n ws)(hx:ws[i]?=some x)(PP:List PanicEntry→World→Prop):Calls Tryz.prog 154 #[.pointer (some ⟨g,0,none⟩)] w (Sx.givPost ⟨w,[g],PP⟩ (GvR g (.string ⟨x.toArray⟩) (lnC A n c (i+1)))):=by
 have hi:i < n:=by rw[←hw.len];exact(List.getElem?_eq_some_iff.1 hx).1
 obtain⟨p,hp1,hp2⟩:=hw.at (c:=c) hx
 have c12:Value.bool ((i:Int)==(n:Int))=.bool false:=bzf (by rw[beq_eq_false_iff_ne];omega)
 have c24:Value.int .i64 (IntKind.i64.wrap ((i:Int)+1))=.int .i64 ((i+1:Nat):Int):=iw (by rw[w64 (by omega) (by omega)];rfl)
 have c35:Value.int .i64 (IntKind.i64.wrap (((i+1:Nat):Int) - 1))=.int .i64 (i:Int):=iw (by rw[w64 (by omega) (by omega)]; omega)
 have c36:=fun W (_:Chg [g] w W)=>hp1 W
 have c37:=hp2
 have h0:Sx.Ret.val (Value.string ⟨x.toArray⟩)=.val (.string ⟨x.toArray⟩):=rfl
 have z1:[(g,154,lnC A n c (i+1))]=[(g,154,lnC A n c (i+1))]:=rfl
 refine Sx.calls_giv (args:=[.ptr 0 0]) [(g,154,lnC A n c i)] (by simpa using hb) (by simp) PP [(12,.is (.bool false)),(24,.is (.int .i64 ((i+1:Nat):Int))),(35,.is (.int .i64 (i:Int))),(36,.any p),(37,.any (.string ⟨x.toArray⟩))] [] (by kernel_rfl) Tryz.func154 rfl (Nat.le_of_ble_eq_true rfl) rfl ?_
 exact Eq.mp (by kernel_rfl) (Sx.t4 c12 c24 c35 c36 (Sx.t2 c37 h0 z1))
open Go.RowKit Go.Lib Go.Sort
theorem bin29(x y:Operand)(v v':Bool)(n m:Nat)(k j:Int)(hn:n < 2^128)(hm:m < 2^128)(hk : -9223372036854775808≤k∧k≤9223372036854775807)(hj : -9223372036854775808≤j∧j≤9223372036854775807)(W:World):(do eqGuard .neq 29 x y (.agg (pfx v n k).toArray) (.agg (pfx v' m j).toArray); binOp .neq 29 (.agg (pfx v n k).toArray) (.agg (pfx v' m j).toArray):Sem Value).run Tryz.prog W=.ok (.bool (!decide (v=v'∧n=m∧k=j))) W:=by
 have h:=eq29 v v' n m k j hn hm hk hj W
 rw[Sem.run_bind,guard29,Result.andThen_ok]
 show(do pure (.bool (!(←Op.equal 29 (.agg (pfx v n k).toArray) (.agg (pfx v' m j).toArray)))):Sem Value).run Tryz.prog W=_
 rw[Sem.run_bind,show(Op.equal 29 (.agg (pfx v n k).toArray) (.agg (pfx v' m j).toArray)).run Tryz.prog W=_ from h]
 rfl
theorem binStr(x y:Operand)(s t:ByteArray)(W:World):(do eqGuard .neq 9 x y (.string s) (.string t);binOp .neq 9 (.string s) (.string t):Sem Value).run Tryz.prog W=.ok (.bool (!(s.toList==t.toList))) W:=rfl
theorem okBin{P:Program}{s:Sem Value}{W:World}{a b:Bool}(h:s.run P W=.ok (.bool a) W)(e:a=b):s.run P W=.ok (.bool b) W:=by rw[←e];exact h
theorem read_is'{s:List UInt8}{v:Bool}{n:Nat}{k:Int}(h:IsP s v n k)(hs:s.length≤100000000)(w:World)(HL:Lan w):Calls Tryz.prog 16 #[.string ⟨s.toArray⟩] w fun e w'=>e=.returned (.tuple #[.agg (pfx v n k).toArray,.int .i64 0])∧Chg [] w w':=by
 refine(read_N s hs w HL).mono ?_
 rintro e w' ⟨v',n',k',er,rfl,hC,hh⟩
 rcases hh with⟨rfl,_,hu⟩ | ⟨_,_,_,_,hu⟩
 ·obtain⟨rfl,rfl,rfl⟩:=hu _ _ _ h
  exact⟨rfl,hC⟩
 ·exact absurd h (hu _ _ _)
theorem read_no{s:List UInt8}(h:∀v n k,¬IsP s v n k)(hs:s.length≤100000000)(w:World)(HL:Lan w):Calls Tryz.prog 16 #[.string ⟨s.toArray⟩] w fun e w'=>e=.returned (.tuple #[.agg (pfx false 0 0).toArray,.int .i64 151])∧Chg [] w w':=by
 refine(read_N s hs w HL).mono ?_
 rintro e w' ⟨v',n',k',er,rfl,hC,hh⟩
 rcases hh with⟨rfl,hp,_⟩ | ⟨rfl,rfl,rfl,rfl,_⟩
 ·exact absurd hp (h _ _ _)
 ·exact⟨rfl,hC⟩
theorem textP_len{v:Bool}{n:Nat}{k:Int}(h1:k≤wid v):(textP v n k).length≤100000000:=by
 have h2:=wid_le v
 have h3:=textA_len v n
 have h4:=digs10_len (u:=k.toNat) (by omega)
 unfold textP
 simp only[List.length_append,List.length_cons]
 omega
set_option maxRecDepth 100000
open Go.RowKit Go.Lib Go.Sort
theorem str_neq(x y:Operand)(s t:List UInt8)(W:World):(do eqGuard .neq 9 x y (.string ⟨s.toArray⟩) (.string ⟨t.toArray⟩);binOp .neq 9 (.string ⟨s.toArray⟩) (.string ⟨t.toArray⟩):Sem Value).run Tryz.prog W=.ok (.bool (decide (s≠t))) W:=by
 refine okBin (binStr x y _ _ W) ?_
 have e:∀l:List UInt8,(⟨l.toArray⟩:ByteArray).toList=l:=fun l=>by simp
 rw[e,e]
 by_cases h:s=t<;>simp[h]
theorem took_end(g:Nat)(A:Option Go.Addr)(n c:Nat)(s:List UInt8)(w:World)(hb:Blk w g 154 (lnC A n c n))(PP:List PanicEntry→World→Prop):Calls Tryz.prog 152 #[.pointer (some ⟨g,0,none⟩),.string ⟨s.toArray⟩] w (Sx.givPost ⟨w,[g],PP⟩ (GvR g (.bool false) (lnC A n c n))):=by
 have c14:Value.bool ((n:Int)==(n:Int))=.bool true:=bzt (by simp)
 have h0:Sx.Ret.val (Value.bool false)=.val (.bool false):=rfl
 have z1:[(g,154,lnC A n c n)]=[(g,154,lnC A n c n)]:=rfl
 refine Sx.calls_giv (args:=[.ptr 0 0,.val (.string ⟨s.toArray⟩)]) [(g,154,lnC A n c n)] (by simpa using hb) (by simp) PP [(14,.is (.bool true))] [] (by kernel_rfl) Tryz.func152 rfl (Nat.le_of_ble_eq_true rfl) rfl ?_
 exact Eq.mp (by kernel_rfl) (Sx.t2 c14 h0 z1)
theorem took_no(g:Nat)(A:Option Go.Addr)(n c i:Nat)(ws:List (List UInt8))(x s:List UInt8)(hn:n≤1000000)(w:World)(hb:Blk w g 154 (lnC A n c i))(hw:Wds w [g] A n ws)(hx:ws[i]?=some x)(hs:x≠s)(PP:List PanicEntry→World→Prop):Calls Tryz.prog 152 #[.pointer (some ⟨g,0,none⟩),.string ⟨s.toArray⟩] w (Sx.givPost ⟨w,[g],PP⟩ (GvR g (.bool false) (lnC A n c (i)))):=by
 have hi:i < n:=by rw[←hw.len];exact(List.getElem?_eq_some_iff.1 hx).1
 obtain⟨p,hp1,hp2⟩:=hw.at (c:=c) hx
 have c14:Value.bool ((i:Int)==(n:Int))=.bool false:=bzf (by rw[beq_eq_false_iff_ne];omega)
 have c24:=fun W (_:Chg [g] w W)=>hp1 W
 have c25:=hp2
 have c27:=fun W=>(str_neq (.tmp 25) (.tmp 26) x s W).trans (by rw[decide_eq_true hs])
 have c33:Value.int .i64 (IntKind.i64.wrap ((i:Int)+1))=.int .i64 ((i+1:Nat):Int):=iw (by rw[w64 (by omega) (by omega)];rfl)
 have h0:Sx.Ret.val (Value.bool false)=.val (.bool false):=rfl
 have z1:[(g,154,lnC A n c (i))]=[(g,154,lnC A n c (i))]:=rfl
 refine Sx.calls_giv (args:=[.ptr 0 0,.val (.string ⟨s.toArray⟩)]) [(g,154,lnC A n c i)] (by simpa using hb) (by simp) PP [(14,.is (.bool false)),(24,.any p),(25,.any (.string ⟨x.toArray⟩)),(27,.bin (.bool true)),(33,.is (.int .i64 ((i+1:Nat):Int)))] [] (by kernel_rfl) Tryz.func152 rfl (Nat.le_of_ble_eq_true rfl) rfl ?_
 exact Eq.mp (by kernel_rfl) (Sx.t4 c14 c24 c25 c27 (And.intro h0 z1))
theorem took_yes(g:Nat)(A:Option Go.Addr)(n c i:Nat)(ws:List (List UInt8))(x s:List UInt8)(hn:n≤1000000)(w:World)(hb:Blk w g 154 (lnC A n c i))(hw:Wds w [g] A n ws)(hx:ws[i]?=some x)(hs:x=s)(PP:List PanicEntry→World→Prop):Calls Tryz.prog 152 #[.pointer (some ⟨g,0,none⟩),.string ⟨s.toArray⟩] w (Sx.givPost ⟨w,[g],PP⟩ (GvR g (.bool true) (lnC A n c (i+1)))):=by
 have hi:i < n:=by rw[←hw.len];exact(List.getElem?_eq_some_iff.1 hx).1
 obtain⟨p,hp1,hp2⟩:=hw.at (c:=c) hx
 have c14:Value.bool ((i:Int)==(n:Int))=.bool false:=bzf (by rw[beq_eq_false_iff_ne];omega)
 have c24:=fun W (_:Chg [g] w W)=>hp1 W
 have c25:=hp2
 have c27:=fun W=>(str_neq (.tmp 25) (.tmp 26) x s W).trans (by rw[decide_eq_false (fun h=>h hs)])
 have c33:Value.int .i64 (IntKind.i64.wrap ((i:Int)+1))=.int .i64 ((i+1:Nat):Int):=iw (by rw[w64 (by omega) (by omega)];rfl)
 have h0:Sx.Ret.val (Value.bool true)=.val (.bool true):=rfl
 have z1:[(g,154,lnC A n c (i+1))]=[(g,154,lnC A n c (i+1))]:=rfl
 refine Sx.calls_giv (args:=[.ptr 0 0,.val (.string ⟨s.toArray⟩)]) [(g,154,lnC A n c i)] (by simpa using hb) (by simp) PP [(14,.is (.bool false)),(24,.any p),(25,.any (.string ⟨x.toArray⟩)),(27,.bin (.bool false)),(33,.is (.int .i64 ((i+1:Nat):Int)))] [] (by kernel_rfl) Tryz.func152 rfl (Nat.le_of_ble_eq_true rfl) rfl ?_
 exact Eq.mp (by kernel_rfl) (Sx.t4 c14 c24 c25 c27 (Sx.t2 c33 h0 z1))
open Go.RowKit Go.Lib Go.Sort
theorem parse64_digs:∀(l:List UInt8) (acc:Nat),(∀c∈l,∃d,d < 10∧c=sig d)→l.foldl (fun a c=>10*a+dig c) acc < 18446744073709551616→Lib.parseUint10 acc l=.ok (l.foldl (fun a c=>10*a+dig c) acc)
 | [],acc,_,_=>rfl
 |c::l,acc,h,hn=>by
  obtain⟨d,hd,rfl⟩:=h c (by simp)
  have h1:=sig_num (d:=d) (by omega)
  rw[if_pos hd]at h1
  rw[List.foldl_cons]at hn ⊢
  have h2:=fold_ge (b:=10) (by omega) l (10*acc+dig (sig d))
  have h3:dig (sig d)=d:=dig_sig (by omega)
  unfold Lib.parseUint10
  rw[if_pos (by omega),if_neg (by omega),if_neg (by omega)]
  rw[show acc*10+((sig d).toNat - 48)=10*acc+dig (sig d)by omega]
  exact parse64_digs l _ (fun c hc=>h c (by simp[hc])) hn
theorem parse64_num(n:Nat)(hn:n < 18446744073709551616):Lib.parseUint10 0 (digs 10 n)=.ok n:=by
 have hv:(digs 10 n).foldl (fun a c=>10*a+dig c) 0=n:=val_digs (b:=10) (by omega) (by omega) n
 rw[parse64_digs (digs 10 n) 0 (digs_mem (by omega) n) (by rw[hv];exact hn),hv]
theorem fmt64(n:Nat)(hn:n < 18446744073709551616)(w:World)(hl:Lan w):Calls Tryz.prog 73 #[.int .u64 n,.int .i64 10] w fun e w'=>e=.returned (.string ⟨(digs 10 n).toArray⟩)∧Chg [] w w':=by
 have H:Calls Tryz.prog 143 #[.int .u64 n,.int .i64 10] w fun e w'=>e=.returned (.string ⟨(digs 10 n).toArray⟩)∧Chg [] w w':=by
  by_cases h:n < 100
  ·exact small_10 n h w
  ·exact big_10 n (by omega) hn w hl
 go_enter Tryz.func73,Tryz.ntmps73
 go_wp2_with (go_at_call 143;refine H.mono ?_;rintro e w2 ⟨rfl,C2⟩)
 go_ret
 exact⟨rfl,C2⟩
open Go.RowKit Go.Lib Go.Sort
abbrev Bs:=List UInt8
inductive Out (α:Type) where
 |ok (a:α) (i:Nat)
 |no (code:Nat) (place:Nat)
def Out.bind{α β:Type}(r:Out α)(f:α→Nat→Out β):Out β:=match r with
 |.ok a i=>f a i
 |.no c p=>.no c p
def Out.okB{α:Type}:Out α→Bool
 |.ok _ _=>true
 |.no _ _=>false
def Out.val{α:Type} [Inhabited α]:Out α→α
 |.ok a _=>a
 |.no _ _=>default
def Out.pos{α:Type}:Out α→Nat
 |.ok _ i=>i
 |.no _ p=>p
theorem Out.of_ok{α:Type} [Inhabited α]{r:Out α}(h:r.okB=true):r=.ok r.val r.pos:=by
 cases r with
 |ok a i=>rfl
 |no c p=>cases h
def kAny:Bs:=[97,110,121]
def kIn:Bs:=[105,110]
def kSrc:Bs:=[115,114,99]
def kDst:Bs:=[100,115,116]
def kProto:Bs:=[112,114,111,116,111]
def kSport:Bs:=[115,112,111,114,116]
def kDport:Bs:=[100,112,111,114,116]
def kTcp:Bs:=[116,99,112]
def kUdp:Bs:=[117,100,112]
def kRoute:Bs:=[114,111,117,116,101]
def kDrop:Bs:=[100,114,111,112]
def kReject:Bs:=[114,101,106,101,99,116]
def kOut:Bs:=[111,117,116]
def kTo:Bs:=[45,62]
def kMeter:Bs:=[109,101,116,101,114]
def kMirror:Bs:=[109,105,114,114,111,114]
def kPort:Bs:=[112,111,114,116]
def kRule:Bs:=[114,117,108,101]
def kDefault:Bs:=[100,101,102,97,117,108,116]
structure Px where
 v:Bool
 n:Nat
 k:Int
def px0:Px:=⟨false,0,0⟩
instance:Inhabited Px:=⟨px0⟩
def Px.cells(p:Px):List Value:=pfx p.v p.n p.k
noncomputable def rdP(s:Bs):Option Px:=by
 classical
 exact if h:∃p:Px,IsP s p.v p.n p.k then some h.choose else none
def numV(s:Bs):Nat:=s.foldl (fun a c=>10*a+dig c) 0
def numOk(most:Nat)(s:Bs):Bool:=decide (numV s≤most)&&decide (digs 10 (numV s)=s)
def nextR(ws:List Bs)(i:Nat):Out Bs:=match ws[i]? with
 |some x=>.ok x (i+1)
 |none=>.no 200 (i+1)
def tookR(ws:List Bs)(i:Nat)(s:Bs):Out Bool:=if ws[i]?=some s then .ok true (i+1)else .ok false i
def wantR{α:Type}(b:Bool)(code:Nat)(a:α)(i:Nat):Out α:=match b with
 |true=>.ok a i
 |false=>.no code i
def numberR(most:Nat)(ws:List Bs)(i:Nat):Out Nat:=(nextR ws i).bind fun x j=>wantR (numOk most x) 200 (numV x) j
def intR(ws:List Bs)(i:Nat):Out Nat:=numberR 9223372036854775807 ws i
def nameR(ws:List Bs)(i:Nat):Out Bs:=(nextR ws i).bind fun x j=>wantR (nameB x) 201 x j
noncomputable def prefixR(ws:List Bs)(i:Nat):Out Px:=(nextR ws i).bind fun x j=>wantR (rdP x).isSome 151 ((rdP x).getD px0) j
def spanE(x:Bs):Bs×Bs:=match(Lib.cut x [45]).2.2 with
 |true=>((Lib.cut x [45]).1,(Lib.cut x [45]).2.1)
 |false=>((Lib.cut x [45]).1,(Lib.cut x [45]).1)
def spanR(ws:List Bs)(i:Nat):Out (Nat×Nat):=(nextR ws i).bind fun x j=>wantR (numOk 65535 (spanE x).1&&numOk 65535 (spanE x).2) 200 (numV (spanE x).1,numV (spanE x).2) j
def protoR(ws:List Bs)(i:Nat):Out Nat:=(tookR ws i kTcp).bind fun a j=>match a with
 |true=>.ok 6 j
 |false=>(tookR ws j kUdp).bind fun b k=>match b with
  |true=>.ok 17 k
  |false=>numberR 255 ws k
structure Mt where
 asks:Nat
 inn:Nat×Nat
 src:Px
 dst:Px
 proto:Nat
 sp:Nat×Nat
 dp:Nat×Nat
def mt0:Mt:=⟨0,(0,0),px0,px0,0,(0,0),(0,0)⟩
instance:Inhabited Mt:=⟨mt0⟩
def Mt.cells(m:Mt):List Value:=
 [.int .u8 (m.asks:Int),.int .u16 (m.inn.1:Int),.int .u16 (m.inn.2:Int)]++(m.src.cells++(m.dst.cells++[.int .u8 (m.proto:Int),.int .u16 (m.sp.1:Int),.int .u16 (m.sp.2:Int),.int .u16 (m.dp.1:Int),.int .u16 (m.dp.2:Int)]))
def fld(x:Bs):Option Nat:=
 if x=kIn then some 0 else if x=kSrc then some 1 else if x=kDst then some 2 else if x=kProto then some 3 else if x=kSport then some 4 else if x=kDport then some 5 else none
noncomputable def readF(k:Nat)(m:Mt)(ws:List Bs)(i:Nat):Out Mt:=match k with
 | 0=>(spanR ws i).bind fun s j=>.ok { m with inn:=s } j
 | 1=>(prefixR ws i).bind fun s j=>.ok { m with src:=s } j
 | 2=>(prefixR ws i).bind fun s j=>.ok { m with dst:=s } j
 | 3=>(protoR ws i).bind fun s j=>.ok { m with proto:=s } j
 | 4=>(spanR ws i).bind fun s j=>.ok { m with sp:=s } j
 |_=>(spanR ws i).bind fun s j=>.ok { m with dp:=s } j
noncomputable def fieldR(ws:List Bs)(i:Nat)(m:Mt):Out (Bool×Mt):=match ws[i]? with
 |none=>.ok (false,m) i
 |some x=>match fld x with
  |none=>.ok (false,m) i
  |some k=>match m.asks.testBit k with
   |true=>.no 200 (i+1)
   |false=>(readF k { m with asks:=m.asks|||2^k } ws (i+1)).bind fun m' j=>.ok (true,m') j
noncomputable def matchL(ws:List Bs):Nat→Nat→Mt→Out Mt
 | 0,i,m=>.ok m i
 |f+1,i,m=>(fieldR ws i m).bind fun r j=>match r.1 with
  |true=>matchL ws f j r.2
  |false=>.ok m j
noncomputable def matchR(ws:List Bs)(i:Nat):Out Mt:=(tookR ws i kAny).bind fun a j=>match a with
 |true=>.ok mt0 j
 |false=>(fieldR ws j mt0).bind fun r k=>match r.1 with
  |true=>matchL ws (ws.length+1 - k) k r.2
  |false=>(nextR ws k).bind fun _ l=>.no 200 l
def actR(out:Bool)(ws:List Bs)(i:Nat):Out (Int×Int):=(nextR ws i).bind fun x j=>
 if x=kRoute then .ok (1,0) j else if x=kDrop then .ok (2,0) j else if x=kReject then .ok (4,0) j else
 if x=kOut∧out=true then(intR ws j).bind fun n k=>.ok (3,(n:Int)) k else .no 200 j
def spanB(s:Nat×Nat):Bool:=decide (s=(0,0))
def pxB(p:Px):Bool:=decide (p.v=false∧p.n=0∧p.k=0)
def checkM(m:Mt):Bool:=
 (decide (m.asks < 64)&&((m.asks.testBit 0||spanB m.inn)&&((m.asks.testBit 1||pxB m.src)&&((m.asks.testBit 2||pxB m.dst)&&((m.asks.testBit 3||decide (m.proto=0))&&((m.asks.testBit 4||spanB m.sp)&&(m.asks.testBit 5||spanB m.dp)))))))&&
 ((decide (m.inn.1≤m.inn.2)&&(decide (m.inn.2≤255)&&(decide (m.sp.1≤m.sp.2)&&decide (m.dp.1≤m.dp.2))))&&
 (((!m.asks.testBit 1||okP m.src.v m.src.n m.src.k)&&((!m.asks.testBit 2||okP m.dst.v m.dst.n m.dst.k)&&(!(m.asks.testBit 1&&m.asks.testBit 2)||decide (m.src.v=m.dst.v))))&&
 (!(m.asks.testBit 4||m.asks.testBit 5)||(decide (m.proto=6)||decide (m.proto=17)))))
structure Rl where
 name:Bs
 mt:Mt
 act:Int
 out:Int
 meter:Bs
 mirror:Bs
def rl0:Rl:=⟨[],mt0,0,0,[],[]⟩
instance:Inhabited Rl:=⟨rl0⟩
def Rl.cells(r:Rl):List Value:=.string ⟨r.name.toArray⟩::(r.mt.cells++[.int .i64 r.act,.int .i64 r.out,.string ⟨r.meter.toArray⟩,.string ⟨r.mirror.toArray⟩])
def optR(s:Bs)(ws:List Bs)(i:Nat):Out Bs:=(tookR ws i s).bind fun b j=>match b with
 |true=>nameR ws j
 |false=>.ok [] j
def midR(m:Mt)(ws:List Bs)(i:Nat):Out Unit:=(nextR ws i).bind fun x i=>(wantR (decide (x=kTo)) 200 () i).bind fun _ i=>wantR (checkM m) 190 () i
noncomputable def ruleR(ws:List Bs)(i:Nat):Out Rl:=(nameR ws i).bind fun nm i=>(matchR ws i).bind fun m i=>(midR m ws i).bind fun _ i=>(actR true ws i).bind fun a i=>
 (optR kMeter ws i).bind fun me i=>(optR kMirror ws i).bind fun mi i=>.ok ⟨nm,m,a.1,a.2,me,mi⟩ i
structure Rt where
 pf:Px
 out:Int
instance:Inhabited Rt:=⟨⟨px0,0⟩⟩
def Rt.cells(r:Rt):List Value:=r.pf.cells++[.int .i64 r.out]
structure Me where
 name:Bs
 num:Nat
 den:Nat
 burst:Nat
instance:Inhabited Me:=⟨⟨[],0,0,0⟩⟩
def Me.cells(m:Me):List Value:=[.string ⟨m.name.toArray⟩,.int .u64 (m.num:Int),.int .u64 (m.den:Int),.int .u64 (m.burst:Int)]
structure Mi where
 name:Bs
 out:Int
 room:Int
instance:Inhabited Mi:=⟨⟨[],0,0⟩⟩
def Mi.cells(m:Mi):List Value:=[.string ⟨m.name.toArray⟩,.int .i64 m.out,.int .i64 m.room]
structure CF where
 ports:List Int
 routes:List Rt
 rules:List Rl
 meters:List Me
 mirrors:List Mi
 dflt:Int
def cf0:CF:=⟨[],[],[],[],[],0⟩
instance:Inhabited CF:=⟨cf0⟩
noncomputable def bodyR(x:Bs)(ws:List Bs)(i:Nat)(cf:CF)(d:Nat):Out CF:=
 if x=kPort then(intR ws i).bind fun n i=>.ok { cf with ports:=cf.ports++[(n:Int)] } i
 else if x=kRoute then(prefixR ws i).bind fun p i=>(intR ws i).bind fun n i=>.ok { cf with routes:=cf.routes++[⟨p,(n:Int)⟩] } i
 else if x=kMeter then(nameR ws i).bind fun nm i=>(numberR 18446744073709551615 ws i).bind fun a i=>(numberR 18446744073709551615 ws i).bind fun b i=>(numberR 18446744073709551615 ws i).bind fun c i=>.ok { cf with meters:=cf.meters++[⟨nm,a,b,c⟩] } i
 else if x=kMirror then(nameR ws i).bind fun nm i=>(intR ws i).bind fun a i=>(intR ws i).bind fun b i=>.ok { cf with mirrors:=cf.mirrors++[⟨nm,(a:Int),(b:Int)⟩] } i
 else if x=kRule then(ruleR ws i).bind fun r i=>.ok { cf with rules:=cf.rules++[r] } i
 else if x=kDefault then(wantR (decide (d=0)) 200 () i).bind fun _ i=>(actR false ws i).bind fun a i=>.ok { cf with dflt:=a.1 } i
 else .no 200 i
def endR{α:Type}(ws:List Bs)(a:α)(i:Nat):Out α:=match decide (i < ws.length)with
 |true=>.no 200 (i+1)
 |false=>.ok a i
noncomputable def intoR(ws:List Bs)(i:Nat)(cf:CF)(d:Nat):Out CF:=(nextR ws i).bind fun x i=>(bodyR x ws i cf d).bind fun c i=>endR ws c i
noncomputable def lineR(ws:List Bs)(cf:CF)(d:Nat):Out CF:=match ws with
 | []=>.ok cf 0
 |_=>intoR ws 0 cf d
def dN(ws:List Bs)(d:Nat):Nat:=if ws[0]?=some kDefault then d+1 else d
def wordsA(cm:Bool):Bs→Bs→List Bs
 |cur,[]=>if cur=[] then [] else [cur]
 |cur,c::r=>if cm=true∧c=35 then(if cur=[] then [] else [cur])else
  if c=32∨c=9 then(if cur=[] then wordsA cm [] r else cur::wordsA cm [] r)else wordsA cm (cur++[c]) r
def wordsW(cm:Bool)(s:Bs):List Bs:=wordsA cm [] s
inductive RdR where
 |ok (cf:CF)
 |no (code line:Nat)
noncomputable def readL:List Bs→Nat→CF→Nat→RdR
 | [],_,cf,d=>.ok (if d=0 then { cf with dflt:=2 }else cf)
 |l::ls,k,cf,d=>match lineR (wordsW true l) cf d with
  |.ok c _=>readL ls (k+1) c (dN (wordsW true l) d)
  |.no code _=>.no code k
end Go.Proofs.YtnncigmpcdehnaaGreatDoor
