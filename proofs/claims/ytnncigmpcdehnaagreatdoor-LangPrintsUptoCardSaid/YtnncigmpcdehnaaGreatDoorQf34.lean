import Derived.Test.YtnncigmpcdehnaaGreatDoorQf33
import Derived.Lib.IfaceEq
namespace Go.Proofs.YtnncigmpcdehnaaGreatDoor
open Go Go.RowKit Go.Lib Go.Sort _root_.Go.Proofs.Tryz
theorem PO(b3 a4 a5 t6 g1 g2 g3 g4 u3 pt:Bool):Eu b3 a4 a5 t6 g1 g2 g3 g4 u3 pt=(!t6&&(!(g1||(g2||(g3||g4)))&&(!u3&&((a4&&a5)||(b3&&pt))))):=by
 unfold Eu
 cases t6<;>cases(g1||(g2||(g3||g4)))<;>cases u3<;>rfl
theorem MK(A G S b3 n3 b4 b5 p:Bool)(hA:A=true→(b3||!n3)=true)(hp:n3=false→p=false) :
  (A&&(G&&(S&&((!b4&&!b5)||(b3&&p)))))=(A&&(G&&(S&&(!(b4||b5)||p)))):=by
 cases A
 ·rfl
 have h:=hA rfl
 cases b3 with
 |true=>cases b4<;>cases b5<;>cases p<;>rfl
 |false=>
  have hn:n3=false:=by cases n3;rfl;cases h
  rw[hp hn]
  cases b4<;>cases b5<;>rfl
theorem Ru(l b0 b1 b2 b3 b4 b5 z0 z1 z2 z3 z4 z5:Bool):(!((((((!l||(!b0&&!z0))||(!b1&&!z1))||(!b2&&!z2))||(!b3&&!z3))||(!b4&&!z4))||(!b5&&!z5)))=
  (l&&((b0||z0)&&((b1||z1)&&((b2||z2)&&((b3||z3)&&((b4||z4)&&(b5||z5))))))):=by
 simp[Bool.not_or,Bool.and_assoc]
theorem Rs(b1 b2 x1 x2 ne:Bool):(!(((false||(b1&&!x1))||(b2&&!x2))||((b1&&b2)&&ne)))=((!b1||x1)&&((!b2||x2)&&(!(b1&&b2)||!ne))):=by
 cases b1<;>cases b2<;>cases x1<;>cases x2<;>cases ne<;>rfl
theorem I1(m:Mt)(hw:m.Wf)(w:World):Calls prog 88 #[j5 m] w (Rn w (.bool (bp m))):=by
 have ask:=fun(k p:Nat) (hp:p=2^k) W (_:ai [] w W)=>ML m hw k p hp W
 have hz:((m.bb:Int) !=0)=!decide (m.bb=0):=by by_cases h:m.bb=0<;>simp[h]
 have key:=I0 m w _ _ _ _ _ _ _ _ _ _ _ _ (!decide (m.asks < 64)) _ _ _ (!decide (m.bb=0)) _ _ _ _ _ _ _ _ _ (!decide (m.ff.2≤255)) _ _ _ _ _ _ _ _ _ _ _
  (ask 0 1 rfl) (ask 1 2 rfl) (ask 2 4 rfl) (ask 3 8 rfl) (ask 4 16 rfl) (ask 5 32 rfl) rfl rfl rfl rfl rfl rfl
  (by congr 1;rw[Bool.eq_iff_iff];simp only[decide_eq_true_eq,Bool.not_eq_true',decide_eq_false_iff_not];omega)
  (q8 _ _ m.ff hw.ff) (yn _ _ m.src hw.sn hw.sk) (yn _ _ m.dst hw.dn hw.dk) (by rw[hz]) (q8 _ _ m.sp hw.sp) (q8 _ _ m.dp hw.dp)
  (qi _ _ _) (qi _ _ _) (qi _ _ _) (qi _ _ _) (qi _ _ _) (qi _ _ _) rfl
  (by congr 1;rw[Bool.eq_iff_iff];simp only[decide_eq_true_eq,Bool.not_eq_true',decide_eq_false_iff_not];omega) rfl rfl
  (fun W _=>Et m.src.v m.src.n m.src.k W) (fun W _=>Et m.dst.v m.dst.n m.dst.k W) rfl rfl (qi _ _ _) (qi _ _ _) (qi _ _ _) rfl (fun W _=>IZ m.bb W)
 rw[PO,Ru,Rs]at key
 rw[MK _ _ _ _ (!decide (m.bb=0)) _ _ _ (fun h=>by
   simp only[Bool.and_eq_true]at h
   rw[Bool.not_not]
   exact h.2.2.2.2.1) (fun h=>by
   have h:m.bb=0:=by simpa using h
   rw[h];rfl)]at key
 have hne:(!(m.src.v !=m.dst.v))=decide (m.src.v=m.dst.v):=by cases m.src.v<;>cases m.dst.v<;>rfl
 have hle:∀a b:Nat,decide ((a:Int) > (b:Int))=!decide (a≤b):=fun a b=>by rw[Bool.eq_iff_iff];simp only[decide_eq_true_eq,Bool.not_eq_true',decide_eq_false_iff_not];omega
 rw[hne,hle,hle,hle]at key
 simp only[Bool.not_or,Bool.not_not]at key
 unfold bp
 simp only[Bool.not_or]
 exact key
set_option maxRecDepth 100000
open Go Go.RowKit Go.Extern.Stop Go.Stop Go.Extern _root_.Go.Proofs.Tryz
set_option maxRecDepth 100000
theorem Dp(v:Value)(w:World):(ReflectliteType.typeOf #[.iface 25 v]).run prog w=.ok (.iface 242 (.agg #[(pt 9 25)])) w:=by kernel_rfl
theorem vg(w:World):((ReflectliteType.method fun t=>do Rtype.noPackHeld "Comparable" t;(fun a=>Value.bool a.comparable) <$> typeInfo t) #[.agg #[(pt 9 25)]]).run prog w=.ok (.bool true) w:=by kernel_rfl
theorem po(v:Value)(w:World):(Go.method 430 242 v "Comparable").run prog w=.ok (274,v) w:=by kernel_rfl
theorem RV(v:Value)(xT:TypeId)(w:World):(Instr.typeAssert (.iface 103 v) xT 257 true).run prog w=.ok (.tuple #[.nilIface,.bool false]) w:=run_typeAssert_lacksB underlying257 (by kernel_rfl) (by kernel_rfl) v xT w
theorem Dr(v:Value)(xT:TypeId)(w:World):(Instr.typeAssert (.iface 103 v) xT 249 true).run prog w=.ok (.tuple #[.iface 103 v,.bool true]) w:=run_typeAssert_hasB underlying249 (by kernel_rfl) v xT w
theorem wv(v:Value)(w:World):(Go.method 430 103 v "Unwrap").run prog w=.ok (267,v) w:=by kernel_rfl
set_option maxHeartbeats 1000000 in
theorem H5(N:Nat)(code:Int)(w:World)(h1:w.cell? ⟨N,0,none⟩=some (.int .i64 code)) :
  Calls prog 267 #[.pointer (some ⟨N,0,none⟩)] w fun e w'=>e=.returned (.iface 25 (.int .i64 code))∧w'=w:=by
 have hs:(prog.info? 105).map (·.size)=some 2:=by kernel_rfl
 obtain⟨j,hj,hjs⟩:=Option.map_eq_some_iff.1 hs
 go_enter func267,ntmps267
 go_wp2
 go_ret
 exact⟨rfl,rfl⟩
set_option maxHeartbeats 4000000 in
theorem NF(N:Nat)(code:Int)(w:World)(h1:w.cell? ⟨N,0,none⟩=some (.int .i64 code)) :
  Calls prog 66 #[.iface 103 (.pointer (some ⟨N,0,none⟩)),.iface 25 (.int .i64 code)] w fun e w'=>e=.returned (.bool true)∧w'=w:=by
 have h8:=@run_callFunc_extern prog 139 _ ReflectliteType.typeOf func139 (by kernel_rfl) (by kernel_rfl) (by kernel_rfl) (by kernel_rfl)
 have h32:=@run_callFunc_extern prog 274 _ (ReflectliteType.method fun t=>do Rtype.noPackHeld "Comparable" t;pure (.bool (←typeInfo t).comparable)) func274 (by kernel_rfl) (by kernel_rfl) (by kernel_rfl) (by kernel_rfl)
 have tT:=Dp
 have cT:=vg
 have mR:=po
 have nW:=RV
 have uW:=Dr
 have mU:=wv
 have hs:(prog.info? 105).map (·.size)=some 2:=by kernel_rfl
 obtain⟨j,hj,hjs⟩:=Option.map_eq_some_iff.1 hs
 have heq:(binOp .eql 48 (.iface 25 (.int .i64 code)) (.iface 25 (.int .i64 code))).run prog w=.ok (.bool true) w:=by
  rw[Lib.run_eql_iface_int (P:=prog) w code code underlying48 (by kernel_rfl) underlying25];simp
 have hty:=run_eql_iface_types (P:=prog) 103 25 (.pointer (some ⟨N,0,none⟩)) (.int .i64 code) underlying48 (by decide) w
 go_enter func66,ntmps66
 go_wp2
 refine wp_loop_rounds 2 ?_
 rw[rounds_succ]
 have HU:=hid (H5 N code w h1)
 go_wp2_with (go_at_call 267;refine HU.out.mono ?_;rintro e w2 ⟨rfl,rfl⟩)
 rw[rounds_succ]
 go_wp2
 go_ret
 exact⟨rfl,rfl⟩
set_option maxRecDepth 100000
open Go Go.RowKit Go.Lib Go.Sort _root_.Go.Proofs.Tryz
def sw(code place:Nat):List Value:=[.int .i64 (code:Int),.int .i64 (place:Int)]
theorem NG{b:Sx.aU}{mem:List Sx.Row}{N:Nat}{code place:Nat}(hk:mem[0]?=some ⟨105,.dF N (sw code place)⟩)(m:Nat)(W:World)(β:Sx.Env)(hS:Sx.eF b β W (Sx.rowAt mem) [0]) :
  Calls prog 66 (([.kT 103 0 0,.val (.iface 25 (.int .i64 (code:Int)))]:List Sx.SV).map (Sx.SV.den β)).toArray W (Sx.aY b β W (Sx.rowAt mem) m ⟨[0],[],[],[],.val (.bool true),none⟩):=by
 have hB2:au W (β 0) 105 (sw code place):=(hS.held 0 (by simp) _ hk).2
 exact(NF (β 0) (code:Int) W (hB2.cell_of rfl)).mono fun e w' ⟨he,hw⟩=>.inl ⟨fun p hp=>(by cases hp),β,Sx.du (v:=.bool true) rfl rfl he (fun q hq=>by cases hq) (by rw[hw];exact ai.refl _ _)⟩
def Tz(N code place:Nat)(l:List Sx.SV)(mem:List Sx.Row):Prop:=∃k:Nat,k=0∧l=[.val (.int .i64 (code:Int)),.val (.int .i64 (place:Int))]∧mem[k]?=some ⟨105,.dF N (sw code place)⟩
theorem Pw(N code place:Nat)(w:World)(hlan:lD w)(h9:9≤N)(hb:au w N 105 (sw code place)):Calls prog 24 #[.iface 103 (.pointer (some ⟨N,0,none⟩))] w (Sx.cq ⟨w,[N],fun _ _=>False⟩ (Tz N code place)):=by
 have hR:Sx.Rows ⟨w,[N],fun _ _=>False⟩ (Sx.cU [.b9 N 105 (sw code place)]) w [⟨105,.dF N (sw code place)⟩]:=Sx.gP (w:=w) (S:=[N]) (PP:=fun _ _=>False) (G:=[.b9 N 105 (sw code place)]) (fun q hq=>by rw[List.mem_singleton.1 hq];exact hb) (fun q hq k hk=>by rw[List.mem_singleton.1 hq]at hk;cases hk;simp) (by simp[Sx.kF.block])
 have c9:=fun W β (hS:Sx.eF ⟨w,[N],fun _ _=>False⟩ β W (Sx.rowAt [⟨105,.dF N (sw code place)⟩,⟨103,.ak [.pointer none]⟩]) [1])=>FB (m:=2) (k:=1) (N:=0) hlan (fun k hk=>by rw[List.mem_singleton.1 hk];exact h9) rfl W β hS
 have c22:=fun W β (hS:Sx.eF ⟨w,[N],fun _ _=>False⟩ β W (Sx.rowAt [⟨105,.dF N (sw code place)⟩,⟨103,.dK [.ptr 0 0]⟩]) [0])=>NG (N:=N) (code:=code) (place:=place) rfl 2 W β hS
 have z0:Tz N code place [.val (.int .i64 (code:Int)),.val (.int .i64 (place:Int))] [⟨105,.dF N (sw code place)⟩,⟨103,.dK [.ptr 0 0]⟩]:=⟨0,rfl,rfl,rfl⟩
 have hh:Calls prog 24 (([.kT 103 0 0]:List Sx.SV).map (Sx.SV.den (Sx.cU [.b9 N 105 (sw code place)]))).toArray w (Sx.cq ⟨w,[N],fun _ _=>False⟩ (Tz N code place)):=by
  refine Sx.aZ (args:=[.kT 103 0 0]) hR [(9,.aq ⟨[1],[(1,⟨103,.dK [.ptr 0 0]⟩)],[],[],.val (.bool true),none⟩),(22,.aq ⟨[0],[],[],[],.val (.bool true),none⟩)] [] (by kernel_rfl) func24 rfl (cn rfl) rfl ?_
  exact Eq.mp (by kernel_rfl) (Sx.t2 c9 c22 z0)
 exact hh
def OK(j code place:Nat):Sx.cC:=⟨[j],[(j,⟨105,.ak (sw code place)⟩)],[],[],.val (.tuple #[.int .i64 (code:Int),.int .i64 (place:Int)]),none⟩
theorem FH{b:Sx.aU}{row:Nat→Option Sx.Row}{j m code place:Nat}(hlan:lD b.w)(h9:∀k∈b.S,9≤k)(hj:row j=some ⟨105,.ak (sw code place)⟩)(W:World)(β:Sx.Env)(hS:Sx.eF b β W row [j]) :
  Calls prog 24 (([.kT 103 j 0]:List Sx.SV).map (Sx.SV.den β)).toArray W (Sx.aY b β W row m (OK j code place)):=by
 have hB:au W (β j) 105 (sw code place):=hS.held j (by simp) _ hj
 have h9':9≤β j:=by
  rcases hS.new j (by simp) _ (β j) hj rfl with h|h
  ·exact h9 _ h
  ·have:=hlan.u5.low;omega
 refine(Pw (β j) code place W (hlan.aG hS.aG h9) h9' hB).mono fun en w' hp=>?_
 rcases hp with⟨β',l,mem,⟨k,rfl,rfl,hk⟩,he,hR⟩ | ⟨_,_,hf,_⟩
 ·have r:=hR.held 0 _ hk
  have e:β' 0=β j:=r.1
  refine .inl ⟨fun p hp=>(by cases hp),β,Sx.du (v:=.tuple #[.int .i64 (code:Int),.int .i64 (place:Int)]) rfl rfl he (fun q hq=>?_) (hR.aG.mono fun x hx=>.inl ?_)⟩
  ·have hq:q=(j,⟨105,.ak (sw code place)⟩):=List.mem_singleton.1 hq
   subst hq
   show au w' (β j) 105 (sw code place)
   rw[←e];exact r.2
  ·show x∈([j]++[]).filterMap (Sx.cE β row)
   refine List.mem_filterMap.2 ⟨j,by simp,?_⟩
   unfold Sx.cE
   rw[hj,List.mem_singleton.1 hx];rfl
 ·exact hf.elim
open Go Go.RowKit Go.Lib Go.Sort
inductive Kd where
 |b
 |i (q:IntKind)
 |s
def Bf(P:Program)(f:TypeId→Option (List Kd)):Nat→List Field→Option (List Kd)
 |_,[]=>some []
 |off,x::fs=>match Nat.beq x.offset off&&x.name != "_" with
  |true=>match f x.type with
   |some ks=>match Nat.beq ks.length (P.cellsOf x.type)with
    |true=>match Bf P f (off+ks.length) fs with
     |some r=>some (ks++r)
     |none=>none
    |false=>none
   |none=>none
  |false=>none
def yk:Nat→List Kd→List Kd
 | 0,_=>[]
 |n+1,ks=>ks++yk n ks
def jm(P:Program):Nat→TypeId→Option (List Kd)
 | 0,_=>none
 |d+1,t=>match P.underlying t with
  |some .bool=>some [.b]
  |some (.int q)=>some [.i q]
  |some .string=>some [.s]
  |some (.array n e)=>match jm P d e with
   |some ks=>match Nat.beq ks.length (P.cellsOf e)&&Nat.beq (n*ks.length) (P.cellsOf t)with
    |true=>some (yk n ks)
    |false=>none
   |none=>none
  |some (.struct fs)=>match Bf P (jm P d) 0 fs.toList with
   |some ks=>match Nat.beq ks.length (P.cellsOf t)with
    |true=>some ks
    |false=>none
   |none=>none
  |_=>none
def OV:Kd→Value→Prop
 |.b,.bool _=>True
 |.i q,.int q' n=>q'=q∧(Lit.int q n).wf=true
 |.s,.string s=>s.size≤maxLen
 |_,_=>False
def ph:Value→Lit
 |.bool b=>.bool b
 |.int q n=>.int q n
 |.string s=>.string s.data.toList
 |_=>.bool false
def cL:List Kd→List Value→Prop
 | [],[]=>True
 |k::ks,v::vs=>OV k v∧cL ks vs
 |_,_=>False
theorem cL.len:∀{ks:List Kd} {vs:List Value},cL ks vs→vs.length=ks.length
 | [],[],_=>rfl
 |_::_,_::_,h=>by simp only[List.length_cons,h.2.len]
 | [],_::_,h=>h.elim
 |_::_,[],h=>h.elim
theorem cL.split:∀{k1 k2:List Kd} {vs:List Value},cL (k1++k2) vs→cL k1 (vs.take k1.length)∧cL k2 (vs.drop k1.length)
 | [],_,_,h=>⟨by simp[cL],h⟩
 |_::_,_,_::_,h=>by
  have:=cL.split (k1:=_) (k2:=_) h.2
  exact⟨⟨h.1,this.1⟩,this.2⟩
 |_::_,_,[],h=>h.elim
theorem cL.app:∀{k1 k2:List Kd} {v1 v2:List Value},cL k1 v1→cL k2 v2→cL (k1++k2) (v1++v2)
 | [],_,[],_,_,h=>h
 |_::_,_,_::_,_,h,h2=>⟨h.1,h.2.app h2⟩
 | [],_,_::_,_,h,_=>h.elim
 |_::_,_,[],_,h,_=>h.elim
theorem Nh{k:Kd}{a b:Value}(ha:OV k a)(hb:OV k b)(h:ph a=ph b):a=b:=by
 cases k with
 |b=>cases a<;>first|exact ha.elim | (cases b<;>first|exact hb.elim | (injection h with h;subst h;rfl))
 |i q=>cases a<;>first|exact ha.elim | (cases b<;>first|exact hb.elim | (injection h with h1 h2;subst h1 h2;rfl))
 |s=>
  cases a<;>first|exact ha.elim|skip
  cases b<;>first|exact hb.elim|skip
  rename_i s t
  injection h with h
  have:s.data=t.data:=Array.toList_inj.1 h
  cases s;cases t
  simp only at this
  rw[this]
theorem cL.inj:∀{ks:List Kd} {al bs:List Value},cL ks al→cL ks bs→al.map ph=bs.map ph→al=bs
 | [],[],[],_,_,_=>rfl
 |_::_,_::_,_::_,ha,hb,h=>by
  rw[List.map_cons,List.map_cons]at h
  injection h with h1 h2
  rw[Nh ha.1 hb.1 h1,ha.2.inj hb.2 h2]
 | [],_::_,_,ha,_,_=>ha.elim
 |_::_,[],_,ha,_,_=>ha.elim
 | [],[],_::_,_,hb,_=>hb.elim
 |_::_,_::_,[],_,hb,_=>hb.elim
theorem nc(ks:List Kd):∀n,(yk n ks).length=n*ks.length
 | 0=>by simp[yk]
 |n+1=>by rw[yk,List.length_append,nc ks n,Nat.succ_mul];omega
section
variable{P:Program}
theorem sE{d:Nat}(ih:∀t ks cs,jm P d t=some ks→cL ks cs→P.keyLits d t cs=some (cs.map ph))(cs:List Value):∀(fs:List Field) (off:Nat) (ks:List Kd),Bf P (jm P d) off fs=some ks→cL ks (cs.drop off)→
  (∃l,fs.mapM (fun f=>P.keyLits d f.type ((cs.drop f.offset).take (P.cellsOf f.type)))=some l∧l.flatten=(cs.drop off).map ph)∧fs.all (fun f=>f.name != "_")=true
 | [],off,ks,h,ha=>by
  simp only[Bf,Option.some.injEq]at h
  subst h
  refine⟨⟨[],rfl,?_⟩,rfl⟩
  cases hd:cs.drop off with
  |nil=>rfl
  |cons a l=>rw[hd]at ha;exact ha.elim
 |x::fs,off,ks,h,ha=>by
  unfold Bf at h
  split at h
  ·rename_i hb
   rw[Bool.and_eq_true]at hb
   have ho:x.offset=off:=Nat.eq_of_beq_eq_true hb.1
   split at h
   ·rename_i kx hx
    split at h
    ·rename_i hl
     have hl:kx.length=P.cellsOf x.type:=Nat.eq_of_beq_eq_true hl
     split at h
     ·rename_i r hr
      injection h with h
      subst h
      obtain⟨h1,h2⟩:=ha.split
      rw[List.drop_drop]at h2
      obtain⟨⟨l,e1,e2⟩,e3⟩:=sE ih cs fs (off+kx.length) r hr h2
      have hk:=ih _ _ _ hx h1
      refine⟨⟨((cs.drop off).take kx.length).map ph::l,?_,?_⟩,?_⟩
      ·rw[List.mapM_cons,ho,←hl,hk]
       show(do let al ←fs.mapM (fun(f:Field)=>P.keyLits d f.type ((cs.drop f.offset).take (P.cellsOf f.type)));pure (((cs.drop off).take kx.length).map ph::al))=_
       rw[e1];rfl
      ·rw[List.flatten_cons,e2,←List.drop_drop,←List.map_append,List.take_append_drop]
      ·rw[List.all_cons,e3,hb.2];rfl
     ·cases h
    ·cases h
   ·cases h
  ·cases h
theorem vf{d e:Nat}(ih:∀cs,∀ks,jm P d e=some ks→cL ks cs→P.keyLits d e cs=some (cs.map ph)){ke:List Kd}(he:jm P d e=some ke)(hl:ke.length=P.cellsOf e)(cs:List Value):∀(n k:Nat),cL (yk n ke) (cs.drop (k*P.cellsOf e))→
  ∃l,((List.range' k n).mapM fun i=>P.keyLits d e ((cs.drop (i*P.cellsOf e)).take (P.cellsOf e)))=some l∧l.flatten=(cs.drop (k*P.cellsOf e)).map ph
 | 0,k,ha=>by
  refine⟨[],rfl,?_⟩
  cases hd:cs.drop (k*P.cellsOf e)with
  |nil=>rfl
  |cons a l=>rw[hd]at ha;exact ha.elim
 |n+1,k,ha=>by
  obtain⟨h1,h2⟩:=ha.split
  rw[List.drop_drop,hl,show k*P.cellsOf e+P.cellsOf e=(k+1)*P.cellsOf e by rw[Nat.succ_mul]]at h2
  obtain⟨l,e1,e2⟩:=vf ih he hl cs n (k+1) h2
  have hk:=ih _ _ he h1
  refine⟨((cs.drop (k*P.cellsOf e)).take ke.length).map ph::l,?_,?_⟩
  ·rw[List.range'_succ,List.mapM_cons,←hl]
   rw[hl]at hk ⊢
   rw[hk]
   show(do let al ←(List.range' (k+1) n).mapM (fun i=>P.keyLits d e ((cs.drop (i*P.cellsOf e)).take (P.cellsOf e)));pure (((cs.drop (k*P.cellsOf e)).take (P.cellsOf e)).map ph::al))=_
   rw[e1];rfl
  ·rw[List.flatten_cons,e2,hl,show(k+1)*P.cellsOf e=k*P.cellsOf e+P.cellsOf e by rw[Nat.succ_mul],←List.drop_drop,←List.map_append,List.take_append_drop]
theorem jr:∀(d:Nat) (t:TypeId) (ks:List Kd) (cs:List Value),jm P d t=some ks→cL ks cs→P.keyLits d t cs=some (cs.map ph)
 | 0,_,_,_,h,_=>by cases h
 |d+1,t,ks,cs,h,ha=>by
  unfold jm at h
  split at h
  ·rename_i hu
   injection h with h
   subst h
   match cs,ha with
   | [.bool b],_=>unfold Program.keyLits;rw[hu];rfl
  ·rename_i q hu
   injection h with h
   subst h
   match cs,ha with
   | [.int q' n],ha=>
    have hq:q'=q∧(Lit.int q n).wf=true:=ha.1
    unfold Program.keyLits
    rw[hu]
    show(if q'=q∧(Lit.int q n).wf=true then some [Lit.int q n] else none)=_
    rw[if_pos hq,hq.1];rfl
  ·rename_i hu
   injection h with h
   subst h
   match cs,ha with
   | [.string s],ha=>
    have hs:s.size≤maxLen:=ha.1
    unfold Program.keyLits
    rw[hu]
    show(if s.size≤maxLen then some [Lit.string s.data.toList] else none)=_
    rw[if_pos hs];rfl
  ·rename_i n e hu
   split at h
   ·rename_i ke he
    split at h
    ·rename_i hb
     injection h with h
     subst h
     rw[Bool.and_eq_true]at hb
     have hl:ke.length=P.cellsOf e:=Nat.eq_of_beq_eq_true hb.1
     have ht:n*ke.length=P.cellsOf t:=Nat.eq_of_beq_eq_true hb.2
     have hlen:cs.length=P.cellsOf t:=by rw[ha.len,nc,ht]
     obtain⟨l,e1,e2⟩:=vf (fun c k hk hc=>jr d e k c hk hc) he hl cs n 0 (by rw[Nat.zero_mul,List.drop_zero];exact ha)
     rw[Nat.zero_mul,List.drop_zero]at e2
     unfold Program.keyLits
     rw[hu]
     show(if cs.length=P.cellsOf t then((List.range n).mapM fun i=>P.keyLits d e ((cs.drop (i*P.cellsOf e)).take (P.cellsOf e))).map List.flatten else none)=_
     rw[if_pos hlen,List.range_eq_range',e1,←e2];rfl
    ·cases h
   ·cases h
  ·rename_i fs hu
   split at h
   ·rename_i kf hf
    split at h
    ·rename_i hb
     injection h with h
     subst h
     have ht:kf.length=P.cellsOf t:=Nat.eq_of_beq_eq_true hb
     have hlen:cs.length=P.cellsOf t:=by rw[ha.len,ht]
     obtain⟨⟨l,e1,e2⟩,e3⟩:=sE (fun t k c=>jr d t k c) cs fs.toList 0 kf hf (by rw[List.drop_zero];exact ha)
     rw[List.drop_zero]at e2
     unfold Program.keyLits
     rw[hu]
     show(if cs.length=P.cellsOf t∧fs.all (·.name != "_")=true then(fs.toList.mapM fun f=>P.keyLits d f.type ((cs.drop f.offset).take (P.cellsOf f.type))).map List.flatten else none)=_
     rw[if_pos ⟨hlen,by rw[←Array.all_toList];exact e3⟩,e1,←e2];rfl
    ·cases h
   ·cases h
  ·cases h
def Hm(P:Program)(t:TypeId):Bool:=match P.underlying t with
 |some (.struct _)=>true
 |some (.array _ _)=>true
 |_=>false
theorem Ke{d:Nat}{t:TypeId}{ks:List Kd}(h:jm P d t=some ks)(ha:Hm P t=true):ks.length=P.cellsOf t:=by
 cases d with
 |zero=>cases h
 |succ d=>
  unfold jm at h
  unfold Hm at ha
  split at h
  ·rename_i hu;rw[hu]at ha;cases ha
  ·rename_i hu;rw[hu]at ha;cases ha
  ·rename_i hu;rw[hu]at ha;cases ha
  ·split at h
   ·split at h
    ·rename_i hb
     injection h with h
     subst h
     rw[Bool.and_eq_true]at hb
     rw[nc]
     exact Nat.eq_of_beq_eq_true hb.2
    ·cases h
   ·cases h
  ·split at h
   ·split at h
    ·rename_i hb
     injection h with h
     subst h
     exact Nat.eq_of_beq_eq_true hb
    ·cases h
   ·cases h
  ·cases h
theorem vr{t:TypeId}{cs:List Value}(ha:Hm P t=true)(hl:cs.length=P.cellsOf t):(Value.agg cs.toArray).formed P t=true:=by
 unfold Hm at ha
 unfold Value.formed
 split at ha
 ·rename_i h;rw[h];simp[hl]
 ·rename_i h;rw[h];simp[hl]
 ·cases ha
theorem Ks{t:TypeId}{ks:List Kd}{al bs:List Value}(W:World)(hk:P.keyTypeAt 6 t=true)(hf:jm P 6 t=some ks)(hg:Hm P t=true)(ha:cL ks al)(hb:cL ks bs) :
  ∃r,(Op.equalIn 10000 t (.agg al.toArray) (.agg bs.toArray)).run P W=.ok r W∧(r=true↔al=bs):=by
 have hl:=Ke hf hg
 obtain⟨r,h1,h2⟩:=run_equalIn_deep (P:=P) 9994 6 t hk W 6 6 (.agg al.toArray) (.agg bs.toArray) (al.map ph) (bs.map ph) (vr hg (by rw[ha.len,hl])) (vr hg (by rw[hb.len,hl])) (jr 6 t ks al hf ha) (jr 6 t ks bs hf hb)
 refine⟨r,h1,h2.trans ⟨fun h=>ha.inj hb h,fun h=>by rw[h]⟩⟩
theorem y6{t:TypeId}{ks:List Kd}{al bs:List Value}{r:Bool}(x y:Operand)(hk:P.keyTypeAt 6 t=true)(hf:jm P 6 t=some ks)(hg:Hm P t=true)(hq:P.eqGuardType P.depth t=false)(ha:cL ks al)(hb:cL ks bs)(hr:r=true↔al=bs)(W:World) :
  (do eqGuard .eql t x y (.agg al.toArray) (.agg bs.toArray);binOp .eql t (.agg al.toArray) (.agg bs.toArray):Sem Value).run P W=.ok (.bool r) W∧
  (do eqGuard .neq t x y (.agg al.toArray) (.agg bs.toArray);binOp .neq t (.agg al.toArray) (.agg bs.toArray):Sem Value).run P W=.ok (.bool (!r)) W:=by
 obtain⟨q,h1,h2⟩:=Ks W hk hf hg ha hb
 have hqr:q=r:=by rw[Bool.eq_iff_iff,h2,hr]
 subst hqr
 have h1:(Op.equal t (.agg al.toArray) (.agg bs.toArray)).run P W=.ok q W:=h1
 have g1:(eqGuard .eql t x y (.agg al.toArray) (.agg bs.toArray)).run P W=.ok () W:=by simp[eqGuard,hq]
 have g2:(eqGuard .neq t x y (.agg al.toArray) (.agg bs.toArray)).run P W=.ok () W:=by simp[eqGuard,hq]
 constructor
 ·rw[Sem.run_bind,g1,Result.andThen_ok]
  show(do pure (.bool (←Op.equal t (.agg al.toArray) (.agg bs.toArray))):Sem Value).run P W=_
  rw[Sem.run_bind,h1];rfl
 ·rw[Sem.run_bind,g2,Result.andThen_ok]
  show(do pure (.bool (!(←Op.equal t (.agg al.toArray) (.agg bs.toArray)))):Sem Value).run P W=_
  rw[Sem.run_bind,h1];rfl
end
end Go.Proofs.YtnncigmpcdehnaaGreatDoor
