import Derived.Test.YtnncigmpcdehnaaGreatDoorQc28
import Derived.Lib.IfaceEq
namespace Go.Proofs.YtnncigmpcdehnaaGreatDoor
open Go.RowKit Go.Lib Go.Sort
structure jo(w:World):Prop where
 pX:dy w
 et:w.cell? ⟨0,0,none⟩=some (.iface 242 (.agg #[.pointer (some ⟨9,48,none⟩)]))
theorem jo.az{S:List Nat}{w w':World}(h:jo w)(hc:ah S w w')(hS:∀k∈S,9≤k):jo w':=
 ⟨h.pX.az hc hS,(hc.cell (p:=⟨0,0,none⟩) (Nat.lt_of_lt_of_le (show 0 < 9 by omega) h.pX.low) (fun hk=>by have:=hS 0 hk;omega)).trans h.et⟩
def bA(s:Bs):List Bs:=bH 10 s
theorem Jg(w:World)(s:Bs)(hs:s.length≤1000000)(hl:dy w):Calls Tryz.prog 62 #[ab s,.string ⟨#[10]⟩] w (Sx.fI w (.sl 9 1 (bA s).length ((bA s).map ab))):=by
 refine(vt s 10 (by omega) w hl).mono ?_
 rintro e w' ⟨rfl,rfl⟩
 have hc:=fY 10 s
 refine⟨_,rfl,⟨by simp,.inr ⟨w.heap.size,0,_,strs (bH 10 s),rfl,aq.new w 9 (strs (bH 10 s)).toArray,Nat.le_refl _,by unfold maxLen;omega,by simp[strs],?_⟩⟩,fun k hk=>(by cases hk;exact Nat.le_refl _),(ah.refl [] w).alloc _⟩
 rw[List.drop_zero,List.take_of_length_le (by simp[strs,bA])]
 rfl
theorem Ms{b:Sx.a7}{mem:List Sx.Row}{l:Bs}{cf cf':CF}{d i:Nat}(m:Nat)(hm:m=mem.length)(hlan:jo b.w)(hS9:∀k∈b.S,9≤k)(hl:l.length≤1000000)(qF:cf.ag.length≤1000000∧cf.ae.length≤1000000∧cf.rules.length≤1000000∧cf.af.length≤1000000∧cf.aa.length≤1000000)(hd:d≤1000000)
  (hr:tP (Sx.rowAt mem) none none 1 2 3 4 5 6 7 cf d) (hT:eS (aI true l) cf d=.ok cf' i) (W:World) (β:Sx.Env) (hS:Sx.dz b β W (Sx.rowAt mem) [1,2,3,4,5,6,7]) :
  Calls Tryz.prog 64 (([.val (ab l),.ptr 1 0,.ptr 2 0]:List Sx.SV).map (Sx.SV.den β)).toArray W (Sx.aQ b β W (Sx.rowAt mem) m (O8 none none [] 1 2 3 4 5 6 7 m cf' (dN (aI true l) d) .nilIface none)):=by
 subst hm
 obtain⟨hat,hbd,hnd,hnew⟩:=Hx hS hr (by simp) (by decide)
 have hC:O1 W (β 1) (β 2) cf d (qf β 3 4 5 6 7):=⟨hat,hbd,hnd,qF,hd,hlan.pX.az hS.az hS9,fun k hk=>by
  rcases hnew k hk with hx|hx
  ·exact hS9 k hx
  ·exact Nat.le_trans hlan.pX.low hx⟩
 show Calls Tryz.prog 64 #[ab l,.pointer (some ⟨β 1,0,none⟩),.pointer (some ⟨β 2,0,none⟩)] W _
 refine(Lw l hl hC).mono fun e w' hp=>?_
 rcases hp with⟨cf2,i2,s',hT2,he,hcf,hb',hn',hf',hc⟩ | ⟨code,p,N,hT2,_⟩
 ·rw[hT]at hT2
  injection hT2 with h1 _
  subst h1
  exact .inl ⟨fun p hp=>(by cases hp),aL β mem.length cf' s',KP (X:=[]) hr (fun g hg=>(by cases hg)) (fun g hg=>(by cases hg)) he hcf hb' hn' (fun k hk=>(by cases hk)) (fun k hk=>by simpa using hf' k hk) (by simpa using hc)⟩
 ·rw[hT]at hT2;cases hT2
def OQ(m:Nat)(code p:Nat):Sx.cj:=⟨[1,2,3,4,5,6,7],[],[1,2,3,4,5,6,7],[⟨105,.aj [.int .i64 (code:Int),.int .i64 (p:Int)]⟩],.jX 103 m 0,none⟩
theorem JV{b:Sx.a7}{mem:List Sx.Row}{l:Bs}{cf:CF}{d code p:Nat}(m:Nat)(hm:m=mem.length)(hlan:jo b.w)(hS9:∀k∈b.S,9≤k)(hl:l.length≤1000000)(qF:cf.ag.length≤1000000∧cf.ae.length≤1000000∧cf.rules.length≤1000000∧cf.af.length≤1000000∧cf.aa.length≤1000000)(hd:d≤1000000)
  (hr:tP (Sx.rowAt mem) none none 1 2 3 4 5 6 7 cf d) (hT:eS (aI true l) cf d=.no code p) (W:World) (β:Sx.Env) (hS:Sx.dz b β W (Sx.rowAt mem) [1,2,3,4,5,6,7]) :
  Calls Tryz.prog 64 (([.val (ab l),.ptr 1 0,.ptr 2 0]:List Sx.SV).map (Sx.SV.den β)).toArray W (Sx.aQ b β W (Sx.rowAt mem) m (OQ m code p)):=by
 obtain⟨hat,hbd,hnd,hnew⟩:=Hx hS hr (by simp) (by decide)
 have hC:O1 W (β 1) (β 2) cf d (qf β 3 4 5 6 7):=⟨hat,hbd,hnd,qF,hd,hlan.pX.az hS.az hS9,fun k hk=>by
  rcases hnew k hk with hx|hx
  ·exact hS9 k hx
  ·exact Nat.le_trans hlan.pX.low hx⟩
 show Calls Tryz.prog 64 #[ab l,.pointer (some ⟨β 1,0,none⟩),.pointer (some ⟨β 2,0,none⟩)] W _
 refine(Lw l hl hC).mono fun e w' hp=>?_
 rcases hp with⟨cf2,i2,s',hT2,_⟩ | ⟨code2,p2,N,hT2,he,hN,hB,hc⟩
 ·rw[hT]at hT2;cases hT2
 ·rw[hT]at hT2
  injection hT2 with h1 h2
  subst h1 h2
  refine .inl ⟨fun p hp=>(by cases hp),⟨fun i=>if i=m then N else β.b i,β.a,β.n,β.c⟩,fun i hi=>⟨by show _=if i=m then N else β.b i;rw[if_neg (by omega)],rfl,rfl,rfl⟩,?_,fun q hq=>(by cases hq),fun k r hk=>?_,fun k r x hk hx=>?_,fun k k' r r' x hk hk' _ _=>?_,hc.mono fun k hk=>.inl ?_⟩
  ·rw[he]
   show _=Ending.returned (.iface 103 (.pointer (some ⟨if m=m then N else β.b m,0,none⟩)))
   rw[if_pos rfl]
  ·match k,hk with
   | 0,hk=>
    cases hk
    show aq w' (if m+0=m then N else β.b (m+0)) 105 _
    rw[Nat.add_zero,if_pos rfl]
    exact hB
  ·match k,hk with
   | 0,hk=>
    cases hk
    have hx:some (if m+0=m then N else β.b (m+0))=some x:=hx
    rw[Nat.add_zero,if_pos rfl]at hx
    cases hx
    exact .inr hN
  ·match k,k',hk,hk' with
   | 0,0,_,_=>rfl
  ·show k∈([]++[1,2,3,4,5,6,7]).filterMap (Sx.ct β (Sx.rowAt mem))
   have bk:∀{i:Nat} {r:Sx.Row} {k:Nat},Sx.rowAt mem i=some r→Sx.aw β i r=some k→Sx.ct β (Sx.rowAt mem) i=some k:=fun {i r k} hi hk=>by unfold Sx.ct;rw[hi];exact hk
   rcases dW.1 hk with hx|hx|hx|hx|hx|hx|hx
   ·exact List.mem_filterMap.2 ⟨1,by simp,bk hr.c (by rw[hx];exact tA)⟩
   ·exact List.mem_filterMap.2 ⟨2,by simp,bk hr.d (by rw[hx];exact AU)⟩
   ·exact List.mem_filterMap.2 ⟨3,by simp,bk hr.p hx⟩
   ·exact List.mem_filterMap.2 ⟨4,by simp,bk hr.r hx⟩
   ·exact List.mem_filterMap.2 ⟨5,by simp,bk hr.l hx⟩
   ·exact List.mem_filterMap.2 ⟨6,by simp,bk hr.m hx⟩
   ·exact List.mem_filterMap.2 ⟨7,by simp,bk hr.i hx⟩
theorem K6{b:Sx.a7}{row:Nat→Option Sx.Row}{m k:Nat}(W:World)(β:Sx.Env)(_:Sx.dz b β W row []) :
  Calls Tryz.prog 63 (([.val .nilIface,.jX 111 k 0]:List Sx.SV).map (Sx.SV.den β)).toArray W (Sx.aQ b β W row m ⟨[],[],[],[],.val (.bool false),none⟩):=
 (Nc _ W).mono fun e w' ⟨he,hw⟩=>.inl ⟨fun p hp=>(by cases hp),β,Sx.cN (v:=.bool false) rfl rfl he (fun q hq=>by cases hq) (by rw[hw];exact ah.refl _ _)⟩
theorem Dc{b:Sx.a7}{row:Nat→Option Sx.Row}{m k N:Nat}(hlan:jo b.w)(hS9:∀k∈b.S,9≤k)(hk:row k=some ⟨103,.aj [.pointer none]⟩)(W:World)(β:Sx.Env)(hS:Sx.dz b β W row [k]) :
  Calls Tryz.prog 63 (([.jX 103 N 0,.jX 111 k 0]:List Sx.SV).map (Sx.SV.den β)).toArray W (Sx.aQ b β W row m ⟨[k],[(k,⟨103,.dm [.ptr N 0]⟩)],[],[],.val (.bool true),none⟩):=by
 have hB:aq W (β k) 103 [.pointer none]:=hS.held k (by simp) _ hk
 refine(Nd ⟨β N,0,none⟩ ⟨β k,0,none⟩ (.pointer none) W (hlan.az hS.az hS9).et (hB.cell_of rfl) (hB.frozen 0)).mono fun e w' ⟨he,hw⟩=>.inl ⟨fun p hp=>(by cases hp),β,Sx.cN (v:=.bool true) rfl rfl he (fun q hq=>?_) ?_⟩
 ·have hq:q=(k,⟨103,.dm [.ptr N 0]⟩):=List.mem_singleton.1 hq
  subst hq
  show aq w' (β k) 103 [.pointer (some ⟨β N,0,none⟩)]
  rw[hw]
  refine aq.oC (cs:=[.pointer none]) ?_ 0 _
  exact(((hB.az ((ah.refl [] W).alloc _) (by simp)).az ((ah.refl [] _).alloc _) (by simp)).az ((ah.refl [] _).alloc _) (by simp)).az ((ah.refl [] _).alloc _) (by simp)
 ·have ht:Sx.cj.dI β row ⟨[k],[(k,⟨103,.dm [.ptr N 0]⟩)],[],[],.val (.bool true),none⟩=[β k]:=by
   have:Sx.ct β row k=some (β k):=by unfold Sx.ct;rw[hk];rfl
   show([k]++[]).filterMap (Sx.ct β row)=_
   simp[this]
  rw[ht,hw]
  exact((((ah.refl _ W).alloc _).alloc _).alloc _ |>.alloc _).setCell (.inl (by simp)) _
set_option maxRecDepth 100000
open Go Go.RowKit Go.Extern.Stop Go.Stop Go.Extern
theorem AP(v:Value)(w:World):(ReflectliteType.typeOf #[.iface 25 v]).run Tryz.prog w=.ok (.iface 242 (.agg #[.pointer (some ⟨9,25,none⟩)])) w:=by kernel_rfl
theorem sR(w:World):((ReflectliteType.method fun t=>do Rtype.noPackHeld "Comparable" t;(fun a=>Value.bool a.comparable) <$> typeInfo t) #[.agg #[.pointer (some ⟨9,25,none⟩)]]).run Tryz.prog w=.ok (.bool true) w:=by kernel_rfl
theorem nY(v:Value)(w:World):(Go.method 430 242 v "Comparable").run Tryz.prog w=.ok (274,v) w:=by kernel_rfl
theorem Ol(v:Value)(xT:TypeId)(w:World):(Instr.typeAssert (.iface 103 v) xT 257 true).run Tryz.prog w=.ok (.tuple #[.nilIface,.bool false]) w:=run_typeAssert_lacksB Tryz.underlying257 (by kernel_rfl) (by kernel_rfl) v xT w
theorem AT(v:Value)(xT:TypeId)(w:World):(Instr.typeAssert (.iface 103 v) xT 249 true).run Tryz.prog w=.ok (.tuple #[.iface 103 v,.bool true]) w:=run_typeAssert_hasB Tryz.underlying249 (by kernel_rfl) v xT w
theorem tX(v:Value)(w:World):(Go.method 430 103 v "Unwrap").run Tryz.prog w=.ok (267,v) w:=by kernel_rfl
set_option maxHeartbeats 1000000 in
theorem E0(N:Nat)(code:Int)(w:World)(h1:w.cell? ⟨N,0,none⟩=some (.int .i64 code)) :
  Calls Tryz.prog 267 #[.pointer (some ⟨N,0,none⟩)] w fun e w'=>e=.returned (.iface 25 (.int .i64 code))∧w'=w:=by
 have hs:(Tryz.prog.info? 105).map (·.size)=some 2:=by kernel_rfl
 obtain⟨j,hj,hjs⟩:=Option.map_eq_some_iff.1 hs
 go_enter Tryz.func267,Tryz.ntmps267
 go_wp2
 go_ret
 exact⟨rfl,rfl⟩
set_option maxHeartbeats 4000000 in
theorem Kk(N:Nat)(code:Int)(w:World)(h1:w.cell? ⟨N,0,none⟩=some (.int .i64 code)) :
  Calls Tryz.prog 66 #[.iface 103 (.pointer (some ⟨N,0,none⟩)),.iface 25 (.int .i64 code)] w fun e w'=>e=.returned (.bool true)∧w'=w:=by
 have h8:=@run_callFunc_extern Tryz.prog 139 _ ReflectliteType.typeOf Tryz.func139 (by kernel_rfl) (by kernel_rfl) (by kernel_rfl) (by kernel_rfl)
 have h32:=@run_callFunc_extern Tryz.prog 274 _ (ReflectliteType.method fun t=>do Rtype.noPackHeld "Comparable" t;pure (.bool (←typeInfo t).comparable)) Tryz.func274 (by kernel_rfl) (by kernel_rfl) (by kernel_rfl) (by kernel_rfl)
 have tT:=AP
 have cT:=sR
 have mR:=nY
 have nW:=Ol
 have uW:=AT
 have mU:=tX
 have hs:(Tryz.prog.info? 105).map (·.size)=some 2:=by kernel_rfl
 obtain⟨j,hj,hjs⟩:=Option.map_eq_some_iff.1 hs
 have heq:(binOp .eql 48 (.iface 25 (.int .i64 code)) (.iface 25 (.int .i64 code))).run Tryz.prog w=.ok (.bool true) w:=by
  rw[Lib.run_eql_iface_int (P:=Tryz.prog) w code code Tryz.underlying48 (by kernel_rfl) Tryz.underlying25];simp
 have hty:=run_eql_iface_types (P:=Tryz.prog) 103 25 (.pointer (some ⟨N,0,none⟩)) (.int .i64 code) Tryz.underlying48 (by decide) w
 go_enter Tryz.func66,Tryz.ntmps66
 go_wp2
 refine wp_loop_rounds 2 ?_
 rw[rounds_succ]
 have HU:=hid (E0 N code w h1)
 go_wp2_with (go_at_call 267;refine HU.out.mono ?_;rintro e w2 ⟨rfl,rfl⟩)
 rw[rounds_succ]
 go_wp2
 go_ret
 exact⟨rfl,rfl⟩
set_option maxRecDepth 100000
open Go Go.RowKit Go.Lib Go.Sort
def qA(code place:Nat):List Value:=[.int .i64 (code:Int),.int .i64 (place:Int)]
theorem Kl{b:Sx.a7}{mem:List Sx.Row}{N:Nat}{code place:Nat}(hk:mem[0]?=some ⟨105,.cx N (qA code place)⟩)(m:Nat)(W:World)(β:Sx.Env)(hS:Sx.dz b β W (Sx.rowAt mem) [0]) :
  Calls Tryz.prog 66 (([.jX 103 0 0,.val (.iface 25 (.int .i64 (code:Int)))]:List Sx.SV).map (Sx.SV.den β)).toArray W (Sx.aQ b β W (Sx.rowAt mem) m ⟨[0],[],[],[],.val (.bool true),none⟩):=by
 have hB2:aq W (β 0) 105 (qA code place):=(hS.held 0 (by simp) _ hk).2
 exact(Kk (β 0) (code:Int) W (hB2.cell_of rfl)).mono fun e w' ⟨he,hw⟩=>.inl ⟨fun p hp=>(by cases hp),β,Sx.cN (v:=.bool true) rfl rfl he (fun q hq=>by cases hq) (by rw[hw];exact ah.refl _ _)⟩
def PH(N code place:Nat)(l:List Sx.SV)(mem:List Sx.Row):Prop:=∃k:Nat,k=0∧l=[.val (.int .i64 (code:Int)),.val (.int .i64 (place:Int))]∧mem[k]?=some ⟨105,.cx N (qA code place)⟩
theorem LZ(N code place:Nat)(w:World)(hlan:jo w)(h9:9≤N)(hb:aq w N 105 (qA code place)):Calls Tryz.prog 24 #[.iface 103 (.pointer (some ⟨N,0,none⟩))] w (Sx.bJ ⟨w,[N],fun _ _=>False⟩ (PH N code place)):=by
 have hR:Sx.Rows ⟨w,[N],fun _ _=>False⟩ (Sx.cO [.bM N 105 (qA code place)]) w [⟨105,.cx N (qA code place)⟩]:=Sx.ga (w:=w) (S:=[N]) (PP:=fun _ _=>False) (G:=[.bM N 105 (qA code place)]) (fun q hq=>by rw[List.mem_singleton.1 hq];exact hb) (fun q hq k hk=>by rw[List.mem_singleton.1 hq]at hk;cases hk;simp) (by simp[Sx.jO.block])
 have c9:=fun W β (hS:Sx.dz ⟨w,[N],fun _ _=>False⟩ β W (Sx.rowAt [⟨105,.cx N (qA code place)⟩,⟨103,.aj [.pointer none]⟩]) [1])=>Dc (m:=2) (k:=1) (N:=0) hlan (fun k hk=>by rw[List.mem_singleton.1 hk];exact h9) rfl W β hS
 have c22:=fun W β (hS:Sx.dz ⟨w,[N],fun _ _=>False⟩ β W (Sx.rowAt [⟨105,.cx N (qA code place)⟩,⟨103,.dm [.ptr 0 0]⟩]) [0])=>Kl (N:=N) (code:=code) (place:=place) rfl 2 W β hS
 have z0:PH N code place [.val (.int .i64 (code:Int)),.val (.int .i64 (place:Int))] [⟨105,.cx N (qA code place)⟩,⟨103,.dm [.ptr 0 0]⟩]:=⟨0,rfl,rfl,rfl⟩
 have hh:Calls Tryz.prog 24 (([.jX 103 0 0]:List Sx.SV).map (Sx.SV.den (Sx.cO [.bM N 105 (qA code place)]))).toArray w (Sx.bJ ⟨w,[N],fun _ _=>False⟩ (PH N code place)):=by
  refine Sx.aW (args:=[.jX 103 0 0]) hR [(9,.ai ⟨[1],[(1,⟨103,.dm [.ptr 0 0]⟩)],[],[],.val (.bool true),none⟩),(22,.ai ⟨[0],[],[],[],.val (.bool true),none⟩)] [] (by kernel_rfl) Tryz.func24 rfl (Nat.le_of_ble_eq_true rfl) rfl ?_
  exact Eq.mp (by kernel_rfl) (Sx.t2 c9 c22 z0)
 exact hh
def Lm(j code place:Nat):Sx.cj:=⟨[j],[(j,⟨105,.aj (qA code place)⟩)],[],[],.val (.tuple #[.int .i64 (code:Int),.int .i64 (place:Int)]),none⟩
theorem Dh{b:Sx.a7}{row:Nat→Option Sx.Row}{j m code place:Nat}(hlan:jo b.w)(h9:∀k∈b.S,9≤k)(hj:row j=some ⟨105,.aj (qA code place)⟩)(W:World)(β:Sx.Env)(hS:Sx.dz b β W row [j]) :
  Calls Tryz.prog 24 (([.jX 103 j 0]:List Sx.SV).map (Sx.SV.den β)).toArray W (Sx.aQ b β W row m (Lm j code place)):=by
 have hB:aq W (β j) 105 (qA code place):=hS.held j (by simp) _ hj
 have h9':9≤β j:=by
  rcases hS.new j (by simp) _ (β j) hj rfl with h|h
  ·exact h9 _ h
  ·have:=hlan.pX.low;omega
 refine(LZ (β j) code place W (hlan.az hS.az h9) h9' hB).mono fun en w' hp=>?_
 rcases hp with⟨β',l,mem,⟨k,rfl,rfl,hk⟩,he,hR⟩ | ⟨_,_,hf,_⟩
 ·have r:=hR.held 0 _ hk
  have e:β' 0=β j:=r.1
  refine .inl ⟨fun p hp=>(by cases hp),β,Sx.cN (v:=.tuple #[.int .i64 (code:Int),.int .i64 (place:Int)]) rfl rfl he (fun q hq=>?_) (hR.az.mono fun x hx=>.inl ?_)⟩
  ·have hq:q=(j,⟨105,.aj (qA code place)⟩):=List.mem_singleton.1 hq
   subst hq
   show aq w' (β j) 105 (qA code place)
   rw[←e];exact r.2
  ·show x∈([j]++[]).filterMap (Sx.ct β row)
   refine List.mem_filterMap.2 ⟨j,by simp,?_⟩
   unfold Sx.ct
   rw[hj,List.mem_singleton.1 hx];rfl
 ·exact hf.elim
end Go.Proofs.YtnncigmpcdehnaaGreatDoor
