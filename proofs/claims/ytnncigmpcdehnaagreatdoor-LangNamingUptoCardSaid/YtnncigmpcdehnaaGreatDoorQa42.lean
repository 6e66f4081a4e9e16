import Derived.Test.YtnncigmpcdehnaaGreatDoorQa41
namespace Go.Proofs.YtnncigmpcdehnaaGreatDoor
set_option maxRecDepth 100000
open Go Go.RowKit Go.Lib Go.Sort
def exPx:Px:=⟨false,10*2^120,8⟩
def exMt:Mt:=⟨40,(0,0),px0,px0,6,(0,0),(80,90)⟩
def exCf:CF:=⟨[3,4],[⟨exPx,3⟩],[⟨[97],exMt,3,4,[109],[99]⟩,⟨[98],mt0,2,0,[],[]⟩],[⟨[109],5,2,9⟩],[⟨[99],4,16⟩],1⟩
def CfR(cf:CF)(l:List Sx.SV)(mem:List Sx.Row):Prop:=∃k0 k1 k2 k3 k4,l=[.rowv [.o k0,.o k1,.o k2,.o k3,.o k4,.v (.int .i64 cf.dflt)]]∧mem[k0]?=some ⟨3,.own 1 cf.ports.length cf.cp⟩∧mem[k1]?=some ⟨118,.own 19 cf.routes.length cf.cr⟩∧mem[k2]?=some ⟨81,.own 49 cf.rules.length cf.cl⟩∧mem[k3]?=some ⟨122,.own 4 cf.meters.length cf.cm⟩∧mem[k4]?=some ⟨124,.own 3 cf.mirrors.length cf.ci⟩
theorem example_w(w:World):Calls Tryz.prog 67 #[] w (Sx.anyPost ⟨w,[],fun _ _=>False⟩ (CfR exCf)):=by
 have z0:CfR exCf [.rowv [.o 3,.o 4,.o 7,.o 5,.o 6,.v (.int .i64 1)]] [⟨46,.svs [.own 3,.own 4,.own 7,.own 5,.own 6,.val (.int .i64 1)]⟩,⟨29,.vals exPx.cells⟩,⟨66,.vals exMt.cells⟩,⟨3,.own 1 2 exCf.cp⟩,⟨118,.own 19 1 exCf.cr⟩,⟨122,.own 4 1 exCf.cm⟩,⟨124,.own 3 1 exCf.ci⟩,⟨81,.own 49 2 exCf.cl⟩]:=⟨3,4,7,5,6,rfl,rfl,rfl,rfl,rfl,rfl⟩
 refine Sx.calls_any (args:=[]) (no_rows w) [(9,.nils 3 1),(12,.nils 118 19),(15,.nils 122 4),(17,.nils 124 3),(21,.nils 81 49)] [] (by kernel_rfl) Tryz.func67 rfl (Nat.le_of_ble_eq_true rfl) rfl ?_
 exact Eq.mp (by kernel_rfl) z0
open Go.RowKit Go.Lib Go.Sort
def RdU:Prop:=∀p:Px,p.n < 2^128→okP p.v p.n p.k=true→rdP (pxT p)=some p
theorem numV_digs(n:Nat):numV (digs 10 n)=n:=val_digs (by omega) (by omega) n
theorem numOk_digs{most n:Nat}(h:n≤most):numOk most (digs 10 n)=true:=by
 unfold numOk
 rw[numV_digs,decide_eq_true h,decide_eq_true rfl];rfl
theorem next_at{ws:List Bs}{i:Nat}{x:Bs}(h:ws[i]?=some x):nextR ws i=.ok x (i+1):=by unfold nextR;rw[h]
theorem number_at{ws:List Bs}{i n most:Nat}(h:ws[i]?=some (digs 10 n))(hn:n≤most):numberR most ws i=.ok n (i+1):=by
 unfold numberR
 rw[next_at h]
 show wantR (numOk most (digs 10 n)) 200 (numV (digs 10 n)) (i+1)=_
 rw[numOk_digs hn,numV_digs];rfl
theorem itoaT_pos{n:Int}(h:0≤n):itoaT n=digs 10 n.toNat:=by unfold itoaT;rw[if_neg (by omega)]
theorem int_at{ws:List Bs}{i:Nat}{n:Int}(h:ws[i]?=some (itoaT n))(h0:0≤n)(hn:n≤9223372036854775807):intR ws i=.ok n.toNat (i+1):=
 number_at (by rw[h,itoaT_pos h0]) (by omega)
theorem name_at{ws:List Bs}{i:Nat}{x:Bs}(h:ws[i]?=some x)(hx:nameB x=true):nameR ws i=.ok x (i+1):=by
 unfold nameR
 rw[next_at h]
 show wantR (nameB x) 201 x (i+1)=_
 rw[hx];rfl
theorem prefix_at(hU:RdU){ws:List Bs}{i:Nat}{p:Px}(h:ws[i]?=some (pxT p))(hn:p.n < 2^128)(hk:okP p.v p.n p.k=true):prefixR ws i=.ok p (i+1):=by
 unfold prefixR
 rw[next_at h]
 show wantR (rdP (pxT p)).isSome 151 ((rdP (pxT p)).getD px0) (i+1)=_
 rw[hU p hn hk];rfl
theorem dash_digs(u:Nat):(45:UInt8)∉digs 10 u:=digs_none (by omega) (by omega) (.inl (by decide))
theorem cut_dash(l m:List UInt8)(h:(45:UInt8)∉l):Lib.cut (l++45::m) [45]=(l,m,true):=by
 unfold Lib.cut
 rw[index_sign 45 l m h,if_pos (by omega)]
 simp only[Int.toNat_natCast]
 rw[List.take_left' rfl]
 congr 2
 rw[show l++45::m=(l++[45])++m by simp]
 exact List.drop_left' (by simp)
theorem cut_nodash(s:List UInt8)(h:(45:UInt8)∉s):Lib.cut s [45]=(s,[],false):=by
 unfold Lib.cut
 rcases Lib.index_spec s [45]with⟨h1,_⟩ | ⟨i,_,_,h3,_⟩
 ·rw[h1];rfl
 ·exact absurd (List.mem_of_getElem? ((occ_one s 45 i).1 h3)) h
theorem spanE_T(s:Nat×Nat):spanE (spanT s)=(digs 10 s.1,digs 10 s.2):=by
 unfold spanE spanT
 by_cases h:s.1=s.2
 ·rw[if_pos h,cut_nodash _ (dash_digs _),←h]
 ·rw[if_neg h,cut_dash _ _ (dash_digs _)]
theorem span_at{ws:List Bs}{i:Nat}{s:Nat×Nat}(h:ws[i]?=some (spanT s))(h1:s.1≤65535)(h2:s.2≤65535):spanR ws i=.ok s (i+1):=by
 unfold spanR
 rw[next_at h]
 show wantR (numOk 65535 (spanE (spanT s)).1&&numOk 65535 (spanE (spanT s)).2) 200 (numV (spanE (spanT s)).1,numV (spanE (spanT s)).2) (i+1)=_
 rw[spanE_T]
 show wantR (numOk 65535 (digs 10 s.1)&&numOk 65535 (digs 10 s.2)) 200 (numV (digs 10 s.1),numV (digs 10 s.2)) (i+1)=_
 rw[numOk_digs h1,numOk_digs h2,numV_digs,numV_digs];rfl
theorem took_yes_at{ws:List Bs}{i:Nat}{s:Bs}(h:ws[i]?=some s):tookR ws i s=.ok true (i+1):=by unfold tookR;rw[if_pos h]
theorem took_no_at{ws:List Bs}{i:Nat}{s:Bs}(h:ws[i]?≠some s):tookR ws i s=.ok false i:=by unfold tookR;rw[if_neg h]
theorem digs_first(u:Nat)(c:UInt8)(l:Bs)(h:¬(48≤c.toNat∧c.toNat≤57)):digs 10 u≠c::l:=fun he=>by
 obtain⟨d,hd,hc⟩:=digs_mem (b:=10) (by omega) u c (by rw[he];simp)
 rw[hc,sig_num (by omega),if_pos hd]at h
 omega
theorem proto_at{ws:List Bs}{i n:Nat}(h:ws[i]?=some (protoT n))(hn:n≤255):protoR ws i=.ok n (i+1):=by
 unfold protoR
 by_cases h6:n=6
 ·have:protoT n=kTcp:=by unfold protoT;rw[if_pos h6]
  rw[took_yes_at (by rw[h,this]),h6];rfl
 ·by_cases h17:n=17
  ·have e:protoT n=kUdp:=by unfold protoT;rw[if_neg h6,if_pos h17]
   rw[took_no_at (by rw[h,e];decide)]
   show(tookR ws i kUdp).bind _=_
   rw[took_yes_at (by rw[h,e]),h17];rfl
  ·have e:protoT n=digs 10 n:=by unfold protoT;rw[if_neg h6,if_neg h17]
   rw[e]at h
   rw[took_no_at (by rw[h];exact fun hh=>digs_first n 116 _ (by decide) (Option.some.inj hh))]
   show(tookR ws i kUdp).bind _=_
   rw[took_no_at (by rw[h];exact fun hh=>digs_first n 117 _ (by decide) (Option.some.inj hh))]
   exact number_at h hn
def setF(M m:Mt)(k:Nat):Mt:=match k with
 | 0=>{ m with inn:=M.inn }
 | 1=>{ m with src:=M.src }
 | 2=>{ m with dst:=M.dst }
 | 3=>{ m with proto:=M.proto }
 | 4=>{ m with sp:=M.sp }
 |_=>{ m with dp:=M.dp }
def stepF(M m:Mt)(k:Nat):Mt:=setF M { m with asks:=m.asks|||2^k } k
structure MtIn(M:Mt):Prop where
 i1:M.inn.1≤65535
 i2:M.inn.2≤65535
 s1:M.sp.1≤65535
 s2:M.sp.2≤65535
 d1:M.dp.1≤65535
 d2:M.dp.2≤65535
 pr:M.proto≤255
 sn:M.src.n < 2^128
 dn:M.dst.n < 2^128
theorem readF_at(hU:RdU){M m:Mt}(hM:MtIn M)(hs:M.asks.testBit 1=true→okP M.src.v M.src.n M.src.k=true)(hd:M.asks.testBit 2=true→okP M.dst.v M.dst.n M.dst.k=true){k:Nat}(hk:k < 6)(hb:M.asks.testBit k=true){ws:List Bs}{i:Nat}{y:Bs}(hy:(fieldWs M k)[1]?=some y)(h:ws[i]?=some y):readF k m ws i=.ok (setF M m k) (i+1):=by
 match k,hk with
 | 0,_=>cases hy;unfold readF;rw[span_at h hM.i1 hM.i2];rfl
 | 1,_=>cases hy;unfold readF;rw[prefix_at hU h hM.sn (hs hb)];rfl
 | 2,_=>cases hy;unfold readF;rw[prefix_at hU h hM.dn (hd hb)];rfl
 | 3,_=>cases hy;unfold readF;rw[proto_at h hM.pr];rfl
 | 4,_=>cases hy;unfold readF;rw[span_at h hM.s1 hM.s2];rfl
 | 5,_=>cases hy;unfold readF;rw[span_at h hM.d1 hM.d2];rfl
theorem fld_key(M:Mt){k:Nat}(hk:k < 6):∃x y,fieldWs M k=[x,y]∧fld x=some k:=by
 match k,hk with
 | 0,_=>exact⟨_,_,rfl,by decide⟩
 | 1,_=>exact⟨_,_,rfl,by decide⟩
 | 2,_=>exact⟨_,_,rfl,by decide⟩
 | 3,_=>exact⟨_,_,rfl,by decide⟩
 | 4,_=>exact⟨_,_,rfl,by decide⟩
 | 5,_=>exact⟨_,_,rfl,by decide⟩
theorem setF_asks(M m:Mt)(k:Nat):(setF M m k).asks=m.asks:=by unfold setF;split<;>rfl
theorem field_at(hU:RdU){M m:Mt}(hM:MtIn M)(hs:M.asks.testBit 1=true→okP M.src.v M.src.n M.src.k=true)(hd:M.asks.testBit 2=true→okP M.dst.v M.dst.n M.dst.k=true){k:Nat}(hk:k < 6)(hb:M.asks.testBit k=true)(hm:m.asks.testBit k=false){pre r:List Bs}:fieldR (pre++(fieldWs M k++r)) pre.length m=.ok (true,stepF M m k) (pre.length+2):=by
 obtain⟨x,y,e,hx⟩:=fld_key M hk
 have h0:(pre++(fieldWs M k++r))[pre.length]?=some x:=by rw[e];simp
 have h1:(pre++(fieldWs M k++r))[pre.length+1]?=some y:=by rw[e,List.getElem?_append_right (by omega)];simp
 unfold fieldR
 rw[h0]
 show(match fld x with|none=>_|some k=>_)=_
 rw[hx]
 show(match m.asks.testBit k with|true=>_|false=>_)=_
 rw[hm]
 show(readF k { m with asks:=m.asks|||2^k } _ (pre.length+1)).bind _=_
 rw[readF_at hU hM hs hd hk hb (y:=y) (by rw[e];rfl) h1]
 rfl
def noF(r:List Bs):Prop:=∀x,r[0]?=some x→fld x=none
theorem field_no_at{pre r:List Bs}{m:Mt}(h:noF r):fieldR (pre++r) pre.length m=.ok (false,m) pre.length:=by
 unfold fieldR
 have e:(pre++r)[pre.length]?=r[0]?:=by rw[List.getElem?_append_right (by omega),Nat.sub_self]
 rw[e]
 cases hx:r[0]? with
 |none=>rfl
 |some x=>
  show(match fld x with|none=>_|some k=>_)=_
  rw[h x hx]
theorem testBit_step{a k j:Nat}(h:j≠k):(a|||2^k).testBit j=a.testBit j:=by
 rw[Nat.testBit_or,Nat.testBit_two_pow_of_ne (Ne.symm h),Bool.or_false]
theorem fields_at(hU:RdU){M:Mt}(hM:MtIn M)(hs:M.asks.testBit 1=true→okP M.src.v M.src.n M.src.k=true)(hd:M.asks.testBit 2=true→okP M.dst.v M.dst.n M.dst.k=true){r:List Bs}(hr:noF r) :
  ∀(ks:List Nat) (pre:List Bs) (m:Mt) (f:Nat),(∀k∈ks,k < 6∧M.asks.testBit k=true∧m.asks.testBit k=false)→ks.Nodup→ks.length+1≤f→
   matchL (pre++(ks.flatMap (fieldWs M)++r)) f pre.length m=.ok (ks.foldl (stepF M) m) (pre.length+2*ks.length)
 | [],pre,m,f+1,_,_,_=>by
  unfold matchL
  rw[show pre++(([]:List Nat).flatMap (fieldWs M)++r)=pre++r by simp,field_no_at hr]
  rfl
 |k::ks,pre,m,f+1,h,hn,hf=>by
  have hk:=h k (by simp)
  rw[List.nodup_cons]at hn
  unfold matchL
  have e:pre++((k::ks).flatMap (fieldWs M)++r)=pre++(fieldWs M k++(ks.flatMap (fieldWs M)++r)):=by simp
  rw[e,field_at hU hM hs hd hk.1 hk.2.1 hk.2.2]
  obtain⟨x,y,e2,_⟩:=fld_key M hk.1
  have hl:(fieldWs M k).length=2:=by rw[e2];rfl
  have ih:=fields_at hU hM hs hd hr ks (pre++fieldWs M k) (stepF M m k) f (fun j hj=>by
   have h1:=h j (List.mem_cons_of_mem _ hj)
   refine⟨h1.1,h1.2.1,?_⟩
   unfold stepF
   rw[setF_asks]
   show(m.asks|||2^k).testBit j=false
   rw[testBit_step (show j≠k from fun he=>hn.1 (by rw[←he];exact hj))]
   exact h1.2.2) hn.2 (by simp only[List.length_cons]at hf;omega)
  have hpl:(pre++fieldWs M k).length=pre.length+2:=by rw[List.length_append,hl]
  rw[List.append_assoc,hpl]at ih
  show matchL _ f (pre.length+2) (stepF M m k)=_
  rw[ih]
  simp only[List.foldl_cons,List.length_cons]
  congr 1
  omega
 |_,_,_,0,_,_,hf=>by omega
def ksOf(M:Mt):List Nat:=[0,1,2,3,4,5].filter fun k=>M.asks.testBit k
theorem flat_filter(M:Mt):∀l:List Nat,l.flatMap (putWs M)=(l.filter fun k=>M.asks.testBit k).flatMap (fieldWs M)
 | []=>rfl
 |k::l=>by
  rw[List.flatMap_cons,flat_filter M l,List.filter_cons]
  unfold putWs
  cases M.asks.testBit k<;>simp
theorem matchWs_ks(M:Mt):matchWs M=(ksOf M).flatMap (fieldWs M):=by
 unfold ksOf
 rw[←flat_filter]
 simp[matchWs]
theorem ks_mem{M:Mt}{k:Nat}(h:k∈ksOf M):k < 6∧M.asks.testBit k=true:=by
 unfold ksOf at h
 rw[List.mem_filter]at h
 refine⟨?_,h.2⟩
 have:=h.1
 simp at this
 omega
theorem ks_nodup(M:Mt):(ksOf M).Nodup:=by
 unfold ksOf
 exact List.Pairwise.filter _ (by decide:([0,1,2,3,4,5]:List Nat).Nodup)
theorem mt_ext{a b:Mt}(h0:a.asks=b.asks)(h1:a.inn=b.inn)(h2:a.src=b.src)(h3:a.dst=b.dst)(h4:a.proto=b.proto)(h5:a.sp=b.sp)(h6:a.dp=b.dp):a=b:=by
 cases a;cases b;simp_all
theorem fold_asks(M:Mt):∀(ks:List Nat) (m:Mt),(ks.foldl (stepF M) m).asks=ks.foldl (fun a k=>a|||2^k) m.asks
 | [],_=>rfl
 |k::ks,m=>by
  rw[List.foldl_cons,List.foldl_cons,fold_asks M ks]
  unfold stepF
  rw[setF_asks]
theorem asks_all:∀a:Fin 64,([0,1,2,3,4,5].filter fun k=>a.val.testBit k).foldl (fun a k=>a|||2^k) 0=a.val:=by decide+kernel
theorem fold_part{α:Type}(M:Mt)(f:Mt→α)(j:Nat)(h1:∀m,f (stepF M m j)=f M)(h2:∀m k,k < 6→k≠j→f (stepF M m k)=f m):∀(ks:List Nat) (m:Mt),(∀k∈ks,k < 6)→ks.Nodup→(j∈ks→f (ks.foldl (stepF M) m)=f M)∧(j∉ks→f (ks.foldl (stepF M) m)=f m)
 | [],m,_,_=>⟨fun h=>absurd h (by simp),fun _=>rfl⟩
 |k::ks,m,hk,hn=>by
  rw[List.nodup_cons]at hn
  have ih:=fold_part M f j h1 h2 ks (stepF M m k) (fun x hx=>hk x (List.mem_cons_of_mem _ hx)) hn.2
  rw[List.foldl_cons]
  by_cases he:k=j
  ·subst he
   refine⟨fun _=>?_,fun h=>absurd (List.mem_cons_self) h⟩
   rw[ih.2 hn.1];exact h1 m
  ·refine⟨fun h=>ih.1 ?_,fun h=>?_⟩
   ·rcases List.mem_cons.1 h with h|h
    ·exact absurd h.symm he
    ·exact h
   ·rw[ih.2 fun hh=>h (List.mem_cons_of_mem _ hh)]
    exact h2 m k (hk k (by simp)) he
theorem mem_ks{M:Mt}{k:Nat}(hk:k < 6):k∈ksOf M↔M.asks.testBit k=true:=by
 unfold ksOf
 rw[List.mem_filter]
 refine⟨fun h=>h.2,fun h=>⟨?_,h⟩⟩
 simp;omega
theorem pxB_eq{p:Px}(h:pxB p=true):p=px0:=by
 unfold pxB at h
 have:=of_decide_eq_true h
 cases p
 simp_all[px0]
theorem fold_M{M:Mt}(ha:M.asks < 64)(z0:M.asks.testBit 0=false→M.inn=(0,0))(z1:M.asks.testBit 1=false→M.src=px0)(z2:M.asks.testBit 2=false→M.dst=px0)(z3:M.asks.testBit 3=false→M.proto=0)(z4:M.asks.testBit 4=false→M.sp=(0,0))(z5:M.asks.testBit 5=false→M.dp=(0,0)):(ksOf M).foldl (stepF M) mt0=M:=by
 have part:∀{α:Type} (f:Mt→α) (j:Nat),j < 6→(∀m,f (stepF M m j)=f M)→(∀m k,k < 6→k≠j→f (stepF M m k)=f m)→(M.asks.testBit j=false→f M=f mt0)→f ((ksOf M).foldl (stepF M) mt0)=f M:=fun f j hj h1 h2 h3=>by
  have:=fold_part M f j h1 h2 (ksOf M) mt0 (fun k hk=>(ks_mem hk).1) (ks_nodup M)
  cases hb:M.asks.testBit j with
  |true=>exact this.1 ((mem_ks hj).2 hb)
  |false=>rw[this.2 (fun hh=>by rw[(mem_ks hj).1 hh]at hb;cases hb)];exact(h3 hb).symm
 have cas:∀{P:Nat→Prop} (j:Nat),(∀k,k < 6→k≠j→P k)→∀k,k < 6→k≠j→P k:=fun _ h=>h
 refine mt_ext ?_ (part (·.inn) 0 (by omega) (fun _=>rfl) (fun m k hk hj=>?_) z0) (part (·.src) 1 (by omega) (fun _=>rfl) (fun m k hk hj=>?_) z1) (part (·.dst) 2 (by omega) (fun _=>rfl) (fun m k hk hj=>?_) z2) (part (·.proto) 3 (by omega) (fun _=>rfl) (fun m k hk hj=>?_) z3) (part (·.sp) 4 (by omega) (fun _=>rfl) (fun m k hk hj=>?_) z4) (part (·.dp) 5 (by omega) (fun _=>rfl) (fun m k hk hj=>?_) z5)
 ·rw[fold_asks]
  exact asks_all ⟨M.asks,ha⟩
 all_goals (match k,hk,hj with
  | 0,_,hj=>first|rfl|exact absurd rfl hj
  | 1,_,hj=>first|rfl|exact absurd rfl hj
  | 2,_,hj=>first|rfl|exact absurd rfl hj
  | 3,_,hj=>first|rfl|exact absurd rfl hj
  | 4,_,hj=>first|rfl|exact absurd rfl hj
  | 5,_,hj=>first|rfl|exact absurd rfl hj)
theorem check_parts{M:Mt}(h:checkM M=true):M.asks < 64∧(M.asks.testBit 0=false→M.inn=(0,0))∧(M.asks.testBit 1=false→M.src=px0)∧(M.asks.testBit 2=false→M.dst=px0)∧(M.asks.testBit 3=false→M.proto=0)∧(M.asks.testBit 4=false→M.sp=(0,0))∧(M.asks.testBit 5=false→M.dp=(0,0))∧
  (M.asks.testBit 1=true→okP M.src.v M.src.n M.src.k=true)∧(M.asks.testBit 2=true→okP M.dst.v M.dst.n M.dst.k=true):=by
 unfold checkM at h
 simp only[Bool.and_eq_true]at h
 obtain⟨⟨h0,h1,h2,h3,h4,h5,h6⟩,⟨_,_,_,_⟩,⟨g1,g2,_⟩,_⟩:=h
 refine⟨by simpa using h0,fun hb=>?_,fun hb=>?_,fun hb=>?_,fun hb=>?_,fun hb=>?_,fun hb=>?_,fun hb=>?_,fun hb=>?_⟩
 ·rw[hb]at h1;exact of_decide_eq_true h1
 ·rw[hb]at h2;exact pxB_eq h2
 ·rw[hb]at h3;exact pxB_eq h3
 ·rw[hb]at h4;exact of_decide_eq_true h4
 ·rw[hb]at h5;exact of_decide_eq_true h5
 ·rw[hb]at h6;exact of_decide_eq_true h6
 ·rw[hb]at g1;exact g1
 ·rw[hb]at g2;exact g2
def mWs(M:Mt):List Bs:=if M.asks=0 then [kAny] else matchWs M
theorem matchT_mWs(M:Mt):matchT M=joinC 32 (mWs M):=by unfold matchT mWs;split<;>rfl
theorem ks_ne{M:Mt}(h0:M.asks≠0)(h:M.asks < 64):ksOf M≠[]:=fun he=>by
 have:=asks_all ⟨M.asks,h⟩
 have he':([0,1,2,3,4,5].filter fun k=>M.asks.testBit k)=[]:=he
 rw[he']at this
 exact h0 this.symm
theorem fld_any:fld kAny=none:=by decide
theorem match_at(hU:RdU){M:Mt}(hM:MtIn M)(hc:checkM M=true){pre r:List Bs}(hr:noF r):matchR (pre++(mWs M++r)) pre.length=.ok M (pre.length+(mWs M).length):=by
 obtain⟨ha,z0,z1,z2,z3,z4,z5,hs,hd⟩:=check_parts hc
 unfold matchR
 by_cases h0:M.asks=0
 ·have e:mWs M=[kAny]:=by unfold mWs;rw[if_pos h0]
  rw[e,took_yes_at (by simp)]
  have:M=mt0:=by
   refine mt_ext h0 (z0 (by rw[h0];rfl)) (z1 (by rw[h0];rfl)) (z2 (by rw[h0];rfl)) (z3 (by rw[h0];rfl)) (z4 (by rw[h0];rfl)) (z5 (by rw[h0];rfl))
  rw[this];rfl
 ·have e:mWs M=(ksOf M).flatMap (fieldWs M):=by unfold mWs;rw[if_neg h0,matchWs_ks]
  rw[e]
  obtain⟨k,ks,hks⟩:=List.exists_cons_of_ne_nil (ks_ne h0 ha)
  have hkm:k∈ksOf M:=by rw[hks];simp
  obtain⟨x,y,e2,hx⟩:=fld_key M (ks_mem hkm).1
  have hat:(pre++((ksOf M).flatMap (fieldWs M)++r))[pre.length]?=some x:=by
   rw[hks,List.flatMap_cons,e2,List.getElem?_append_right (by omega)];simp
  rw[took_no_at (by rw[hat];intro hh;rw[Option.some.inj hh]at hx;rw[fld_any]at hx;cases hx)]
  show(fieldR (pre++((ksOf M).flatMap (fieldWs M)++r)) pre.length mt0).bind _=_
  have e3:pre++((ksOf M).flatMap (fieldWs M)++r)=pre++(fieldWs M k++(ks.flatMap (fieldWs M)++r)):=by rw[hks];simp
  have nb:∀j,mt0.asks.testBit j=false:=fun j=>Nat.zero_testBit j
  have hn:=ks_nodup M
  rw[hks,List.nodup_cons]at hn
  have hf:=field_at hU (m:=mt0) hM hs hd (ks_mem hkm).1 (ks_mem hkm).2 (nb k) (pre:=pre) (r:=ks.flatMap (fieldWs M)++r)
  have hlen2:(fieldWs M k).length=2:=by rw[e2];rfl
  have hll:∀l:List Nat,(∀j∈l,j < 6)→(l.flatMap (fieldWs M)).length=2*l.length:=by
   intro l
   induction l with
   |nil=>intro _;rfl
   |cons j l ih=>
    intro hj
    obtain⟨_,_,e4,_⟩:=fld_key M (hj j (by simp))
    rw[List.flatMap_cons,List.length_append,ih (fun i hi=>hj i (List.mem_cons_of_mem _ hi)),e4]
    simp only[List.length_cons,List.length_nil];omega
  have hm:=fields_at hU hM hs hd hr ks (pre++fieldWs M k) (stepF M mt0 k) ((pre++((ksOf M).flatMap (fieldWs M)++r)).length+1 - (pre.length+2)) (fun j hj=>by
   have hj2:j∈ksOf M:=by rw[hks];exact List.mem_cons_of_mem _ hj
   refine⟨(ks_mem hj2).1,(ks_mem hj2).2,?_⟩
   unfold stepF
   rw[setF_asks]
   show(mt0.asks|||2^k).testBit j=false
   rw[testBit_step (show j≠k from fun he=>hn.1 (by rw[←he];exact hj))]
   exact nb j) hn.2 (by
    rw[e3]
    simp only[List.length_append,hlen2,hll ks (fun j hj=>(ks_mem (M:=M) (by rw[hks];exact List.mem_cons_of_mem _ hj)).1)]
    omega)
  have hpl:(pre++fieldWs M k).length=pre.length+2:=by rw[List.length_append,hlen2]
  rw[List.append_assoc,←e3,hpl]at hm
  rw[←e3]at hf
  rw[hf]
  show matchL _ _ (pre.length+2) (stepF M mt0 k)=_
  rw[hm,hll _ (fun j hj=>(ks_mem hj).1),hks]
  have:=fold_M ha z0 z1 z2 z3 z4 z5
  rw[hks,List.foldl_cons]at this
  rw[this]
  simp only[List.length_cons]
  congr 1
  omega
end Go.Proofs.YtnncigmpcdehnaaGreatDoor
