import Derived.Test.YtnncigmpcdehnaaGreatDoorQf46
namespace Go.Proofs.YtnncigmpcdehnaaGreatDoor
set_option maxRecDepth 100000
open Go Go.RowKit Go.Lib Go.Sort _root_.Go.Proofs.Tryz
abbrev TX(cf:CF)(s:ey):Sx.Loop:=.mk Nat 0 (fun i=>i≤cf.ag.length) (gT 5) (fun i=>bV cf s (ic ([],0) (fun i=>kj (cf.ag.getD i default)) i)) (fun i=>i+1) (fun i=>cf.ag.length - i) Unit (fun _=>True) (fun _=>[(1,.ptr 0 0),(4,.ptr 1 0)]) (fun _=>bV cf s (ic ([],0) (fun i=>kj (cf.ag.getD i default)) cf.ag.length)) (fun _=>())
def M8(cf:CF)(s:ey):List Sx.Loop:=[TX cf s,
 .mk Nat 0 (fun i=>i≤cf.ae.length) (gT 6) (fun i=>bV cf s (ic (q1 cf) (fun i=>gQ (cf.ae.getD i default)) i)) (fun i=>i+1) (fun i=>cf.ae.length - i) Unit (fun _=>True) (fun _=>[(1,.ptr 0 0),(4,.ptr 1 0)]) (fun _=>bV cf s (ic (q1 cf) (fun i=>gQ (cf.ae.getD i default)) cf.ae.length)) (fun _=>()),
 .mk Nat 0 (fun i=>i≤cf.af.length) (gT 9) (fun i=>bV cf s (ic (q2 cf) (fun i=>gW (cf.af.getD i default)) i)) (fun i=>i+1) (fun i=>cf.af.length - i) Unit (fun _=>True) (fun _=>[(1,.ptr 0 0),(4,.ptr 1 0)]) (fun _=>bV cf s (ic (q2 cf) (fun i=>gW (cf.af.getD i default)) cf.af.length)) (fun _=>()),
 .mk Nat 0 (fun i=>i≤cf.aa.length) (gT 11) (fun i=>bV cf s (ic (q3 cf) (fun i=>fp (cf.aa.getD i default)) i)) (fun i=>i+1) (fun i=>cf.aa.length - i) Unit (fun _=>True) (fun _=>[(1,.ptr 0 0),(4,.ptr 1 0)]) (fun _=>bV cf s (ic (q3 cf) (fun i=>fp (cf.aa.getD i default)) cf.aa.length)) (fun _=>()),
 .mk Nat 0 (fun i=>i≤cf.rules.length) (gT 13) (fun i=>bV cf s (ic (q4 cf) (fun i=>ij (cf.rules.getD i default)) i)) (fun i=>i+1) (fun i=>cf.rules.length - i) Unit (fun _=>True) (fun _=>[(1,.ptr 0 0),(4,.ptr 1 0)]) (fun _=>bV cf s (ic (q4 cf) (fun i=>ij (cf.rules.getD i default)) cf.rules.length)) (fun _=>())]
def SJ(nz:Bool)(p:fx):Value:=match nz with
 |true=>.tuple #[ab [],.int .i64 p.2]
 |false=>.tuple #[ab p.1,.int .i64 0]
theorem IB{w:World}(cf:CF)(s:ey)(hr:dj w [] cf s)(hw:da cf)(hm:FF cf 1048576)(hl:KK cf≤1048576)(d1 d2 d4 bl nz:Bool)(p6 p7 p8:fx)(x:Bs)
  (h1:(cf.aS==1)=d1) (h2:(cf.aS==2)=d2) (h4:(cf.aS==4)=d4) (hx:x=oL cf.aS 0) (e6:p6=cA (d1||(d2||d4)) 2 (q5 cf)) (e7:p7=eD (Dl++x) p6) (hbl:decide (p7.1.length≤65536)=bl) (e8:p8=cA bl 4 p7) (hnz:(p8.2 !=0)=nz) :
  Calls prog 29 #[.agg (al cf s).toArray] w (Rn w (SJ nz p8)):=by
 unfold KK at hl
 have L1:(q1 cf).1.length≤5000000000000000:=by have:=iQ (fE (l:=cf.ag) (F:=kj) (p0:=([],0)) (K:=1000) (fun x _ p=>wV x p) cf.ag.length (Nat.le_refl _)) (Nat.le_refl _) (by omega) (by omega);show(ic ([],0) _ _).1.length≤_;simpa using this
 have L2:(q2 cf).1.length≤10000000000000000:=by have:=iQ (fE (l:=cf.ae) (F:=gQ) (p0:=q1 cf) (K:=200000000) (fun x _ p=>tX x p) cf.ae.length (Nat.le_refl _)) (Nat.le_refl _) (by omega) (by omega);show(ic (q1 cf) _ _).1.length≤_;omega
 have L3:(q3 cf).1.length≤15000000000000000:=by have:=iQ (fE (l:=cf.af) (F:=gW) (p0:=q2 cf) (K:=200000000) (fun x hx p=>uK x (hm.m x hx) (hw.m x hx) p) cf.af.length (Nat.le_refl _)) (Nat.le_refl _) (by omega) (by omega);show(ic (q2 cf) _ _).1.length≤_;omega
 have L4:(q4 cf).1.length≤20000000000000000:=by have:=iQ (fE (l:=cf.aa) (F:=fp) (p0:=q3 cf) (K:=200000000) (fun x hx p=>sb x (hm.i x hx) p) cf.aa.length (Nat.le_refl _)) (Nat.le_refl _) (by omega) (by omega);show(ic (q3 cf) _ _).1.length≤_;omega
 have L5:(q5 cf).1.length≤25000000000000000:=by have:=iQ (fE (l:=cf.rules) (F:=ij) (p0:=q4 cf) (K:=2000000000) (fun x hx p=>wO x (hw.l x hx) (hm.r x hx) p) cf.rules.length (Nat.le_refl _)) (Nat.le_refl _) (by omega) (by omega);show(ic (q4 cf) _ _).1.length≤_;omega
 have L6:p6.1=(q5 cf).1:=by rw[e6];rfl
 have lx:x.length≤100:=by rw[hx];exact uf _ _
 have L7:p7.1.length≤30000000000000000:=by
  have:=jA (Dl++x) p6
  rw[e7]
  rw[List.length_append,L6]at this
  have hk:Dl.length=8:=rfl
  omega
 have T:∃T,T=SJ nz p8:=⟨_,rfl⟩
 obtain⟨T,hT⟩:=T
 rw[←hT]
 have rd0:=RM cf s hr hw hm (by omega) ([],0) (Nat.zero_le _) T
 have rd1:=RL cf s hr hw hm (by omega) (q1 cf) (by omega) T
 have jo:=RJ cf s hr hw hm (by omega) (q2 cf) (by omega) T
 have rd3:=RI cf s hr hw hm (by omega) (q3 cf) (by omega) T
 have rd4:=RH cf s hr hw hm (by omega) (q4 cf) (by omega) T
 have c192:Value.bool (cf.aS==1)=.bool d1:=congrArg _ h1
 have c196:Value.bool (cf.aS==2)=.bool d2:=congrArg _ h2
 have c201:Value.bool (cf.aS==4)=.bool d4:=congrArg _ h4
 have c203:=fun W (_:ai [] w W) g (hb':au W g 142 (eS (q5 cf)))=>fV (b:=⟨w,[],fun _ _=>False⟩) e6 (i:=1) (.ak _) rfl hb'
 have c207:=fun W (_:ai [] w W)=>(show Calls prog 82 #[.int .i64 cf.aS,.int .i64 0] W (Rn W (ab x))from hx ▸ IY cf.aS 0 W)
 have c208:=fun W=>di (.const (ab Dl)) (.tmp 207) Dl x rfl (by show 8+_≤_;omega) W
 have c209:=fun W (_:ai [] w W) g (hb':au W g 142 (eS p6))=>oe (b:=⟨w,[],fun _ _=>False⟩) e7 (i:=1) (.ak _) rfl (by rw[L6,List.length_append];show _+(8+_)≤_;omega) hb'
 have c215:=iq p7.1
 have c216:Value.bool (decide ((p7.1.length:Int)≤65536))=.bool bl:=by rw[←hbl];congr 1;rw[decide_eq_decide];omega
 have c217:=fun W (_:ai [] w W) g (hb':au W g 142 (eS p7))=>fV (b:=⟨w,[],fun _ _=>False⟩) e8 (i:=1) (.ak _) rfl hb'
 have c222:Value.bool (p8.2 !=0)=.bool nz:=congrArg _ hnz
 have zz:SJ nz p8=T:=hT.symm
 have ee:∀i,gT i 0=gT i 0∧bV cf s ([],0)=bV cf s ([],0):=fun i=>⟨rfl,rfl⟩
 have E:∀i p,gT i 0=gT i 0∧bV cf s p=bV cf s p:=fun i p=>⟨rfl,rfl⟩
 have CH:=And.intro (Nat.zero_le cf.ag.length) (And.intro (E 5 ([],0)) (And.intro rd0 fun(_:Unit) (_:True)=>And.intro (Nat.zero_le cf.ae.length) (And.intro (E 6 (q1 cf)) (And.intro rd1 fun(_:Unit) (_:True)=>And.intro (Nat.zero_le cf.af.length) (And.intro (E 9 (q2 cf)) (And.intro jo fun(_:Unit) (_:True)=>And.intro (Nat.zero_le cf.aa.length) (And.intro (E 11 (q3 cf)) (And.intro rd3 fun(_:Unit) (_:True)=>And.intro (Nat.zero_le cf.rules.length) (And.intro (E 13 (q4 cf)) (And.intro rd4 fun(_:Unit) (_:True)=>And.intro c192 (qP.mk (b:=d1) (fun _=>c196) (qP.mk (b:=d1||d2) (fun _=>c201) (Sx.t8 c203 c207 c208 c209 c215 c216 c217 c222 zz)))))))))))))
 clear c192 c196 c201 c203 c207 c208 c209 c215 c216 c217 c222 zz rd0 rd1 jo rd3 rd4 ee E h1 h2 h4 hbl hnz hx e6 e7 e8 hT L1 L2 L3 L4 L5 L6 L7 lx hl hw hm hr
 refine Sx.aF (args:=[.agg (al cf s).toArray]) [(192,.is (.bool d1)),(196,.is (.bool d2)),(201,.is (.bool d4)),(203,.fP 0 (eS p6) (.tuple #[])),(207,.call (ab x)),(208,.bin (ab (Dl++x))),(209,.fP 0 (eS p7) (.tuple #[])),(215,.is (.int .i64 (p7.1.length:Int))),(216,.is (.bool bl)),(217,.fP 0 (eS p8) (.tuple #[])),(222,.is (.bool nz))] (M8 cf s) (by kernel_rfl) func29 rfl (cn rfl) ?_
 cases d1<;>cases d2<;>cases d4<;>cases nz<;>exact Eq.mp (by kernel_rfl) CH
theorem IC{w:World}(cf:CF)(s:ey)(hr:dj w [] cf s)(hw:da cf)(hm:FF cf 1048576)(hl:KK cf≤1048576):Calls prog 29 #[.agg (al cf s).toArray] w (Rn w (.tuple #[ab (dG cf).1,.int .i64 (dG cf).2])):=by
 have hb:((cf.aS==1)||((cf.aS==2)||(cf.aS==4)))=By cf.aS:=by
  have:∀k:Int,(cf.aS==k)=decide (cf.aS=k):=fun k=>by by_cases h:cf.aS=k<;>simp[h]
  unfold By;rw[this,this,this]
 have key:=IB cf s hr hw hm hl _ _ _ _ _ _ (q6 cf) (q7 cf) _ rfl rfl rfl rfl rfl (by rw[hb];rfl) rfl rfl rfl
 have h7:=I3 cf hw
 have:SJ ((q7 cf).2 !=0) (q7 cf)=.tuple #[ab (dG cf).1,.int .i64 (dG cf).2]:=by
  rw[←h7]
  cases((q7 cf).2 !=0)<;>rfl
 rwa [this]at key
set_option maxRecDepth 100000
open Go Go.RowKit Go.Lib Go.Sort _root_.Go.Proofs.Tryz
theorem MF{w:World}{S:List Nat}{size n c:Nat}{A:Option Go.Addr}{xs:List Value}(h:kV w S size (.slice A n c) n xs) :
  ∀W,ai S w W→∃A' c',Value.slice A n c=.slice A' n c'∧(0 < xs.length→∃ad,A'=some ad∧∀(j:Nat) (u:Value),xs[j]?=some u→W.cell? (ad.add j)=some u):=by
 intro W hW
 obtain⟨h1,A',c',h2,h3⟩:=h.aG hW
 refine⟨A',c',h2,fun h0=>?_⟩
 have hn:0 < n:=by
  rcases Nat.eq_zero_or_pos n with hz|hz
  ·rw[h1,hz,Nat.zero_mul]at h0;omega
  ·exact hz
 obtain⟨g,o,ha,_,_,hr⟩:=h3 hn
 exact⟨⟨g,o,none⟩,ha,fun j u hu=>by rw[Addr.add_lit];exact hr j u hu⟩
theorem vM{w:World}{size n c B:Nat}{A:Option Go.Addr}{xs:List Value}(h:kV w [] size (.slice A n c) n xs)(ho:∀u∈xs,u.oneCell'=true)(hn:n≤1000000000)(hb:B≤1000) :
  (∀W,ai [] w W→∃A' c',Value.slice A n c=.slice A' n c'∧(0 < xs.length→∃ad,A'=some ad∧∀(j:Nat) (u:Value),xs[j]?=some u→W.cell? (ad.add j)=some u))∧xs.length=n*size∧(∀u∈xs,u.oneCell'=true)∧0+n≤maxLen∧(0+n)*B≤140737488355328:=
 ⟨MF h,h.1,ho,by unfold maxLen;omega,Nat.le_trans (Nat.mul_le_mul (show 0+n≤1000000000 by omega) hb) (by decide)⟩
theorem vK{cells:List Value}{size n B:Nat}(hl:cells.length=1*size)(ha:cells.all (fun u=>u.oneCell')=true)(hn:n≤1000000000)(hb:B≤1000) :
  True∧cells.length=1*size∧(∀u:Value,u∈cells→u.oneCell'=true)∧0+n+1≤maxLen∧(0+n+1)*B≤140737488355328:=
 ⟨trivial,hl,fun u hu=>List.all_eq_true.1 ha u hu,by unfold maxLen;omega,Nat.le_trans (Nat.mul_le_mul (show 0+n+1≤1000000001 by omega) hb) (by decide)⟩
theorem vL{n:Nat}:(0:Int)=((0:Nat):Int)∧((n:Nat):Int)=((n:Nat):Int)∧0≤n∧n≤0+n+1:=⟨rfl,rfl,Nat.zero_le _,by omega⟩
theorem all_map{α:Type}{f:α→Value}(hf:∀x,(f x).oneCell'=true)(l:List α):∀u∈l.map f,u.oneCell'=true:=fun u hu=>by
 obtain⟨x,_,rfl⟩:=List.mem_map.1 hu
 exact hf x
theorem qL{α:Type}{f:α→List Value}(hf:∀x,(f x).all (fun u=>u.oneCell')=true)(l:List α):∀u∈l.flatMap f,u.oneCell'=true:=fun u hu=>by
 obtain⟨x,_,hx⟩:=List.mem_flatMap.1 hu
 exact List.all_eq_true.1 (hf x) u hx
def O6:List Value:=[.int .i64 77]
def O5:List Value:=oc.cells++[.int .i64 77]
def O8:List Value:=.string ⟨#[]⟩::(mF.cells++[.int .i64 0,.int .i64 77,.string ⟨#[]⟩,.string ⟨#[]⟩])
def O7:List Value:=[.string ⟨#[120]⟩,.int .u64 0,.int .u64 0,.int .u64 0]
def O9:List Value:=[.string ⟨#[]⟩,.int .i64 77,.int .i64 0]
def DE(k0 k1 k2 k3 k4:Nat)(cf:CF):List Sx.Atom:=[.s k0 0 cf.ag.length 0,.s k1 0 cf.ae.length 0,.s k2 0 cf.rules.length 0,.s k3 0 cf.af.length 0,.s k4 0 cf.aa.length 0,.v (.int .i64 cf.aS)]
def TP(cf:CF)(l:List Sx.SV)(mem:List Sx.Row):Prop:=∃k0 k1 k2 k3 k4,l=[.dD (DE k0 k1 k2 k3 k4 cf)]∧mem[k0]?=some ⟨3,.own 1 (cf.ag.length+1) (cf.cp++O6)⟩∧mem[k1]?=some ⟨118,.own 19 (cf.ae.length+1) (cf.cr++O5)⟩∧mem[k2]?=some ⟨81,.own 49 (cf.rules.length+1) (cf.cl++O8)⟩∧mem[k3]?=some ⟨122,.own 4 (cf.af.length+1) (cf.cm++O7)⟩∧mem[k4]?=some ⟨124,.own 3 (cf.aa.length+1) (cf.ci++O9)⟩
theorem KD(w:World)(cf:CF)(s:ey)(hr:dj w [] cf s)(hf:fb cf):Calls prog 27 #[.agg (al cf s).toArray] w (Sx.cq ⟨w,[],fun _ _=>False⟩ (TP cf)):=by
 have c8:=vM hr.p (all_map (fun _=>rfl) cf.ag) hf.p (B:=bytesOf 3) dU.1
 have c20:=vM hr.r (qL (fun _=>rfl) cf.ae) hf.r (B:=bytesOf 118) dU.2.1
 have c33:=vM hr.l (qL (fun _=>rfl) cf.rules) hf.l (B:=bytesOf 81) dU.2.2.1
 have c46:=vM hr.m (qL (fun _=>rfl) cf.af) hf.m (B:=bytesOf 122) dU.2.2.2.1
 have c59:=vM hr.i (qL (fun _=>rfl) cf.aa) hf.i (B:=bytesOf 124) dU.2.2.2.2
 have c10:=vK (cells:=O6) (size:=1) rfl rfl hf.p (B:=bytesOf 3) dU.1
 have c23:=vK (cells:=O5) (size:=19) rfl rfl hf.r (B:=bytesOf 118) dU.2.1
 have c36:=vK (cells:=O8) (size:=49) rfl rfl hf.l (B:=bytesOf 81) dU.2.2.1
 have c49:=vK (cells:=O7) (size:=4) rfl rfl hf.m (B:=bytesOf 122) dU.2.2.2.1
 have c62:=vK (cells:=O9) (size:=3) rfl rfl hf.i (B:=bytesOf 124) dU.2.2.2.2
 have c14:=vL (n:=cf.ag.length)
 have c27:=vL (n:=cf.ae.length)
 have c40:=vL (n:=cf.rules.length)
 have c53:=vL (n:=cf.af.length)
 have c66:=vL (n:=cf.aa.length)
 have z0:TP cf [.dD (DE 5 8 11 14 17 cf)] [⟨46,.ak (al cf s)⟩,⟨46,.dK ((DE 5 8 11 14 17 cf).map Sx.Atom.sv)⟩,⟨46,.dK ((DE 5 8 11 14 17 cf).map Sx.Atom.sv)⟩,
   Sx.an,⟨3,.ak O6⟩,⟨3,.own 1 (0+cf.ag.length+1) (cf.cp++O6)⟩,Sx.an,⟨118,.ak O5⟩,⟨118,.own 19 (0+cf.ae.length+1) (cf.cr++O5)⟩,
   Sx.an,⟨81,.ak O8⟩,⟨81,.own 49 (0+cf.rules.length+1) (cf.cl++O8)⟩,Sx.an,⟨122,.ak O7⟩,⟨122,.own 4 (0+cf.af.length+1) (cf.cm++O7)⟩,
   Sx.an,⟨124,.ak O9⟩,⟨124,.own 3 (0+cf.aa.length+1) (cf.ci++O9)⟩]:=by
  simp only[Nat.zero_add]
  exact⟨5,8,11,14,17,rfl,rfl,rfl,rfl,rfl,rfl⟩
 refine Sx.aZ (args:=[.val (.agg (al cf s).toArray)]) (eo w) [(8,.app cf.ag.length cf.cp),(14,.QZ 0 cf.ag.length),(20,.app cf.ae.length cf.cr),(27,.QZ 0 cf.ae.length),(33,.app cf.rules.length cf.cl),(40,.QZ 0 cf.rules.length),(46,.app cf.af.length cf.cm),(53,.QZ 0 cf.af.length),(59,.app cf.aa.length cf.ci),(66,.QZ 0 cf.aa.length)] [] (by kernel_rfl) func27 rfl (cn rfl) rfl ?_
 exact Eq.mp (by kernel_rfl) (Sx.t8 c8 c10 c14 c20 c23 c27 c33 c36 (Sx.t4 c40 c46 c49 c53 (Sx.t2 c59 c62 (And.intro c66 z0))))
end Go.Proofs.YtnncigmpcdehnaaGreatDoor
