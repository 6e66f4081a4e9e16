import Derived.Test.YtnncigmpcdehnaaGreatDoorQb46
namespace Go.Proofs.YtnncigmpcdehnaaGreatDoor
set_option maxRecDepth 100000
open Go Go.RowKit Go.Lib Go.Sort
theorem IX{w:World}{S:List Nat}{size n c:Nat}{A:Option Go.Addr}{xs:List Value}(h:kB w S size (.slice A n c) n xs) :
  ∀W,aw S w W→∃A' c',Value.slice A n c=.slice A' n c'∧(0 < xs.length→∃ad,A'=some ad∧∀(j:Nat) (u:Value),xs[j]?=some u→W.cell? (ad.add j)=some u):=by
 intro W hW
 obtain⟨h1,A',c',h2,h3⟩:=h.aP hW
 refine⟨A',c',h2,fun h0=>?_⟩
 have hn:0 < n:=by
  rcases Nat.eq_zero_or_pos n with hz|hz
  ·rw[h1,hz,Nat.zero_mul]at h0;omega
  ·exact hz
 obtain⟨g,o,ha,_,_,hr⟩:=h3 hn
 exact⟨⟨g,o,none⟩,ha,fun j u hu=>by rw[Addr.add_lit];exact hr j u hu⟩
theorem tq{w:World}{size n c B:Nat}{A:Option Go.Addr}{xs:List Value}(h:kB w [] size (.slice A n c) n xs)(ho:∀u∈xs,u.oneCell'=true)(hn:n≤1000000000)(hb:B≤1000) :
  (∀W,aw [] w W→∃A' c',Value.slice A n c=.slice A' n c'∧(0 < xs.length→∃ad,A'=some ad∧∀(j:Nat) (u:Value),xs[j]?=some u→W.cell? (ad.add j)=some u))∧xs.length=n*size∧(∀u∈xs,u.oneCell'=true)∧0+n≤maxLen∧(0+n)*B≤140737488355328:=
 ⟨IX h,h.1,ho,by unfold maxLen;omega,Nat.le_trans (Nat.mul_le_mul (show 0+n≤1000000000 by omega) hb) (by decide)⟩
theorem tn{cells:List Value}{size n B:Nat}(hl:cells.length=1*size)(ha:cells.all (fun u=>u.oneCell')=true)(hn:n≤1000000000)(hb:B≤1000) :
  True∧cells.length=1*size∧(∀u:Value,u∈cells→u.oneCell'=true)∧0+n+1≤maxLen∧(0+n+1)*B≤140737488355328:=
 ⟨trivial,hl,fun u hu=>List.all_eq_true.1 ha u hu,by unfold maxLen;omega,Nat.le_trans (Nat.mul_le_mul (show 0+n+1≤1000000001 by omega) hb) (by decide)⟩
theorem tp{n:Nat}:(0:Int)=((0:Nat):Int)∧((n:Nat):Int)=((n:Nat):Int)∧0≤n∧n≤0+n+1:=⟨rfl,rfl,Nat.zero_le _,by omega⟩
theorem all_map{α:Type}{f:α→Value}(hf:∀x,(f x).oneCell'=true)(l:List α):∀u∈l.map f,u.oneCell'=true:=fun u hu=>by
 obtain⟨x,_,rfl⟩:=List.mem_map.1 hu
 exact hf x
theorem pA{α:Type}{f:α→List Value}(hf:∀x,(f x).all (fun u=>u.oneCell')=true)(l:List α):∀u∈l.flatMap f,u.oneCell'=true:=fun u hu=>by
 obtain⟨x,_,hx⟩:=List.mem_flatMap.1 hu
 exact List.all_eq_true.1 (hf x) u hx
def L1:List Value:=[.int .i64 77]
def L0:List Value:=oB.cells++[.int .i64 77]
def L3:List Value:=.string ⟨#[]⟩::(kZ.cells++[.int .i64 0,.int .i64 77,.string ⟨#[]⟩,.string ⟨#[]⟩])
def L2:List Value:=[.string ⟨#[120]⟩,.int .u64 0,.int .u64 0,.int .u64 0]
def L4:List Value:=[.string ⟨#[]⟩,.int .i64 77,.int .i64 0]
def Cq(k0 k1 k2 k3 k4:Nat)(cf:CF):List Sx.Atom:=[.s k0 0 cf.ao.length 0,.s k1 0 cf.ah.length 0,.s k2 0 cf.rules.length 0,.s k3 0 cf.aj.length 0,.s k4 0 cf.ab.length 0,.v (.int .i64 cf.aL)]
def Oq(cf:CF)(l:List Sx.SV)(mem:List Sx.Row):Prop:=∃k0 k1 k2 k3 k4,l=[.cX (Cq k0 k1 k2 k3 k4 cf)]∧mem[k0]?=some ⟨3,.own 1 (cf.ao.length+1) (cf.cp++L1)⟩∧mem[k1]?=some ⟨118,.own 19 (cf.ah.length+1) (cf.cr++L0)⟩∧mem[k2]?=some ⟨81,.own 49 (cf.rules.length+1) (cf.cl++L3)⟩∧mem[k3]?=some ⟨122,.own 4 (cf.aj.length+1) (cf.cm++L2)⟩∧mem[k4]?=some ⟨124,.own 3 (cf.ab.length+1) (cf.ci++L4)⟩
theorem G4(w:World)(cf:CF)(s:fI)(hr:eo w [] cf s)(hf:e8 cf):Calls Tryz.prog 27 #[.agg (an cf s).toArray] w (Sx.bc ⟨w,[],fun _ _=>False⟩ (Oq cf)):=by
 have c8:=tq hr.p (all_map (fun _=>rfl) cf.ao) hf.p (B:=bytesOf 3) cz.1
 have c20:=tq hr.r (pA (fun _=>rfl) cf.ah) hf.r (B:=bytesOf 118) cz.2.1
 have c33:=tq hr.l (pA (fun _=>rfl) cf.rules) hf.l (B:=bytesOf 81) cz.2.2.1
 have c46:=tq hr.m (pA (fun _=>rfl) cf.aj) hf.m (B:=bytesOf 122) cz.2.2.2.1
 have c59:=tq hr.i (pA (fun _=>rfl) cf.ab) hf.i (B:=bytesOf 124) cz.2.2.2.2
 have c10:=tn (cells:=L1) (size:=1) rfl rfl hf.p (B:=bytesOf 3) cz.1
 have c23:=tn (cells:=L0) (size:=19) rfl rfl hf.r (B:=bytesOf 118) cz.2.1
 have c36:=tn (cells:=L3) (size:=49) rfl rfl hf.l (B:=bytesOf 81) cz.2.2.1
 have c49:=tn (cells:=L2) (size:=4) rfl rfl hf.m (B:=bytesOf 122) cz.2.2.2.1
 have c62:=tn (cells:=L4) (size:=3) rfl rfl hf.i (B:=bytesOf 124) cz.2.2.2.2
 have c14:=tp (n:=cf.ao.length)
 have c27:=tp (n:=cf.ah.length)
 have c40:=tp (n:=cf.rules.length)
 have c53:=tp (n:=cf.aj.length)
 have c66:=tp (n:=cf.ab.length)
 have z0:Oq cf [.cX (Cq 5 8 11 14 17 cf)] [⟨46,.ag (an cf s)⟩,⟨46,.dm ((Cq 5 8 11 14 17 cf).map Sx.Atom.sv)⟩,⟨46,.dm ((Cq 5 8 11 14 17 cf).map Sx.Atom.sv)⟩,
   Sx.aa,⟨3,.ag L1⟩,⟨3,.own 1 (0+cf.ao.length+1) (cf.cp++L1)⟩,Sx.aa,⟨118,.ag L0⟩,⟨118,.own 19 (0+cf.ah.length+1) (cf.cr++L0)⟩,
   Sx.aa,⟨81,.ag L3⟩,⟨81,.own 49 (0+cf.rules.length+1) (cf.cl++L3)⟩,Sx.aa,⟨122,.ag L2⟩,⟨122,.own 4 (0+cf.aj.length+1) (cf.cm++L2)⟩,
   Sx.aa,⟨124,.ag L4⟩,⟨124,.own 3 (0+cf.ab.length+1) (cf.ci++L4)⟩]:=by
  simp only[Nat.zero_add]
  exact⟨5,8,11,14,17,rfl,rfl,rfl,rfl,rfl,rfl⟩
 refine Sx.aT (args:=[.val (.agg (an cf s).toArray)]) (ct w) [(8,.app cf.ao.length cf.cp),(14,.MD 0 cf.ao.length),(20,.app cf.ah.length cf.cr),(27,.MD 0 cf.ah.length),(33,.app cf.rules.length cf.cl),(40,.MD 0 cf.rules.length),(46,.app cf.aj.length cf.cm),(53,.MD 0 cf.aj.length),(59,.app cf.ab.length cf.ci),(66,.MD 0 cf.ab.length)] [] (by kernel_rfl) Tryz.func27 rfl (Nat.le_of_ble_eq_true rfl) rfl ?_
 exact Eq.mp (by kernel_rfl) (Sx.t8 c8 c10 c14 c20 c23 c27 c33 c36 (Sx.t4 c40 c46 c49 c53 (Sx.t2 c59 c62 (And.intro c66 z0))))
open Go.RowKit Go.Lib Go.Sort
theorem uD:∀(ls:List Bs) (k:Nat) (cf:CF) (d:Nat) (code p:Nat),dy ls k cf d=.no code p→k≤p∧p < k+ls.length
 | [],k,cf,d,code,p,h=>by unfold dy at h;cases h
 |l::ls,k,cf,d,code,p,h=>by
  unfold dy at h
  cases hl:dE (aS true l) cf d with
  |ok c i=>
   rw[hl]at h
   have:=uD ls _ c _ code p h
   simp only[List.length_cons]
   omega
  |no c q=>
   rw[hl]at h
   injection h with _ h
   subst h
   simp only[List.length_cons]
   omega
open Go.RowKit Go.Lib Go.Sort
def Ps{α:Type}(o:Out α):Prop:=∀c p,o=.no c p→0 < c
theorem Ps.ok{α:Type}{a:α}{i:Nat}:Ps (.ok a i):=fun _ _ h=>nomatch h
theorem Ps.no{α:Type}{c p:Nat}(h:0 < c):Ps (.no c p:Out α):=fun _ _ e=>by injection e with e _;omega
theorem Ps.bind{α β:Type}{r:Out α}{f:α→Nat→Out β}(h:Ps r)(hf:∀a i,Ps (f a i)):Ps (r.bind f):=by
 cases r with
 |ok a i=>exact hf a i
 |no c p=>exact fun c' p' e=>h c p rfl |> fun hc=>by cases e;exact hc
theorem Ps.next{ws:List Bs}{i:Nat}:Ps (bj ws i):=by unfold bj;split;exact .ok;exact .no (by decide)
theorem Ps.EH{ws:List Bs}{i:Nat}{s:Bs}:Ps (cM ws i s):=by unfold cM;split<;>exact .ok
theorem Ps.want{α:Type}{b:Bool}{c:Nat}{a:α}{i:Nat}(h:0 < c):Ps (ax b c a i):=by cases b;exact .no h;exact .ok
theorem Ps.number{m:Nat}{ws:List Bs}{i:Nat}:Ps (bF m ws i):=.bind .next fun _ _=>.want (by decide)
theorem Ps.int{ws:List Bs}{i:Nat}:Ps (gQ ws i):=.number
theorem Ps.name{ws:List Bs}{i:Nat}:Ps (eh ws i):=.bind .next fun _ _=>.want (by decide)
theorem Ps.pre{ws:List Bs}{i:Nat}:Ps (dA ws i):=.bind .next fun _ _=>.want (by decide)
theorem Ps.span{ws:List Bs}{i:Nat}:Ps (iH ws i):=.bind .next fun _ _=>.want (by decide)
theorem Ps.bV{ws:List Bs}{i:Nat}:Ps (eg ws i):=.bind .EH fun a j=>by
 cases a
 ·refine .bind .EH fun b k=>?_
  cases b
  ·exact .number
  ·exact .ok
 ·exact .ok
theorem Ps.bA9{k:Nat}{m:Mt}{ws:List Bs}{i:Nat}:Ps (bA k m ws i):=by
 unfold bA
 split<;>refine .bind ?_ fun _ _=>.ok
 ·exact .span
 ·exact .pre
 ·exact .pre
 ·exact .bV
 ·exact .span
 ·exact .span
theorem Ps.field{ws:List Bs}{i:Nat}{m:Mt}:Ps (bB ws i m):=by
 unfold bB
 split
 ·exact .ok
 ·split
  ·exact .ok
  ·split
   ·exact .no (by decide)
   ·exact .bind .bA9 fun _ _=>.ok
theorem Ps.ey(ws:List Bs):∀(f i:Nat) (m:Mt),Ps (ey ws f i m)
 | 0,i,m=>.ok
 |f+1,i,m=>.bind .field fun r j=>by
  cases r.1
  ·exact .ok
  ·exact Ps.ey ws f j r.2
theorem Ps.fF{ws:List Bs}{i:Nat}:Ps (fF ws i):=.bind .EH fun a j=>by
 cases a
 ·refine .bind .field fun r k=>?_
  cases r.1
  ·exact .bind .next fun _ _=>.no (by decide)
  ·exact .ey _ _ _ _
 ·exact .ok
theorem Ps.act{out:Bool}{ws:List Bs}{i:Nat}:Ps (np out ws i):=.bind .next fun x j=>by
 split
 ·exact .ok
 split
 ·exact .ok
 split
 ·exact .ok
 split
 ·exact .bind .int fun _ _=>.ok
 ·exact .no (by decide)
theorem Ps.opt{s:Bs}{ws:List Bs}{i:Nat}:Ps (jh s ws i):=.bind .EH fun b j=>by
 cases b
 ·exact .ok
 ·exact .name
theorem Ps.Ox{m:Mt}{ws:List Bs}{i:Nat}:Ps (F0 m ws i):=.bind .next fun _ _=>.bind (.want (by decide)) fun _ _=>.want (by decide)
theorem Ps.NU{ws:List Bs}{i:Nat}:Ps (lM ws i):=.bind .name fun _ _=>.bind .fF fun _ _=>.bind .Ox fun _ _=>.bind .act fun _ _=>.bind .opt fun _ _=>.bind .opt fun _ _=>.ok
theorem Ps.gR9{α:Type}{ws:List Bs}{a:α}{i:Nat}:Ps (gR ws a i):=by unfold gR;split;exact .no (by decide);exact .ok
theorem Ps.body{x:Bs}{ws:List Bs}{i:Nat}{cf:CF}{d:Nat}:Ps (ft x ws i cf d):=by
 unfold ft
 split
 ·exact .bind .int fun _ _=>.ok
 split
 ·exact .bind .pre fun _ _=>.bind .int fun _ _=>.ok
 split
 ·exact .bind .name fun _ _=>.bind .number fun _ _=>.bind .number fun _ _=>.bind .number fun _ _=>.ok
 split
 ·exact .bind .name fun _ _=>.bind .int fun _ _=>.bind .int fun _ _=>.ok
 split
 ·exact .bind .NU fun _ _=>.ok
 split
 ·exact .bind (.want (by decide)) fun _ _=>.bind .act fun _ _=>.ok
 ·exact .no (by decide)
theorem Ps.line{ws:List Bs}{cf:CF}{d:Nat}:Ps (dE ws cf d):=by
 unfold dE
 split
 ·exact .ok
 ·exact .bind .next fun _ _=>.bind .body fun _ _=>.gR9
theorem uC:∀(ls:List Bs) (k:Nat) (cf:CF) (d:Nat) (code p:Nat),dy ls k cf d=.no code p→0 < code
 | [],k,cf,d,code,p,h=>by unfold dy at h;cases h
 |l::ls,k,cf,d,code,p,h=>by
  unfold dy at h
  cases hl:dE (aS true l) cf d with
  |ok c i=>rw[hl]at h;exact uC ls _ c _ code p h
  |no c q=>rw[hl]at h;injection h with h1 _;subst h1;exact Ps.line c q hl
def Ct(cf:CF):Nat:=cf.ao.length+cf.ah.length+cf.rules.length+cf.aj.length+cf.ab.length
theorem Au{ws:List Bs}{cf cf':CF}{d i:Nat}(h:dE ws cf d=.ok cf' i):Ct cf'≤Ct cf+1:=by
 unfold dE at h
 split at h
 ·injection h with h _
  subst h
  exact Nat.le_succ _
 ·obtain⟨x,k,hx,h⟩:=Out.aO h
  obtain⟨c,k2,hb,h⟩:=Out.aO h
  have hcc:cf'=c:=by
   unfold gR at h
   split at h
   ·cases h
   ·injection h with h _;exact h.symm
  subst hcc
  unfold ft at hb
  split at hb
  ·obtain⟨n,_,h1,hb⟩:=Out.aO hb
   injection hb with hb _;subst hb
   simp only[Ct,List.length_append,List.length_cons,List.length_nil];omega
  split at hb
  ·obtain⟨p,_,h1,hb⟩:=Out.aO hb
   obtain⟨n,_,h2,hb⟩:=Out.aO hb
   injection hb with hb _;subst hb
   simp only[Ct,List.length_append,List.length_cons,List.length_nil];omega
  split at hb
  ·obtain⟨nm,_,h1,hb⟩:=Out.aO hb
   obtain⟨a,_,h2,hb⟩:=Out.aO hb
   obtain⟨b,_,h3,hb⟩:=Out.aO hb
   obtain⟨c,_,h4,hb⟩:=Out.aO hb
   injection hb with hb _;subst hb
   simp only[Ct,List.length_append,List.length_cons,List.length_nil];omega
  split at hb
  ·obtain⟨nm,_,h1,hb⟩:=Out.aO hb
   obtain⟨a,_,h2,hb⟩:=Out.aO hb
   obtain⟨b,_,h3,hb⟩:=Out.aO hb
   injection hb with hb _;subst hb
   simp only[Ct,List.length_append,List.length_cons,List.length_nil];omega
  split at hb
  ·obtain⟨r,_,h1,hb⟩:=Out.aO hb
   injection hb with hb _;subst hb
   simp only[Ct,List.length_append,List.length_cons,List.length_nil];omega
  split at hb
  ·obtain⟨u,_,_,hb⟩:=Out.aO hb
   obtain⟨a,_,h1,hb⟩:=Out.aO hb
   injection hb with hb _;subst hb
   exact Nat.le_succ _
  ·cases hb
theorem qp:∀(ls:List Bs) (k:Nat) (cf:CF) (d:Nat) (cf':CF),dy ls k cf d=.ok cf'→Ct cf'≤Ct cf+ls.length
 | [],k,cf,d,cf',h=>by
  unfold dy at h
  injection h with h
  subst h
  split<;>exact Nat.le_refl _
 |l::ls,k,cf,d,cf',h=>by
  unfold dy at h
  cases hl:dE (aS true l) cf d with
  |ok c i=>
   rw[hl]at h
   have:=qp ls _ c _ cf' h
   have:=Au hl
   rw[List.length_cons];omega
  |no code p=>rw[hl]at h;cases h
theorem sI(s:Bs):(bE s).length≤s.length+1:=by
 exact fx 10 s
end Go.Proofs.YtnncigmpcdehnaaGreatDoor
