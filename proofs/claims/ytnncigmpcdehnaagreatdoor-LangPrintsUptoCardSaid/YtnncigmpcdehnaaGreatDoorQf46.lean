import Derived.Test.YtnncigmpcdehnaaGreatDoorQf44
import Derived.Test.YtnncigmpcdehnaaGreatDoorQf45
namespace Go.Proofs.YtnncigmpcdehnaaGreatDoor
set_option maxRecDepth 100000
open Go Go.RowKit Go.Lib Go.Sort _root_.Go.Proofs.Tryz
set_option maxRecDepth 100000
def gT(t i:Nat):List (Nat×Sx.SV):=[(1,.ptr 0 0),(4,.ptr 1 0),(t,.val (.int .i64 (i:Int)))]
def bV(cf:CF)(s:ey)(p:fx):List Sx.Row:=[⟨46,.ak (al cf s)⟩,⟨142,.ak (eS p)⟩]
theorem iQ{i n K B L:Nat}(hL:L≤B+i*K)(hi:i≤n)(hn:n≤1048576)(hK:K≤4000000000):L≤B+5000000000000000:=by
 have:i*K≤1048576*4000000000:=Nat.mul_le_mul (by omega) hK
 omega
theorem tL{p0:fx}{f:Nat→fx→fx}(i:Nat):ic p0 f (i+1)=f i (ic p0 f i):=rfl
theorem MU{b:Sx.aU}{W:World}{g:Nat}{p p':fx}{r:Rl}(hp:p'=ij r p){i:Nat}(cs:Sx.Cells)(hc:cs.list=some (eS p'))(hr:r.Wf)(hl:p.1.length≤1000000000000000000)(ln:r.name.length≤1000000000000000)(le:r.bC.length≤1000000000000000)(li:r.aP.length≤1000000000000000)(hb:au W g 142 (eS p)) :
  Calls prog 81 #[(pt g 0),.agg r.cells.toArray] W (Sx.mG b W [(pt g 0),.agg r.cells.toArray] (.gk 0 i ⟨142,cs⟩ (.tuple #[]))):=
 (MV g r hr p hl ln le li W hb _).mono fun _ _ h=>zr rfl hc (hp ▸ h)
theorem fE{α:Type} [Inhabited α]{l:List α}{F:α→fx→fx}{p0:fx}{K:Nat}(h:∀x∈l,∀p,(F x p).1.length≤p.1.length+K):∀i≤l.length,(ic p0 (fun i=>F (l.getD i default)) i).1.length≤p0.1.length+i*K
 | 0,_=>by rw[Nat.zero_mul];exact Nat.le_refl _
 |i+1,hi=>by
  have h1:(ic p0 (fun i=>F (l.getD i default)) (i+1)).1.length≤_:=h _ (bX (show i < l.length by omega)) (ic p0 (fun i=>F (l.getD i default)) i)
  have h2:=fE (p0:=p0) h i (by omega)
  rw[Nat.succ_mul,←Nat.add_assoc]
  exact Nat.le_trans h1 (Nat.add_le_add_right h2 K)
theorem tX(x:Rt)(p:fx):(gQ x p).1.length≤p.1.length+200000000:=by
 have h1:=jA (qa x) (cA (decide (x.out≥0)) 2 (cA (gh x.pf.v x.pf.n x.pf.k) 151 p))
 have h2:=dv _ (mw x.out)
 have h3:(qa x).length=6+(pK x.pf).length+1+(aj 10 (uN x.out)).length:=by unfold qa;simp only[List.length_append];rfl
 have h4:=ki x.pf
 have h5:(cA (decide (x.out≥0)) 2 (cA (gh x.pf.v x.pf.n x.pf.k) 151 p)).1=p.1:=rfl
 rw[h5]at h1
 show(eD _ _).1.length≤_
 omega
theorem uK(x:Me)(h:x.name.length≤1048576)(hn:x.Wf)(p:fx):(gW x p).1.length≤p.1.length+200000000:=by
 have h1:=jA (ql x) (cA (aB x.name) 201 p)
 have h2:=dv x.num (by have:=hn.a;omega)
 have h3:=dv x.den (by have:=hn.b;omega)
 have h4:=dv x.iu (by have:=hn.c;omega)
 have h5:(ql x).length=6+x.name.length+1+(aj 10 x.num).length+1+(aj 10 x.den).length+1+(aj 10 x.iu).length:=by unfold ql;simp only[List.length_append];rfl
 have h6:(cA (aB x.name) 201 p).1=p.1:=rfl
 rw[h6]at h1
 show(eD _ _).1.length≤_
 omega
theorem sb(x:Mi)(h:x.name.length≤1048576)(p:fx):(fp x p).1.length≤p.1.length+200000000:=by
 have h1:=jA (nt x) (cA (decide (x.out≥0)&&decide (x.room≥0)) 2 (cA (aB x.name) 201 p))
 have h2:=dv _ (mw x.out)
 have h3:=dv _ (mw x.room)
 have h5:(nt x).length=7+x.name.length+1+(aj 10 (uN x.out)).length+1+(aj 10 (uN x.room)).length:=by unfold nt;simp only[List.length_append];rfl
 have h6:(cA (decide (x.out≥0)&&decide (x.room≥0)) 2 (cA (aB x.name) 201 p)).1=p.1:=rfl
 rw[h6]at h1
 show(eD _ _).1.length≤_
 omega
theorem FZ(x:Rl)(hx:x.Wf)(h:x.name.length≤1048576∧x.bC.length≤1048576∧x.aP.length≤1048576):(mX x).length≤1300000000:=by
 have h2:=uM x.mt hx.m
 have h3:=uf x.act x.out
 have e1:(oZ x).length=5+x.name.length+1+(dQ x.mt).length+4+(oL x.act x.out).length:=by unfold oZ;simp only[List.length_append];rfl
 have e2:(mW x).length≤(oZ x).length+7+x.bC.length:=by
  unfold mW
  split
  ·omega
  ·simp only[List.length_append];show _+7+_≤_;omega
 have e3:(mX x).length≤(mW x).length+8+x.aP.length:=by
  unfold mX
  split
  ·omega
  ·simp only[List.length_append];show _+8+_≤_;omega
 omega
theorem wO(x:Rl)(hx:x.Wf)(h:x.name.length≤1048576∧x.bC.length≤1048576∧x.aP.length≤1048576)(p:fx):(ij x p).1.length≤p.1.length+2000000000:=by
 have h1:=jA (mX x) (rV x p)
 have h2:=FZ x hx h
 rw[Mx]at h1
 show(eD _ _).1.length≤_
 omega
theorem Rh(x:Rt){j:Nat}{u:Value}(h:x.pf.cells[j]?=some u):x.cells[0+j]?=some u:=by
 rw[Nat.zero_add]
 unfold Rt.cells
 rw[List.getElem?_append_left (List.getElem?_eq_some_iff.1 h).1]
 exact h
theorem PF(x:Rt):x.cells[18]?=some (.int .i64 x.out):=by
 unfold Rt.cells
 rw[List.getElem?_append_right (by rw[Px.az];exact Nat.le_refl _),Px.az]
 rfl
theorem Tg(x:Me){j:Nat}{u:Value}(h:([.int .u64 (x.num:Int),.int .u64 (x.den:Int),.int .u64 (x.iu:Int)]:List Value)[j]?=some u):x.cells[1+j]?=some u:=by
 rw[Nat.add_comm];exact h
theorem tm(n:Int):(aj 10 (uN n)).length≤20:=dv _ (mw n)
theorem RM{w:World}(cf:CF)(s:ey)(hr:dj w [] cf s)(hw:da cf)(_hm:FF cf 1048576)(hl:cf.ag.length≤1048576)(p0:fx)(hp:p0.1.length≤100000000000000000)(T:Value)(i:Nat)(hi:i≤cf.ag.length) :
  ∃H' L',Sx.ex prog f29.ntmps w (Sx.aQ f29 0) H' L' ⟨gT 5 i,bV cf s (ic p0 (fun i=>kj (cf.ag.getD i default)) i)⟩
   (Sx.dR (fun i=>i≤cf.ag.length) (gT 5) (fun i=>bV cf s (ic p0 (fun i=>kj (cf.ag.getD i default)) i)) (fun i=>i+1) (fun i=>cf.ag.length - i) (fun(_:Unit)=>True) (fun _=>[(1,.ptr 0 0),(4,.ptr 1 0)]) (fun _=>bV cf s (ic p0 (fun i=>kj (cf.ag.getD i default)) cf.ag.length)) (fun _=>()) (Sx.dM (Sx.aQ f29 0) - 1) (Sx.atEnd prog f29 (fun v=>v=T) .ret) i):=by
 have hL:=fE (l:=cf.ag) (F:=kj) (p0:=p0) (K:=1000) (fun x _ p=>wV x p) i hi
 obtain⟨p,hpp⟩:∃p,p=ic p0 (fun i=>kj (cf.ag.getD i default)) i:=⟨_,rfl⟩
 rw[←hpp]at hL
 have hB:p.1.length≤200000000000000000:=by have:=iQ hL hi hl (by omega);omega
 by_cases hlt:i < cf.ag.length
 ·have c20:=bT ((i:Int) < (cf.ag.length:Int)) (by omega)
  have hy:=getD_at hlt
  obtain⟨x,hx⟩:∃x,x=cf.ag.getD i default:=⟨_,rfl⟩
  have hmem:x∈cf.ag:=by rw[hx];exact bX hlt
  rw[←hx]at hy
  have hst:ic p0 (fun i=>kj (cf.ag.getD i default)) (i+1)=kj x p:=by rw[tL,←hpp,←hx]
  have c22:=my (i:=i) (by omega)
  have h0:i+1≤cf.ag.length:=hlt
  have h1:cf.ag.length - (i+1) < cf.ag.length - i:=by omega
  have h2:gT 5 (i+1)=gT 5 (i+1):=rfl
  clear hx hL
  have wx:=hw.p x hmem
  obtain⟨inf,hi1,hi2⟩:=cY (P:=prog) (t:=3) (n:=1) (by kernel_rfl)
  obtain⟨pp,c27,c28⟩:=hr.p.QG underlying40 hi1 hi2 underlying3 rfl hy
  have c35:=c27
  have c36:=c28
  have c37:=zD x
  have c38:=fun W (_:ai [] w W)=>jM (uN x) (mw x) W
  obtain⟨d,hd⟩:∃d,d=aj 10 (uN x):=⟨_,rfl⟩
  have hdl:d.length≤20:=by rw[hd];exact tm x
  obtain⟨b,hb⟩:∃b,b=decide (x≥0):=⟨_,rfl⟩
  have c29:Value.bool (decide (x≥0))=.bool b:=by rw[hb]
  rw[←hd]at c38
  have c39:=fun W=>di (.const (ab nB)) (.tmp 38) nB d rfl (by show 5+_≤_;omega) W
  obtain⟨q,hq⟩:∃q,q=cA b 2 p:=⟨_,rfl⟩
  obtain⟨q2,hq2⟩:∃q2,q2=eD (nB++d) q:=⟨_,rfl⟩
  have hql:q.1=p.1:=by rw[hq];rfl
  have c30:=fun W (_:ai [] w W) g (hb':au W g 142 (eS p))=>fV (b:=⟨w,[],fun _ _=>False⟩) hq (i:=1) (.ak _) rfl hb'
  have c40:=fun W (_:ai [] w W) g (hb':au W g 142 (eS q))=>oe (b:=⟨w,[],fun _ _=>False⟩) hq2 (i:=1) (.ak _) rfl (by rw[hql,List.length_append];show _+(5+_)≤_;omega) hb'
  have z3:bV cf s q2=bV cf s (ic p0 (fun i=>kj (cf.ag.getD i default)) (i+1)):=by rw[hst,hq2,hq,hd,hb];rfl
  clear hst hq hq2 hd hb
  refine⟨[(20,.is (.bool true)),(27,.any pp),(28,.any (.int .i64 x)),(29,.is (.bool b)),(30,.fP 0 (eS q) (.tuple #[])),(35,.any pp),(36,.any (.int .i64 x)),(37,.is (.int .u64 (uN x:Int))),(38,.call (ab d)),(39,.bin (ab (nB++d))),(40,.fP 0 (eS q2) (.tuple #[])),(22,.is (.int .i64 ((i+1:Nat):Int)))],[],?_⟩
  rw[←hpp]
  exact Eq.mp (by kernel_rfl) (Sx.t8 c20 c27 c28 c29 c30 c35 c36 c37 (Sx.t4 c38 c39 c40 c22 (Sx.t2 h0 h1 (And.intro h2 z3))))
 ·have c20:=bF ((i:Int) < (cf.ag.length:Int)) (by omega)
  obtain rfl:i=cf.ag.length:=by omega
  have h0:True:=trivial
  have h1:([(1,.ptr 0 0),(4,.ptr 1 0)]:List (Nat×Sx.SV))=[(1,.ptr 0 0),(4,.ptr 1 0)]:=rfl
  have z2:bV cf s p=bV cf s p:=rfl
  refine⟨[(20,.is (.bool false))],[],?_⟩
  rw[←hpp]
  exact Eq.mp (by kernel_rfl) (Sx.t2 c20 h0 (And.intro h1 z2))
theorem RL{w:World}(cf:CF)(s:ey)(hr:dj w [] cf s)(hw:da cf)(_hm:FF cf 1048576)(hl:cf.ae.length≤1048576)(p0:fx)(hp:p0.1.length≤100000000000000000)(T:Value)(i:Nat)(hi:i≤cf.ae.length) :
  ∃H' L',Sx.ex prog f29.ntmps w (Sx.aQ f29 1) H' L' ⟨gT 6 i,bV cf s (ic p0 (fun i=>gQ (cf.ae.getD i default)) i)⟩
   (Sx.dR (fun i=>i≤cf.ae.length) (gT 6) (fun i=>bV cf s (ic p0 (fun i=>gQ (cf.ae.getD i default)) i)) (fun i=>i+1) (fun i=>cf.ae.length - i) (fun(_:Unit)=>True) (fun _=>[(1,.ptr 0 0),(4,.ptr 1 0)]) (fun _=>bV cf s (ic p0 (fun i=>gQ (cf.ae.getD i default)) cf.ae.length)) (fun _=>()) (Sx.dM (Sx.aQ f29 1) - 1) (Sx.atEnd prog f29 (fun v=>v=T) .ret) i):=by
 have hL:=fE (l:=cf.ae) (F:=gQ) (p0:=p0) (K:=200000000) (fun x _ p=>tX x p) i hi
 obtain⟨p,hpp⟩:∃p,p=ic p0 (fun i=>gQ (cf.ae.getD i default)) i:=⟨_,rfl⟩
 rw[←hpp]at hL
 have hB:p.1.length≤200000000000000000:=by have:=iQ hL hi hl (by omega);omega
 by_cases hlt:i < cf.ae.length
 ·have c45:=bT ((i:Int) < (cf.ae.length:Int)) (by omega)
  have hy:=getD_at hlt
  obtain⟨x,hx⟩:∃x,x=cf.ae.getD i default:=⟨_,rfl⟩
  have hmem:x∈cf.ae:=by rw[hx];exact bX hlt
  rw[←hx]at hy
  have hst:ic p0 (fun i=>gQ (cf.ae.getD i default)) (i+1)=gQ x p:=by rw[tL,←hpp,←hx]
  have c47:=my (i:=i) (by omega)
  have h0:i+1≤cf.ae.length:=hlt
  have h1:cf.ae.length - (i+1) < cf.ae.length - i:=by omega
  have h2:gT 6 (i+1)=gT 6 (i+1):=rfl
  clear hx hL
  have wx:=hw.r x hmem
  obtain⟨inf,hi1,hi2⟩:=cY (P:=prog) (t:=118) (n:=19) (by kernel_rfl)
  obtain⟨g,off,c52,hcl⟩:=hr.r.Tw Rt.az underlying41 hi1 hi2 (by omega) hy
  have c66:=c52
  have c78:=c52
  have c53:=fun W (_:ai [] w W)=>fG (P:=prog) (s:=118) (f:=0) (k:=0) (b:=g) (off:=off) (by kernel_rfl) W
  have c54:=fun W (hW:ai [] w W)=>tP (P:=prog) (e:=29) 0 x.pf.cells (hcl W hW) (fun j u hu=>Rh x hu) underlying29 rfl (by rw[Px.az];kernel_rfl)
  have c67:=fun W (_:ai [] w W)=>fG (P:=prog) (s:=118) (f:=1) (k:=18) (b:=g) (off:=off) (by kernel_rfl) W
  have c68:=fun W (hW:ai [] w W)=>sY (P:=prog) underlying3 rfl (hcl W hW 18 _ (PF x))
  have c79:=c67
  have c80:=c68
  have c55:=fun W (_:ai [] w W)=>yh x.pf.v x.pf.n x.pf.k wx.n W
  have c60:=Ko x.pf.v x.pf.n x.pf.k
  obtain⟨t,ht⟩:∃t,t=pK x.pf:=⟨_,rfl⟩
  have htl:t.length≤100000000:=by rw[ht];exact ki _
  rw[show nh x.pf.v x.pf.n x.pf.k=t from ht.symm]at c55
  obtain⟨er,her⟩:∃er,er=dC x.pf.v x.pf.n x.pf.k:=⟨_,rfl⟩
  rw[←her]at c55 c60
  obtain⟨ok,hok⟩:∃ok,ok=gh x.pf.v x.pf.n x.pf.k:=⟨_,rfl⟩
  rw[←hok]at c60
  have c81:=zD x.out
  have c82:=fun W (_:ai [] w W)=>jM (uN x.out) (mw x.out) W
  obtain⟨d,hd⟩:∃d,d=aj 10 (uN x.out):=⟨_,rfl⟩
  have hdl:d.length≤20:=by rw[hd];exact tm _
  rw[←hd]at c82
  obtain⟨b,hb⟩:∃b,b=decide (x.out≥0):=⟨_,rfl⟩
  have c69:Value.bool (decide (x.out≥0))=.bool b:=by rw[hb]
  have c73:=fun W=>di (.const (ab wB)) (.tmp 72) wB t rfl (by show 6+_≤_;omega) W
  have c74:=fun W=>di (.tmp 73) (.const (ab [32])) (wB++t) [32] rfl (by rw[List.length_append];show 6+_+1≤_;omega) W
  have c83:=fun W=>di (.tmp 74) (.tmp 82) (wB++t++[32]) d rfl (by simp only[List.length_append];show 6+_+1+_≤_;omega) W
  obtain⟨q,hq⟩:∃q,q=cA ok 151 p:=⟨_,rfl⟩
  obtain⟨q1,hq1⟩:∃q1,q1=cA b 2 q:=⟨_,rfl⟩
  obtain⟨q2,hq2⟩:∃q2,q2=eD (wB++t++[32]++d) q1:=⟨_,rfl⟩
  have hql:q1.1=p.1:=by rw[hq1,hq];rfl
  have c61:=fun W (_:ai [] w W) g (hb':au W g 142 (eS p))=>fV (b:=⟨w,[],fun _ _=>False⟩) hq (i:=1) (.ak _) rfl hb'
  have c70:=fun W (_:ai [] w W) g (hb':au W g 142 (eS q))=>fV (b:=⟨w,[],fun _ _=>False⟩) hq1 (i:=1) (.ak _) rfl hb'
  have c84:=fun W (_:ai [] w W) g (hb':au W g 142 (eS q1))=>oe (b:=⟨w,[],fun _ _=>False⟩) hq2 (i:=1) (.ak _) rfl (by rw[hql];simp only[List.length_append];show _+(6+_+1+_)≤_;omega) hb'
  have z3:bV cf s q2=bV cf s (ic p0 (fun i=>gQ (cf.ae.getD i default)) (i+1)):=by rw[hst,hq2,hq1,hq,hd,hb,hok,ht];rfl
  clear hst hq hq1 hq2 hd hb hok ht her
  refine⟨[(45,.is (.bool true)),(52,.any (.pointer (some ⟨g,off,none⟩))),(53,.any (.pointer (some ⟨g,off+0,none⟩))),(54,.any (.agg x.pf.cells.toArray)),(55,.call (.tuple #[ab t,.int .i64 er])),(60,.is (.bool ok)),(61,.fP 0 (eS q) (.tuple #[])),(66,.any (.pointer (some ⟨g,off,none⟩))),(67,.any (.pointer (some ⟨g,off+18,none⟩))),(68,.any (.int .i64 x.out)),(69,.is (.bool b)),(70,.fP 0 (eS q1) (.tuple #[])),(73,.bin (ab (wB++t))),(74,.bin (ab (wB++t++[32]))),(78,.any (.pointer (some ⟨g,off,none⟩))),(79,.any (.pointer (some ⟨g,off+18,none⟩))),(80,.any (.int .i64 x.out)),(81,.is (.int .u64 (uN x.out:Int))),(82,.call (ab d)),(83,.bin (ab (wB++t++[32]++d))),(84,.fP 0 (eS q2) (.tuple #[])),(47,.is (.int .i64 ((i+1:Nat):Int)))],[],?_⟩
  rw[←hpp]
  exact Eq.mp (by kernel_rfl) (Sx.t8 c45 c52 c53 c54 c55 c60 c61 c66 (Sx.t8 c67 c68 c69 c70 c73 c74 c78 c79 (Sx.t8 c80 c81 c82 c83 c84 c47 h0 h1 (And.intro h2 z3))))
 ·have c45:=bF ((i:Int) < (cf.ae.length:Int)) (by omega)
  obtain rfl:i=cf.ae.length:=by omega
  have h0:True:=trivial
  have h1:([(1,.ptr 0 0),(4,.ptr 1 0)]:List (Nat×Sx.SV))=[(1,.ptr 0 0),(4,.ptr 1 0)]:=rfl
  have z2:bV cf s p=bV cf s p:=rfl
  refine⟨[(45,.is (.bool false))],[],?_⟩
  rw[←hpp]
  exact Eq.mp (by kernel_rfl) (Sx.t2 c45 h0 (And.intro h1 z2))
theorem RJ{w:World}(cf:CF)(s:ey)(hr:dj w [] cf s)(hw:da cf)(hm:FF cf 1048576)(hl:cf.af.length≤1048576)(p0:fx)(hp:p0.1.length≤100000000000000000)(T:Value)(i:Nat)(hi:i≤cf.af.length) :
  ∃H' L',Sx.ex prog f29.ntmps w (Sx.aQ f29 2) H' L' ⟨gT 9 i,bV cf s (ic p0 (fun i=>gW (cf.af.getD i default)) i)⟩
   (Sx.dR (fun i=>i≤cf.af.length) (gT 9) (fun i=>bV cf s (ic p0 (fun i=>gW (cf.af.getD i default)) i)) (fun i=>i+1) (fun i=>cf.af.length - i) (fun(_:Unit)=>True) (fun _=>[(1,.ptr 0 0),(4,.ptr 1 0)]) (fun _=>bV cf s (ic p0 (fun i=>gW (cf.af.getD i default)) cf.af.length)) (fun _=>()) (Sx.dM (Sx.aQ f29 2) - 1) (Sx.atEnd prog f29 (fun v=>v=T) .ret) i):=by
 have hL:=fE (l:=cf.af) (F:=gW) (p0:=p0) (K:=200000000) (fun x hx p=>uK x (hm.m x hx) (hw.m x hx) p) i hi
 obtain⟨p,hpp⟩:∃p,p=ic p0 (fun i=>gW (cf.af.getD i default)) i:=⟨_,rfl⟩
 rw[←hpp]at hL
 have hB:p.1.length≤200000000000000000:=by have:=iQ hL hi hl (by omega);omega
 by_cases hlt:i < cf.af.length
 ·have c89:=bT ((i:Int) < (cf.af.length:Int)) (by omega)
  have hy:=getD_at hlt
  obtain⟨x,hx⟩:∃x,x=cf.af.getD i default:=⟨_,rfl⟩
  have hmem:x∈cf.af:=by rw[hx];exact bX hlt
  rw[←hx]at hy
  have hst:ic p0 (fun i=>gW (cf.af.getD i default)) (i+1)=gW x p:=by rw[tL,←hpp,←hx]
  have c91:=my (i:=i) (by omega)
  have h0:i+1≤cf.af.length:=hlt
  have h1:cf.af.length - (i+1) < cf.af.length - i:=by omega
  have h2:gT 9 (i+1)=gT 9 (i+1):=rfl
  clear hx hL
  have wx:=hw.m x hmem
  have hnl:=hm.m x hmem
  obtain⟨inf,hi1,hi2⟩:=cY (P:=prog) (t:=122) (n:=4) (by kernel_rfl)
  obtain⟨g,off,c95,hcl⟩:=hr.m.Tw Me.az underlying43 hi1 hi2 (by omega) hy
  have c102:=c95
  have c111:=c95
  have c96:=fun W (_:ai [] w W)=>fG (P:=prog) (s:=122) (f:=1) (k:=1) (b:=g) (off:=off) (by kernel_rfl) W
  have c97:=fun W (hW:ai [] w W)=>tP (P:=prog) (e:=120) 1 [.int .u64 (x.num:Int),.int .u64 (x.den:Int),.int .u64 (x.iu:Int)] (hcl W hW) (fun j u hu=>Tg x hu) underlying120 rfl (by kernel_rfl)
  have c103:=fun W (_:ai [] w W)=>fG (P:=prog) (s:=122) (f:=0) (k:=0) (b:=g) (off:=off) (by kernel_rfl) W
  have c104:=fun W (hW:ai [] w W)=>sY (P:=prog) (v:=ab x.name) underlying9 rfl (hcl W hW 0 _ rfl)
  have c112:=c103
  have c113:=c104
  have c105:=fun W (_:ai [] w W)=>qb x.name W
  obtain⟨nb,hnb⟩:∃nb,nb=aB x.name:=⟨_,rfl⟩
  rw[←hnb]at c105
  have c118:=fun W (_:ai [] w W)=>jM x.num (by have:=wx.a;omega) W
  have c123:=fun W (_:ai [] w W)=>jM x.den (by have:=wx.b;omega) W
  have c128:=fun W (_:ai [] w W)=>jM x.iu (by have:=wx.c;omega) W
  have l1:=dv x.num (by have:=wx.a;omega)
  have l2:=dv x.den (by have:=wx.b;omega)
  have l3:=dv x.iu (by have:=wx.c;omega)
  obtain⟨d1,hd1⟩:∃d,d=aj 10 x.num:=⟨_,rfl⟩
  obtain⟨d2,hd2⟩:∃d,d=aj 10 x.den:=⟨_,rfl⟩
  obtain⟨d3,hd3⟩:∃d,d=aj 10 x.iu:=⟨_,rfl⟩
  rw[←hd1]at c118 l1
  rw[←hd2]at c123 l2
  rw[←hd3]at c128 l3
  obtain⟨s1,e1⟩:∃s1,s1=JQ++x.name:=⟨_,rfl⟩
  obtain⟨s2,e2⟩:∃s2,s2=s1++[32]:=⟨_,rfl⟩
  obtain⟨s3,e3⟩:∃s3,s3=s2++d1:=⟨_,rfl⟩
  obtain⟨s4,e4⟩:∃s4,s4=s3++[32]:=⟨_,rfl⟩
  obtain⟨s5,e5⟩:∃s5,s5=s4++d2:=⟨_,rfl⟩
  obtain⟨s6,e6⟩:∃s6,s6=s5++[32]:=⟨_,rfl⟩
  obtain⟨s7,e7⟩:∃s7,s7=s6++d3:=⟨_,rfl⟩
  have k1:s1.length≤1048582:=by rw[e1,List.length_append];show 6+_≤_;omega
  have k2:s2.length≤1048583:=by rw[e2,List.length_append];show _+1≤_;omega
  have k3:s3.length≤1048603:=by rw[e3,List.length_append];omega
  have k4:s4.length≤1048604:=by rw[e4,List.length_append];show _+1≤_;omega
  have k5:s5.length≤1048624:=by rw[e5,List.length_append];omega
  have k6:s6.length≤1048625:=by rw[e6,List.length_append];show _+1≤_;omega
  have k7:s7.length≤1048645:=by rw[e7,List.length_append];omega
  have c114:=fun W=>di (.const (ab JQ)) (.tmp 113) JQ x.name e1 (by show 6+_≤_;omega) W
  have c115:=fun W=>di (.tmp 114) (.const (ab [32])) s1 [32] e2 (by show _+1≤_;omega) W
  have c119:=fun W=>di (.tmp 115) (.tmp 118) s2 d1 e3 (by omega) W
  have c120:=fun W=>di (.tmp 119) (.const (ab [32])) s3 [32] e4 (by show _+1≤_;omega) W
  have c124:=fun W=>di (.tmp 120) (.tmp 123) s4 d2 e5 (by omega) W
  have c125:=fun W=>di (.tmp 124) (.const (ab [32])) s5 [32] e6 (by show _+1≤_;omega) W
  have c129:=fun W=>di (.tmp 125) (.tmp 128) s6 d3 e7 (by omega) W
  obtain⟨q,hq⟩:∃q,q=cA nb 201 p:=⟨_,rfl⟩
  obtain⟨q2,hq2⟩:∃q2,q2=eD s7 q:=⟨_,rfl⟩
  have hql:q.1=p.1:=by rw[hq];rfl
  have c106:=fun W (_:ai [] w W) g (hb':au W g 142 (eS p))=>fV (b:=⟨w,[],fun _ _=>False⟩) hq (i:=1) (.ak _) rfl hb'
  have c130:=fun W (_:ai [] w W) g (hb':au W g 142 (eS q))=>oe (b:=⟨w,[],fun _ _=>False⟩) hq2 (i:=1) (.ak _) rfl (by rw[hql];omega) hb'
  have z3:bV cf s q2=bV cf s (ic p0 (fun i=>gW (cf.af.getD i default)) (i+1)):=by rw[hst,hq2,hq,e7,e6,e5,e4,e3,e2,e1,hd1,hd2,hd3,hnb];rfl
  clear hst hq hq2 hd1 hd2 hd3 hnb
  refine⟨[(89,.is (.bool true)),(95,.any ((pt g off))),(96,.any ((pt g (off+1)))),(97,.any (.agg #[.int .u64 (x.num:Int),.int .u64 (x.den:Int),.int .u64 (x.iu:Int)])),(102,.any ((pt g off))),(103,.any ((pt g (off+0)))),(104,.any (ab x.name)),(105,.call (.bool nb)),(106,.fP 0 (eS q) (.tuple #[])),(111,.any ((pt g off))),(112,.any ((pt g (off+0)))),(113,.any (ab x.name)),(114,.bin (ab s1)),(115,.bin (ab s2)),(118,.call (ab d1)),(119,.bin (ab s3)),(120,.bin (ab s4)),(123,.call (ab d2)),(124,.bin (ab s5)),(125,.bin (ab s6)),(128,.call (ab d3)),(129,.bin (ab s7)),(130,.fP 0 (eS q2) (.tuple #[])),(91,.is (.int .i64 ((i+1:Nat):Int)))],[],?_⟩
  rw[←hpp]
  exact Eq.mp (by kernel_rfl) (Sx.t8 c89 c95 c96 c97 c102 c103 c104 c105 (Sx.t8 c106 c111 c112 c113 c114 c115 c118 c119 (Sx.t8 c120 c123 c124 c125 c128 c129 c130 c91 (Sx.t2 h0 h1 (And.intro h2 z3)))))
 ·have c89:=bF ((i:Int) < (cf.af.length:Int)) (by omega)
  obtain rfl:i=cf.af.length:=by omega
  have h0:True:=trivial
  have h1:([(1,.ptr 0 0),(4,.ptr 1 0)]:List (Nat×Sx.SV))=[(1,.ptr 0 0),(4,.ptr 1 0)]:=rfl
  have z2:bV cf s p=bV cf s p:=rfl
  refine⟨[(89,.is (.bool false))],[],?_⟩
  rw[←hpp]
  exact Eq.mp (by kernel_rfl) (Sx.t2 c89 h0 (And.intro h1 z2))
theorem RI{w:World}(cf:CF)(s:ey)(hr:dj w [] cf s)(hw:da cf)(hm:FF cf 1048576)(hl:cf.aa.length≤1048576)(p0:fx)(hp:p0.1.length≤100000000000000000)(T:Value)(i:Nat)(hi:i≤cf.aa.length) :
  ∃H' L',Sx.ex prog f29.ntmps w (Sx.aQ f29 3) H' L' ⟨gT 11 i,bV cf s (ic p0 (fun i=>fp (cf.aa.getD i default)) i)⟩
   (Sx.dR (fun i=>i≤cf.aa.length) (gT 11) (fun i=>bV cf s (ic p0 (fun i=>fp (cf.aa.getD i default)) i)) (fun i=>i+1) (fun i=>cf.aa.length - i) (fun(_:Unit)=>True) (fun _=>[(1,.ptr 0 0),(4,.ptr 1 0)]) (fun _=>bV cf s (ic p0 (fun i=>fp (cf.aa.getD i default)) cf.aa.length)) (fun _=>()) (Sx.dM (Sx.aQ f29 3) - 1) (Sx.atEnd prog f29 (fun v=>v=T) .ret) i):=by
 have hL:=fE (l:=cf.aa) (F:=fp) (p0:=p0) (K:=200000000) (fun x hx p=>sb x (hm.i x hx) p) i hi
 obtain⟨p,hpp⟩:∃p,p=ic p0 (fun i=>fp (cf.aa.getD i default)) i:=⟨_,rfl⟩
 rw[←hpp]at hL
 have hB:p.1.length≤200000000000000000:=by have:=iQ hL hi hl (by omega);omega
 by_cases hlt:i < cf.aa.length
 ·have c135:=bT ((i:Int) < (cf.aa.length:Int)) (by omega)
  have hy:=getD_at hlt
  obtain⟨x,hx⟩:∃x,x=cf.aa.getD i default:=⟨_,rfl⟩
  have hmem:x∈cf.aa:=by rw[hx];exact bX hlt
  rw[←hx]at hy
  have hst:ic p0 (fun i=>fp (cf.aa.getD i default)) (i+1)=fp x p:=by rw[tL,←hpp,←hx]
  have c137:=my (i:=i) (by omega)
  have h0:i+1≤cf.aa.length:=hlt
  have h1:cf.aa.length - (i+1) < cf.aa.length - i:=by omega
  have h2:gT 11 (i+1)=gT 11 (i+1):=rfl
  clear hx hL
  have wx:=hw.i x hmem
  have hnl:=hm.i x hmem
  obtain⟨inf,hi1,hi2⟩:=cY (P:=prog) (t:=124) (n:=3) (by kernel_rfl)
  obtain⟨g,off,c141,hcl⟩:=hr.i.Tw Mi.az underlying44 hi1 hi2 (by omega) hy
  have c142:=fun W (hW:ai [] w W)=>(tP (P:=prog) (e:=124) 0 x.cells (hcl W hW) (fun j u hu=>by rw[Nat.zero_add];exact hu) underlying124 rfl (by kernel_rfl):(Instr.loadAt 124 ((pt g off))).run prog W=.ok (.agg x.cells.toArray) W)
  have c146:=fun W (_:ai [] w W)=>qb x.name W
  obtain⟨nb,hnb⟩:∃nb,nb=aB x.name:=⟨_,rfl⟩
  rw[←hnb]at c146
  obtain⟨b1,hb1⟩:∃b1,b1=decide (x.out≥0):=⟨_,rfl⟩
  obtain⟨b2,hb2⟩:∃b2,b2=decide (x.room≥0):=⟨_,rfl⟩
  have c151:Value.bool (decide (x.out≥0))=.bool b1:=by rw[hb1]
  have c155:Value.bool (decide (x.room≥0))=.bool b2:=by rw[hb2]
  have c165:=zD x.out
  have c166:=fun W (_:ai [] w W)=>jM (uN x.out) (mw _) W
  have c171:=zD x.room
  have c172:=fun W (_:ai [] w W)=>jM (uN x.room) (mw _) W
  have l1:=tm x.out
  have l2:=tm x.room
  obtain⟨d1,hd1⟩:∃d,d=aj 10 (uN x.out):=⟨_,rfl⟩
  obtain⟨d2,hd2⟩:∃d,d=aj 10 (uN x.room):=⟨_,rfl⟩
  rw[←hd1]at c166 l1
  rw[←hd2]at c172 l2
  obtain⟨s1,e1⟩:∃s1,s1=JR++x.name:=⟨_,rfl⟩
  obtain⟨s2,e2⟩:∃s2,s2=s1++[32]:=⟨_,rfl⟩
  obtain⟨s3,e3⟩:∃s3,s3=s2++d1:=⟨_,rfl⟩
  obtain⟨s4,e4⟩:∃s4,s4=s3++[32]:=⟨_,rfl⟩
  obtain⟨s5,e5⟩:∃s5,s5=s4++d2:=⟨_,rfl⟩
  have k1:s1.length≤1048583:=by rw[e1,List.length_append];show 7+_≤_;omega
  have k2:s2.length≤1048584:=by rw[e2,List.length_append];show _+1≤_;omega
  have k3:s3.length≤1048604:=by rw[e3,List.length_append];omega
  have k4:s4.length≤1048605:=by rw[e4,List.length_append];show _+1≤_;omega
  have k5:s5.length≤1048625:=by rw[e5,List.length_append];omega
  have c161:=fun W=>di (.const (ab JR)) (.tmp 160) JR x.name e1 (by show 7+_≤_;omega) W
  have c162:=fun W=>di (.tmp 161) (.const (ab [32])) s1 [32] e2 (by show _+1≤_;omega) W
  have c167:=fun W=>di (.tmp 162) (.tmp 166) s2 d1 e3 (by omega) W
  have c168:=fun W=>di (.tmp 167) (.const (ab [32])) s3 [32] e4 (by show _+1≤_;omega) W
  have c173:=fun W=>di (.tmp 168) (.tmp 172) s4 d2 e5 (by omega) W
  obtain⟨q,hq⟩:∃q,q=cA nb 201 p:=⟨_,rfl⟩
  obtain⟨q1,hq1⟩:∃q1,q1=cA (b1&&b2) 2 q:=⟨_,rfl⟩
  obtain⟨q2,hq2⟩:∃q2,q2=eD s5 q1:=⟨_,rfl⟩
  have hql:q1.1=p.1:=by rw[hq1,hq];rfl
  have c157f:=fun {b:Bool} (hbb:b1=b) W (_:ai [] w W) g (hb':au W g 142 (eS q))=>fV (b:=⟨w,[],fun _ _=>False⟩) (t:=bif b then b2 else false) (c:=2) (p:=q) (p':=q1) (by rw[hq1,←hbb];cases b1<;>rfl) (i:=1) (.ak _) rfl hb'
  have c147:=fun W (_:ai [] w W) g (hb':au W g 142 (eS p))=>fV (b:=⟨w,[],fun _ _=>False⟩) hq (i:=1) (.ak _) rfl hb'
  have c174:=fun W (_:ai [] w W) g (hb':au W g 142 (eS q1))=>oe (b:=⟨w,[],fun _ _=>False⟩) hq2 (i:=1) (.ak _) rfl (by rw[hql];omega) hb'
  have z4:bV cf s q2=bV cf s (ic p0 (fun i=>fp (cf.aa.getD i default)) (i+1)):=by rw[hst,hq2,hq1,hq,e5,e4,e3,e2,e1,hd1,hd2,hb1,hb2,hnb];rfl
  have z8:=z4
  have h5:=h0
  have h6:=h1
  have h7:=h2
  have h3:=h2
  have h2:=h1
  have h1:=h0
  clear hst hq hq1 hq2 hd1 hd2 hnb hb1 hb2
  refine⟨[(135,.is (.bool true)),(141,.any ((pt g off))),(142,.any (.agg x.cells.toArray)),(146,.call (.bool nb)),(147,.fP 0 (eS q) (.tuple #[])),(151,.is (.bool b1)),(155,.is (.bool b2)),(157,.fP 0 (eS q1) (.tuple #[])),(161,.bin (ab s1)),(162,.bin (ab s2)),(165,.is (.int .u64 (uN x.out:Int))),(166,.call (ab d1)),(167,.bin (ab s3)),(168,.bin (ab s4)),(171,.is (.int .u64 (uN x.room:Int))),(172,.call (ab d2)),(173,.bin (ab s5)),(174,.fP 0 (eS q2) (.tuple #[])),(137,.is (.int .i64 ((i+1:Nat):Int)))],[],?_⟩
  rw[←hpp]
  exact Eq.mp (by kernel_rfl) (Sx.t4 c135 c141 c142 c146 (Sx.t2 c147 c151 (Sx.aw (b:=b1) (fun hb0=>(Sx.t8 c155 (c157f hb0) c161 c162 c165 c166 c167 c168 (Sx.t8 c171 c172 c173 c174 c137 h1 h2 h3 z4))) (fun hb0=>(Sx.t8 (c157f hb0) c161 c162 c165 c166 c167 c168 c171 (Sx.t4 c172 c173 c174 c137 (Sx.t2 h5 h6 (And.intro h7 z8))))))))
 ·have c135:=bF ((i:Int) < (cf.aa.length:Int)) (by omega)
  obtain rfl:i=cf.aa.length:=by omega
  have h0:True:=trivial
  have h1:([(1,.ptr 0 0),(4,.ptr 1 0)]:List (Nat×Sx.SV))=[(1,.ptr 0 0),(4,.ptr 1 0)]:=rfl
  have z2:bV cf s p=bV cf s p:=rfl
  refine⟨[(135,.is (.bool false))],[],?_⟩
  rw[←hpp]
  exact Eq.mp (by kernel_rfl) (Sx.t2 c135 h0 (And.intro h1 z2))
theorem RH{w:World}(cf:CF)(s:ey)(hr:dj w [] cf s)(hw:da cf)(hm:FF cf 1048576)(hl:cf.rules.length≤1048576)(p0:fx)(hp:p0.1.length≤100000000000000000)(T:Value)(i:Nat)(hi:i≤cf.rules.length) :
  ∃H' L',Sx.ex prog f29.ntmps w (Sx.aQ f29 4) H' L' ⟨gT 13 i,bV cf s (ic p0 (fun i=>ij (cf.rules.getD i default)) i)⟩
   (Sx.dR (fun i=>i≤cf.rules.length) (gT 13) (fun i=>bV cf s (ic p0 (fun i=>ij (cf.rules.getD i default)) i)) (fun i=>i+1) (fun i=>cf.rules.length - i) (fun(_:Unit)=>True) (fun _=>[(1,.ptr 0 0),(4,.ptr 1 0)]) (fun _=>bV cf s (ic p0 (fun i=>ij (cf.rules.getD i default)) cf.rules.length)) (fun _=>()) (Sx.dM (Sx.aQ f29 4) - 1) (Sx.atEnd prog f29 (fun v=>v=T) .ret) i):=by
 have hL:=fE (l:=cf.rules) (F:=ij) (p0:=p0) (K:=2000000000) (fun x hx p=>wO x (hw.l x hx) (hm.r x hx) p) i hi
 obtain⟨p,hpp⟩:∃p,p=ic p0 (fun i=>ij (cf.rules.getD i default)) i:=⟨_,rfl⟩
 rw[←hpp]at hL
 have hB:p.1.length≤200000000000000000:=by have:=iQ hL hi hl (by omega);omega
 by_cases hlt:i < cf.rules.length
 ·have c179:=bT ((i:Int) < (cf.rules.length:Int)) (by omega)
  have hy:=getD_at hlt
  obtain⟨x,hx⟩:∃x,x=cf.rules.getD i default:=⟨_,rfl⟩
  have hmem:x∈cf.rules:=by rw[hx];exact bX hlt
  rw[←hx]at hy
  have hst:ic p0 (fun i=>ij (cf.rules.getD i default)) (i+1)=ij x p:=by rw[tL,←hpp,←hx]
  have c181:=my (i:=i) (by omega)
  have h0:i+1≤cf.rules.length:=hlt
  have h1:cf.rules.length - (i+1) < cf.rules.length - i:=by omega
  have h2:gT 13 (i+1)=gT 13 (i+1):=rfl
  clear hx hL
  have wx:=hw.l x hmem
  have hnl:=hm.r x hmem
  obtain⟨inf,hi1,hi2⟩:=cY (P:=prog) (t:=81) (n:=49) (by kernel_rfl)
  obtain⟨pp,c186,c187⟩:=hr.l.FA Rl.az underlying42 hi1 hi2 underlying81 rfl (by omega) hy
  obtain⟨q,hq⟩:∃q,q=ij x p:=⟨_,rfl⟩
  have c188:=fun W (_:ai [] w W) g (hb':au W g 142 (eS p))=>MU (b:=⟨w,[],fun _ _=>False⟩) hq (i:=1) (.ak _) rfl wx (by omega) (by omega) (by omega) (by omega) hb'
  have z3:bV cf s q=bV cf s (ic p0 (fun i=>ij (cf.rules.getD i default)) (i+1)):=by rw[hst,hq]
  clear hst hq
  refine⟨[(179,.is (.bool true)),(186,.any pp),(187,.any (.agg x.cells.toArray)),(188,.fP 0 (eS q) (.tuple #[])),(181,.is (.int .i64 ((i+1:Nat):Int)))],[],?_⟩
  rw[←hpp]
  exact Eq.mp (by kernel_rfl) (Sx.t8 c179 c186 c187 c188 c181 h0 h1 h2 z3)
 ·have c179:=bF ((i:Int) < (cf.rules.length:Int)) (by omega)
  obtain rfl:i=cf.rules.length:=by omega
  have h0:True:=trivial
  have h1:([(1,.ptr 0 0),(4,.ptr 1 0)]:List (Nat×Sx.SV))=[(1,.ptr 0 0),(4,.ptr 1 0)]:=rfl
  have z2:bV cf s p=bV cf s p:=rfl
  refine⟨[(179,.is (.bool false))],[],?_⟩
  rw[←hpp]
  exact Eq.mp (by kernel_rfl) (Sx.t2 c179 h0 (And.intro h1 z2))
end Go.Proofs.YtnncigmpcdehnaaGreatDoor
