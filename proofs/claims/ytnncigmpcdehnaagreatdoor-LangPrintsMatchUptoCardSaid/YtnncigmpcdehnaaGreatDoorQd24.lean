import Derived.Test.YtnncigmpcdehnaaGreatDoorQd23
namespace Go.Proofs.YtnncigmpcdehnaaGreatDoor
open Go.RowKit Go.Lib Go.Sort
def sB(c:UInt8):Bool:=c==32||c==9
def wC(cm:Bool)(c:UInt8):Bool:=!sB c&&!(cm&&c==35)
def runN(p:UInt8→Bool)(s:Bs)(i:Nat):Nat:=i+((s.drop i).takeWhile p).length
theorem cF(p:UInt8→Bool)(s:Bs)(i:Nat):i≤runN p s i:=Nat.le_add_right _ _
theorem Fm(p:UInt8→Bool):∀l:Bs,(l.takeWhile p).length≤l.length
 | []=>by simp
 |c::l=>by
  rw[List.takeWhile_cons]
  split
  ·have:=Fm p l;simp;omega
  ·simp
theorem jx(p:UInt8→Bool)(s:Bs)(i:Nat)(hi:i≤s.length):runN p s i≤s.length:=by
 have:=Fm p (s.drop i)
 rw[List.length_drop]at this
 unfold runN;omega
theorem Lp(p:UInt8→Bool):∀(l:Bs) (j:Nat),j < (l.takeWhile p).length→∃c,l[j]?=some c∧p c=true
 | [],j,h=>by simp at h
 |c::l,j,h=>by
  rw[List.takeWhile_cons]at h
  split at h
  ·rename_i hc
   cases j with
   |zero=>exact⟨c,rfl,hc⟩
   |succ j=>exact Lp p l j (by simpa using h)
  ·simp at h
theorem Fl(p:UInt8→Bool):∀(l:Bs),(l.takeWhile p).length < l.length→∃c,l[(l.takeWhile p).length]?=some c∧p c=false
 | [],h=>by simp at h
 |c::l,h=>by
  rw[List.takeWhile_cons]at h ⊢
  by_cases hc:p c=true
  ·rw[if_pos hc]at h ⊢
   have:=Fl p l (by simpa using h)
   simpa using this
  ·rw[if_neg hc]
   exact⟨c,rfl,by simpa using hc⟩
theorem vJ{p:UInt8→Bool}{s:Bs}{i j:Nat}(h1:i≤j)(h2:j < runN p s i):∃c,s[j]?=some c∧p c=true:=by
 obtain⟨c,h,hp⟩:=Lp p (s.drop i) (j - i) (by unfold runN at h2; omega)
 rw[List.getElem?_drop,show i+(j - i)=j by omega]at h
 exact⟨c,h,hp⟩
theorem jb{p:UInt8→Bool}{s:Bs}{i:Nat}(hi:i≤s.length)(h:runN p s i < s.length):∃c,s[runN p s i]?=some c∧p c=false:=by
 obtain⟨c,h1,hp⟩:=Fl p (s.drop i) (by rw[List.length_drop];unfold runN at h;omega)
 rw[List.getElem?_drop]at h1
 exact⟨c,h1,hp⟩
theorem oR{p:UInt8→Bool}{s:Bs}{i:Nat}{c:UInt8}(h:s[i]?=some c)(hp:p c=true):i < runN p s i:=by
 have hl:=(List.getElem?_eq_some_iff.1 h).1
 have e:s.drop i=c::s.drop (i+1):=by
  obtain⟨h1,rfl⟩:=List.getElem?_eq_some_iff.1 h
  exact List.drop_eq_getElem_cons h1
 unfold runN
 rw[e,List.takeWhile_cons,if_pos hp]
 simp
theorem qn(cm:Bool):∀(l:Bs),bW cm [] l=bW cm [] (l.drop (l.takeWhile sB).length)
 | []=>rfl
 |c::l=>by
  rw[List.takeWhile_cons]
  by_cases hc:sB c=true
  ·rw[if_pos hc,List.length_cons,List.drop_succ_cons,←qn cm l]
   have h1:c=32∨c=9:=by
    unfold sB at hc
    rw[Bool.or_eq_true,beq_iff_eq,beq_iff_eq]at hc
    exact hc
   have h2:c≠35:=by rcases h1 with rfl|rfl<;>decide
   conv=>lhs;unfold bW
   rw[if_neg (by simp[h2]),if_pos h1,if_pos rfl]
  ·rw[if_neg hc];rfl
theorem rG(cm:Bool):∀(l cur:Bs),cur≠[]→bW cm cur l=(cur++l.takeWhile (wC cm))::bW cm [] (l.drop (l.takeWhile (wC cm)).length)
 | [],cur,h=>by simp[bW,h]
 |c::l,cur,h=>by
  rw[List.takeWhile_cons]
  by_cases hc:wC cm c=true
  ·rw[if_pos hc,List.length_cons,List.drop_succ_cons]
   have ih:=rG cm l (cur++[c]) (by simp)
   rw[List.append_assoc]at ih
   have hcc:=hc
   unfold wC sB at hc
   rw[Bool.and_eq_true,Bool.not_eq_true',Bool.not_eq_true',Bool.or_eq_false_iff,beq_eq_false_iff_ne,beq_eq_false_iff_ne,Bool.and_eq_false_iff,beq_eq_false_iff_ne]at hc
   conv=>lhs;unfold bW
   rw[if_neg (by rcases hc.2 with h|h<;>simp[h]),if_neg (by simp[hc.1.1,hc.1.2])]
   exact ih
  ·rw[if_neg hc]
   simp only[List.append_nil,List.length_nil,List.drop_zero]
   unfold bW
   by_cases h35:cm=true∧c=35
   ·rw[if_pos h35,if_neg h,if_pos h35,if_pos rfl]
   ·rw[if_neg h35,if_neg h35]
    have h1:c=32∨c=9:=by
     have h2:sB c=true:=by
      cases hs:sB c with
      |true=>rfl
      |false=>
       exfalso
       apply hc
       unfold wC
       rw[hs]
       cases cm with
       |false=>rfl
       |true=>
        have:c≠35:=fun h=>h35 ⟨rfl,h⟩
        simp[this]
     unfold sB at h2
     rw[Bool.or_eq_true,beq_iff_eq,beq_iff_eq]at h2
     exact h2
    rw[if_pos h1,if_pos h1,if_neg h,if_pos rfl]
def lx(cm:Bool)(s:Bs)(i:Nat):List Bs:=bW cm [] (s.drop i)
theorem kA(cm:Bool)(s:Bs)(i:Nat):lx cm s i=lx cm s (runN sB s i):=by
 unfold lx runN
 rw[qn,List.drop_drop]
theorem mJ(cm:Bool)(s:Bs):lx cm s s.length=[]:=by
 unfold lx
 rw[List.drop_length];rfl
theorem rK(s:Bs)(i:Nat)(h:s[i]?=some 35):lx true s i=[]:=by
 unfold lx
 have e:s.drop i=35::s.drop (i+1):=by
  obtain⟨h1,h2⟩:=List.getElem?_eq_some_iff.1 h
  rw[←h2];exact List.drop_eq_getElem_cons h1
 rw[e]
 unfold bW
 rw[if_pos ⟨rfl,rfl⟩,if_pos rfl]
theorem kz(cm:Bool)(s:Bs)(i:Nat){c:UInt8}(h:s[i]?=some c)(hc:wC cm c=true):lx cm s i=(s.take (runN (wC cm) s i)).drop i::lx cm s (runN (wC cm) s i):=by
 unfold lx
 have e:s.drop i=c::s.drop (i+1):=by
  obtain⟨h1,h2⟩:=List.getElem?_eq_some_iff.1 h
  rw[←h2];exact List.drop_eq_getElem_cons h1
 have e1:bW cm [] (c::s.drop (i+1))=bW cm [c] (s.drop (i+1)):=by
  have hcc:=hc
  unfold wC sB at hcc
  rw[Bool.and_eq_true,Bool.not_eq_true',Bool.not_eq_true',Bool.or_eq_false_iff,beq_eq_false_iff_ne,beq_eq_false_iff_ne,Bool.and_eq_false_iff,beq_eq_false_iff_ne]at hcc
  conv=>lhs;unfold bW
  rw[if_neg (by rcases hcc.2 with h|h<;>simp[h]),if_neg (by simp[hcc.1.1,hcc.1.2])]
  rfl
 have e2:(s.drop i).takeWhile (wC cm)=c::(s.drop (i+1)).takeWhile (wC cm):=by rw[e,List.takeWhile_cons,if_pos hc]
 have e3:(s.take (runN (wC cm) s i)).drop i=(s.drop i).takeWhile (wC cm):=by
  unfold runN
  rw[List.drop_take,show i+((s.drop i).takeWhile (wC cm)).length - i=((s.drop i).takeWhile (wC cm)).length by omega]
  generalize s.drop i=l
  induction l with
  |nil=>rfl
  |cons a l ih=>
   rw[List.takeWhile_cons]
   split
   ·rw[List.length_cons,List.take_succ_cons,ih]
   ·rfl
 rw[e3,e2]
 conv=>lhs;rw[e,e1,rG cm _ _ (by simp)]
 unfold runN
 rw[e2,List.length_cons,List.drop_drop]
 congr 3
 omega
set_option maxRecDepth 100000
open Go.RowKit Go.Lib Go.Sort
def OY(r:Rl):Value:=.agg r.cells.toArray
def NO(r:Rl):Sx.Row:=⟨81,.aj r.cells⟩
abbrev RP{α:Type}(r:Out α)(n:Nat):Prop:=r.okB=true∧r.pos≤n
abbrev PV(f g:Nat)(A:Option Go.Addr)(n c i:Nat)(ws:List Bs){α:Type}(V:α→Value)(r:Out α):Prop:=∀W,dX W g A n c i ws→Calls Tryz.prog f (.pointer (some ⟨g,0,none⟩)::[]).toArray W (bM g A n c V r W)
abbrev PU{α β:Type}(r:Out α)(T:Out β):Prop:=∀code p,r=.no code p→T=.no code p
theorem Out.bind_assoc{α β γ:Type}(r:Out α)(g:α→Nat→Out β)(f:β→Nat→Out γ):(r.bind g).bind f=r.bind fun a i=>(g a i).bind f:=by cases r<;>rfl
theorem cz{α β:Type}{T:Out β}(r:Out α){f:α→Nat→Out β}(h:T=r.bind f):T=r.bind f:=h
theorem Mg(s:Bs):((pZ s).getD nz).n < 2^128 ∧ -9223372036854775808≤((pZ s).getD nz).k∧((pZ s).getD nz).k≤9223372036854775807:=by
 cases h:pZ s with
 |none=>exact⟨by decide,by decide,by decide⟩
 |some p=>
  obtain⟨h1,h2,_⟩:=sa h
  unfold fA at h2
  rw[Bool.and_eq_true,Bool.and_eq_true,decide_eq_true_iff,decide_eq_true_iff]at h2
  have:=eV p.v
  exact⟨h1,by show _≤p.k;omega,by show p.k≤_;omega⟩
theorem Out.cq{α β:Type}{r:Out α}{f:α→Nat→Out β}{b:β}{j:Nat}(h:r.bind f=.ok b j):∃a i,r=.ok a i∧f a i=.ok b j:=by
 cases r with
 |ok a i=>exact⟨a,i,rfl,h⟩
 |no c p=>cases h
theorem xw{α:Type}{b:Bool}{code:Nat}{a a':α}{i j:Nat}(h:ax b code a i=.ok a' j):b=true∧a'=a:=by
 cases b with
 |true=>injection h with h _;exact⟨rfl,h.symm⟩
 |false=>cases h
theorem vD{ws:List Bs}{i j:Nat}{s:Nat×Nat}(h:iF ws i=.ok s j):s.1≤65535∧s.2≤65535:=by
 obtain⟨x,k,_,hx⟩:=Out.cq h
 obtain⟨hb,rfl⟩:=xw hx
 rw[Bool.and_eq_true]at hb
 exact⟨sG hb.1,sG hb.2⟩
theorem mX{ws:List Bs}{i j:Nat}{p:Px}(h:dB ws i=.ok p j):p.n < 2^128 ∧ -9223372036854775808≤p.k∧p.k≤9223372036854775807:=by
 obtain⟨x,k,_,hx⟩:=Out.cq h
 obtain⟨_,rfl⟩:=xw hx
 exact Mg x
theorem Gb{ws:List Bs}{i j v:Nat}(h:dR ws i=.ok v j):v≤255:=by
 unfold dR at h
 obtain⟨b,k,_,h⟩:=Out.cq h
 cases b with
 |true=>injection h with h _;omega
 |false=>
  obtain⟨b,k,_,h⟩:=Out.cq h
  cases b with
  |true=>injection h with h _;omega
  |false=>exact AP h
def Mt.Good(m:Mt):Prop:=m.Wf∧m.asks < 64
theorem sM:lz.Good:=⟨⟨by decide,by decide,by decide,by decide,by decide,by decide,by decide,by decide,by decide⟩,by decide⟩
theorem AA{k:Nat}{m m':Mt}{ws:List Bs}{i j:Nat}(h:bh k m ws i=.ok m' j)(hm:m.Good):m'.Good:=by
 obtain⟨hw,ha⟩:=hm
 rcases k with _|_|_|_|_|k
 ·obtain⟨s,l,hs,h⟩:=Out.cq h
  injection h with h _
  subst h
  exact⟨{ hw with eQ:=vD hs },ha⟩
 ·obtain⟨s,l,hs,h⟩:=Out.cq h
  injection h with h _
  subst h
  exact⟨{ hw with sn:=(mX hs).1,sk:=(mX hs).2 },ha⟩
 ·obtain⟨s,l,hs,h⟩:=Out.cq h
  injection h with h _
  subst h
  exact⟨{ hw with dn:=(mX hs).1,dk:=(mX hs).2 },ha⟩
 ·obtain⟨s,l,hs,h⟩:=Out.cq h
  injection h with h _
  subst h
  exact⟨{ hw with pr:=Gb hs },ha⟩
 ·obtain⟨s,l,hs,h⟩:=Out.cq h
  injection h with h _
  subst h
  exact⟨{ hw with sp:=vD hs },ha⟩
 ·obtain⟨s,l,hs,h⟩:=Out.cq h
  injection h with h _
  subst h
  exact⟨{ hw with dp:=vD hs },ha⟩
theorem tw{ws:List Bs}{i:Nat}{m m':Mt}{b:Bool}{j:Nat}(h:a7 ws i m=.ok (b,m') j)(hm:m.Good):m'.Good:=by
 unfold a7 at h
 split at h
 ·injection h with h _;injection h with _ h;rw[←h];exact hm
 ·split at h
  ·injection h with h _;injection h with _ h;rw[←h];exact hm
  ·rename_i k hk
   split at h
   ·cases h
   ·obtain⟨a,l,hr,h⟩:=Out.cq h
    injection h with h _
    injection h with _ h
    subst h
    have h64:=Cn ⟨m.asks,hm.2⟩ ⟨k,Hf hk⟩
    exact AA hr ⟨{ hm.1 with asks:=by show m.asks|||2^k < 256;exact Nat.lt_trans h64 (by decide) },h64⟩
theorem qC{ws:List Bs}:∀{f i:Nat} {m m':Mt} {j:Nat},ee ws f i m=.ok m' j→m.Good→m'.Good
 | 0,_,_,_,_,h,hm=>by injection h with h _;rw[←h];exact hm
 |f+1,_,_,_,_,h,hm=>by
  obtain⟨⟨b,a⟩,l,hr,h⟩:=Out.cq h
  have hg:=tw hr hm
  cases b with
  |true=>exact qC h hg
  |false=>injection h with h _;rw[←h];exact hm
theorem AV{ws:List Bs}{i:Nat}{m:Mt}{j:Nat}(h:fu ws i=.ok m j):m.Good:=by
 obtain⟨b,l,_,h⟩:=Out.cq h
 cases b with
 |true=>injection h with h _;rw[←h];exact sM
 |false=>
  obtain⟨⟨b,a⟩,l,hr,h⟩:=Out.cq h
  have hg:=tw hr sM
  cases b with
  |true=>exact qC h hg
  |false=>
   obtain⟨_,_,_,h⟩:=Out.cq h
   cases h
theorem Ka{w:World}{g:Nat}{A:Option Go.Addr}{n c i:Nat}{ws:List Bs}(h:dX w g A n c i ws):Calls Tryz.prog 190 #[.pointer (some ⟨g,0,none⟩)] w (bM g A n c OY (nF ws i) w):=by
 obtain⟨T,hT⟩:∃T,T=nF ws i:=⟨_,rfl⟩
 have E1:=cz (fG ws i) hT
 rw[←hT]
 clear hT
 have n4:=fun W (hL:dX W g A n c i ws)=>pb hL
 generalize fG ws i=r1 at E1 n4
 have E2:=fun(h1:r1.okB=true)=>cz (fu ws r1.pos) (bS E1 h1)
 have n7:=fun W (hL:dX W g A n c r1.pos ws)=>GL hL
 have hg:(fu ws r1.pos).okB=true→(fu ws r1.pos).val.Good:=fun hh=>AV (Out.Cr hh)
 generalize fu ws r1.pos=r2 at E2 n7 hg
 have E3:=fun h1 (h2:r2.okB=true)=>cz (aR ws r2.pos) ((bS (E2 h1) h2).trans (Out.bind_assoc (aR ws r2.pos) _ _))
 have n11:=fun W (hL:dX W g A n c r2.pos ws)=>mb hL
 generalize aR ws r2.pos=r3 at E3 n11
 have n17:=fun(h2:r2.okB=true) W (_:ag [g] w W)=>o8 r2.val (hg h2).1 W
 have hck:Value.bool ((if ba r2.val=true then(0:Int)else 190)==0)=.bool (ba r2.val):=by cases ba r2.val<;>rfl
 obtain⟨ar,har⟩:∃ar,decide (r3.val=uU)=ar:=⟨_,rfl⟩
 have E4:=fun h1 h2 (h3:r3.okB=true)=>cz (ax ar 200 () r3.pos) ((bS (E3 h1 h2) h3).trans (by rw[har];exact Out.bind_assoc (ax ar 200 () r3.pos) _ _))
 have n13:=fun W (hL:dX W g A n c r3.pos ws)=>gD ar 200 () hL
 generalize ax ar 200 () r3.pos=r4 at E4 n13
 have E5:=fun h1 h2 h3 (h4:r4.okB=true)=>cz (ax (ba r2.val) 190 () r4.pos) (bS (E4 h1 h2 h3) h4)
 generalize (if ba r2.val=true then(0:Int)else 190)=ck at n17 hck
 generalize ba r2.val=cb at hck E5
 have n19:=fun W (hL:dX W g A n c r4.pos ws)=>gD cb 190 () hL
 generalize ax cb 190 () r4.pos=r5 at E5 n19
 have E6:=fun h1 h2 h3 h4 (h5:r5.okB=true)=>cz (oE true ws r5.pos) (bS (E5 h1 h2 h3 h4) h5)
 have n22:=fun W (hL:dX W g A n c r5.pos ws)=>uT true hL
 generalize oE true ws r5.pos=r6 at E6 n22
 have E7:=fun h1 h2 h3 h4 h5 (h6:r6.okB=true)=>cz (n6 bU ws r6.pos) (bS (E6 h1 h2 h3 h4 h5) h6)
 have opt:∀(k:Bs) (j:Nat),∃b p,dt ws j k=.ok b p∧(b=true→n6 k ws j=fG ws p)∧(b=false→n6 k ws j=.ok [] p):=fun k j=>by
  rcases gG (ws:=ws) (i:=j) (s:=k)with⟨t,_⟩ | t
  ·exact⟨true,j+1,t,fun _=>by unfold n6;rw[t];rfl,fun h=>by cases h⟩
  ·exact⟨false,j,t,fun h=>(by cases h),fun _=>by unfold n6;rw[t];rfl⟩
 obtain⟨bm,p7,t7,u7,v7⟩:=opt bU r6.pos
 generalize n6 bU ws r6.pos=r8 at E7 u7 v7
 have n30:bm=true→PV 188 g A n c p7 ws ab r8:=fun e W hL=>by rw[u7 e];exact pb hL
 have E9:=fun h1 h2 h3 h4 h5 h6 (h8:r8.okB=true)=>cz (n6 bp ws r8.pos) (bS (E7 h1 h2 h3 h4 h5 h6) h8)
 obtain⟨bi,p9,t9,u9,v9⟩:=opt bp r8.pos
 generalize n6 bp ws r8.pos=r10 at E9 u9 v9
 have n35:bi=true→PV 188 g A n c p9 ws ab r10:=fun e W hL=>by rw[u9 e];exact pb hL
 have q:∀(u:Rl) {j:Nat} {α:Type} [Inhabited α] {f:Nat} {V:α→Value} {r:Out α} (rest:List Value),j≤n→PU r T→(∀W,dX W g A n c j ws→Calls Tryz.prog f (.pointer (some ⟨g,0,none⟩)::rest).toArray W (bM g A n c V r W))→_:=fun u j α _ f V r rest hj hno hn=>kU (T:=T) [NO u] rest h hj hno hn
 have CH:=And.intro (q PM [] h.le (bY E1) n4) fun(x1:RP r1 n)=>And.intro (q ⟨r1.val,lz,0,0,[],[]⟩ [] x1.2 (bY (E2 x1.1)) n7) fun(x2:RP r2 n)=>And.intro (q ⟨r1.val,r2.val,0,0,[],[]⟩ [] x2.2 (bY (E3 x1.1 x2.1)) n11) fun(x3:RP r3 n)=>And.intro (fun W=>bC (.tmp 11) (.const (ab uU)) r3.val uU ar har W)
  (And.intro (q ⟨r1.val,r2.val,0,0,[],[]⟩ [.bool ar,.int .i64 200] x3.2 (bY (E4 x1.1 x2.1 x3.1)) n13) fun(x4:RP r4 n)=>And.intro (n17 x2.1) (And.intro hck (And.intro (q ⟨r1.val,r2.val,0,0,[],[]⟩ [.bool cb,.int .i64 190] x4.2 (bY (E5 x1.1 x2.1 x3.1 x4.1)) n19) fun(x5:RP r5 n)=>And.intro (q ⟨r1.val,r2.val,0,0,[],[]⟩ [.bool true] x5.2 (bY (E6 x1.1 x2.1 x3.1 x4.1 x5.1)) n22) fun(x6:RP r6 n)=>
   And.intro (q ⟨r1.val,r2.val,r6.val.1,r6.val.2,[],[]⟩ [ab bU] (V:=fun b:Bool=>.bool b) (r:=Out.ok bm p7) x6.2 (fun _ _ hh=>by cases hh) (fun W hL=>t7 ▸ jS bU hL)) fun(x7:RP (Out.ok bm p7) n)=>
    have K8:=fun(x8:RP r8 n)=>And.intro (q ⟨r1.val,r2.val,r6.val.1,r6.val.2,r8.val,[]⟩ [ab bp] (V:=fun b:Bool=>.bool b) (r:=Out.ok bi p9) x8.2 (fun _ _ hh=>by cases hh) (fun W hL=>t9 ▸ jS bp hL)) fun(x9:RP (Out.ok bi p9) n)=>
     have K10:=fun(x10:RP r10 n)=>(show xu g A n c OY T (.val (OY ⟨r1.val,r2.val,r6.val.1,r6.val.2,r8.val,r10.val⟩)) [(g,154,dr A n c r10.pos)]from⟨⟨r1.val,r2.val,r6.val.1,r6.val.2,r8.val,r10.val⟩,r10.pos,bS (E9 x1.1 x2.1 x3.1 x4.1 x5.1 x6.1 x8.1) x10.1,x10.2,rfl,rfl⟩)
     ET.mk (b:=bi) (fun e=>And.intro (q ⟨r1.val,r2.val,r6.val.1,r6.val.2,r8.val,[]⟩ [] x9.2 (bY (E9 x1.1 x2.1 x3.1 x4.1 x5.1 x6.1 x8.1)) (n35 e)) K10) fun e=>K10 (by rw[v9 e];exact x9)
    ET.mk (b:=bm) (fun e=>And.intro (q ⟨r1.val,r2.val,r6.val.1,r6.val.2,[],[]⟩ [] x7.2 (bY (E7 x1.1 x2.1 x3.1 x4.1 x5.1 x6.1)) (n30 e)) K8) fun e=>K8 (by rw[v7 e];exact x7))))
 refine cP [] h.bZ [(4,.an (eo 0 g A n c r1 ab)),(7,.an (eo 0 g A n c r2 gY)),(11,.an (eo 0 g A n c r3 ab)),(12,.bin (.bool ar)),(13,.an (eo 0 g A n c r4 (fun _=>.tuple #[]))),(17,.call (.int .i64 ck)),(18,.is (.bool cb)),(19,.an (eo 0 g A n c r5 (fun _=>.tuple #[]))),(22,.an (eo 0 g A n c r6 q5)),(28,.an (eo 0 g A n c (Out.ok bm p7) (fun b=>.bool b))),(30,.an (eo 0 g A n c r8 ab)),(33,.an (eo 0 g A n c (Out.ok bi p9) (fun b=>.bool b))),(35,.an (eo 0 g A n c r10 ab))] [] (by kernel_rfl) Tryz.func190 rfl (Nat.le_of_ble_eq_true rfl) ?_
 cases bm with
 |true=>
  cases bi with
  |true=>exact Eq.mp (by kernel_rfl) CH
  |false=>
   obtain rfl:=v9 rfl
   exact Eq.mp (by kernel_rfl) CH
 |false=>
  obtain rfl:=v7 rfl
  cases bi with
  |true=>exact Eq.mp (by kernel_rfl) CH
  |false=>
   obtain rfl:=v9 rfl
   exact Eq.mp (by kernel_rfl) CH
end Go.Proofs.YtnncigmpcdehnaaGreatDoor
