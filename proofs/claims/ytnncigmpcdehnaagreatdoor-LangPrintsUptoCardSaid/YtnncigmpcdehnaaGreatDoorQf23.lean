import Derived.Test.YtnncigmpcdehnaaGreatDoorQf22
namespace Go.Proofs.YtnncigmpcdehnaaGreatDoor
open Go.RowKit Go.Lib Go.Sort
def sB(c:UInt8):Bool:=c==32||c==9
def wC(cm:Bool)(c:UInt8):Bool:=!sB c&&!(cm&&c==35)
def runN(p:UInt8→Bool)(s:Bs)(i:Nat):Nat:=i+((s.drop i).takeWhile p).length
theorem cO(p:UInt8→Bool)(s:Bs)(i:Nat):i≤runN p s i:=Nat.le_add_right _ _
theorem Ib(p:UInt8→Bool):∀l:Bs,(l.takeWhile p).length≤l.length
 | []=>by simp
 |c::l=>by
  rw[List.takeWhile_cons]
  split
  ·have:=Ib p l;simp;omega
  ·simp
theorem j8(p:UInt8→Bool)(s:Bs)(i:Nat)(hi:i≤s.length):runN p s i≤s.length:=by
 have:=Ib p (s.drop i)
 rw[List.length_drop]at this
 unfold runN;omega
theorem OJ(p:UInt8→Bool):∀(l:Bs) (j:Nat),j < (l.takeWhile p).length→∃c,l[j]?=some c∧p c=true
 | [],j,h=>by simp at h
 |c::l,j,h=>by
  rw[List.takeWhile_cons]at h
  split at h
  ·rename_i hc
   cases j with
   |zero=>exact⟨c,rfl,hc⟩
   |succ j=>exact OJ p l j (by simpa using h)
  ·simp at h
theorem Ia(p:UInt8→Bool):∀(l:Bs),(l.takeWhile p).length < l.length→∃c,l[(l.takeWhile p).length]?=some c∧p c=false
 | [],h=>by simp at h
 |c::l,h=>by
  rw[List.takeWhile_cons]at h ⊢
  by_cases hc:p c=true
  ·rw[if_pos hc]at h ⊢
   have:=Ia p l (by simpa using h)
   simpa using this
  ·rw[if_neg hc]
   exact⟨c,rfl,by simpa using hc⟩
theorem yf{p:UInt8→Bool}{s:Bs}{i j:Nat}(h1:i≤j)(h2:j < runN p s i):∃c,s[j]?=some c∧p c=true:=by
 obtain⟨c,h,hp⟩:=OJ p (s.drop i) (j - i) (by unfold runN at h2; omega)
 rw[List.getElem?_drop,show i+(j - i)=j by omega]at h
 exact⟨c,h,hp⟩
theorem jJ{p:UInt8→Bool}{s:Bs}{i:Nat}(hi:i≤s.length)(h:runN p s i < s.length):∃c,s[runN p s i]?=some c∧p c=false:=by
 obtain⟨c,h1,hp⟩:=Ia p (s.drop i) (by rw[List.length_drop];unfold runN at h;omega)
 rw[List.getElem?_drop]at h1
 exact⟨c,h1,hp⟩
theorem pX{p:UInt8→Bool}{s:Bs}{i:Nat}{c:UInt8}(h:s[i]?=some c)(hp:p c=true):i < runN p s i:=by
 have hl:=(List.getElem?_eq_some_iff.1 h).1
 have e:s.drop i=c::s.drop (i+1):=by
  obtain⟨h1,rfl⟩:=List.getElem?_eq_some_iff.1 h
  exact List.drop_eq_getElem_cons h1
 unfold runN
 rw[e,List.takeWhile_cons,if_pos hp]
 simp
theorem rQ(cm:Bool):∀(l:Bs),cd cm [] l=cd cm [] (l.drop (l.takeWhile sB).length)
 | []=>rfl
 |c::l=>by
  rw[List.takeWhile_cons]
  by_cases hc:sB c=true
  ·rw[if_pos hc,List.length_cons,List.drop_succ_cons,←rQ cm l]
   have h1:c=32∨c=9:=by
    unfold sB at hc
    rw[Bool.or_eq_true,beq_iff_eq,beq_iff_eq]at hc
    exact hc
   have h2:c≠35:=by rcases h1 with rfl|rfl<;>decide
   conv=>lhs;unfold cd
   rw[if_neg (by simp[h2]),if_pos h1,if_pos rfl]
  ·rw[if_neg hc];rfl
theorem tt(cm:Bool):∀(l cur:Bs),cur≠[]→cd cm cur l=(cur++l.takeWhile (wC cm))::cd cm [] (l.drop (l.takeWhile (wC cm)).length)
 | [],cur,h=>by simp[cd,h]
 |c::l,cur,h=>by
  rw[List.takeWhile_cons]
  by_cases hc:wC cm c=true
  ·rw[if_pos hc,List.length_cons,List.drop_succ_cons]
   have ih:=tt cm l (cur++[c]) (by simp)
   rw[List.append_assoc]at ih
   have hcc:=hc
   unfold wC sB at hc
   rw[Bool.and_eq_true,Bool.not_eq_true',Bool.not_eq_true',Bool.or_eq_false_iff,beq_eq_false_iff_ne,beq_eq_false_iff_ne,Bool.and_eq_false_iff,beq_eq_false_iff_ne]at hc
   conv=>lhs;unfold cd
   rw[if_neg (by rcases hc.2 with h|h<;>simp[h]),if_neg (by simp[hc.1.1,hc.1.2])]
   exact ih
  ·rw[if_neg hc]
   simp only[List.append_nil,List.length_nil,List.drop_zero]
   unfold cd
   by_cases h35:cm=true∧c=35
   ·rw[if_pos h35,if_neg h,if_pos h35,if_pos rfl]
   ·rw[if_neg h35,if_neg h35]
    have h1:c=32∨c=9:=by
     have h2:sB c=true:=by
      cases hs:sB c with
      |true=>rfl
      |false=>
       exfalso
       apply hc
       unfold wC
       rw[hs]
       cases cm with
       |false=>rfl
       |true=>
        have:c≠35:=fun h=>h35 ⟨rfl,h⟩
        simp[this]
     unfold sB at h2
     rw[Bool.or_eq_true,beq_iff_eq,beq_iff_eq]at h2
     exact h2
    rw[if_pos h1,if_pos h1,if_neg h,if_pos rfl]
def mv(cm:Bool)(s:Bs)(i:Nat):List Bs:=cd cm [] (s.drop i)
theorem lK(cm:Bool)(s:Bs)(i:Nat):mv cm s i=mv cm s (runN sB s i):=by
 unfold mv runN
 rw[rQ,List.drop_drop]
theorem nS(cm:Bool)(s:Bs):mv cm s s.length=[]:=by
 unfold mv
 rw[List.drop_length];rfl
theorem tB(s:Bs)(i:Nat)(h:s[i]?=some 35):mv true s i=[]:=by
 unfold mv
 have e:s.drop i=35::s.drop (i+1):=by
  obtain⟨h1,h2⟩:=List.getElem?_eq_some_iff.1 h
  rw[←h2];exact List.drop_eq_getElem_cons h1
 rw[e]
 unfold cd
 rw[if_pos ⟨rfl,rfl⟩,if_pos rfl]
theorem lJ(cm:Bool)(s:Bs)(i:Nat){c:UInt8}(h:s[i]?=some c)(hc:wC cm c=true):mv cm s i=(s.take (runN (wC cm) s i)).drop i::mv cm s (runN (wC cm) s i):=by
 unfold mv
 have e:s.drop i=c::s.drop (i+1):=by
  obtain⟨h1,h2⟩:=List.getElem?_eq_some_iff.1 h
  rw[←h2];exact List.drop_eq_getElem_cons h1
 have e1:cd cm [] (c::s.drop (i+1))=cd cm [c] (s.drop (i+1)):=by
  have hcc:=hc
  unfold wC sB at hcc
  rw[Bool.and_eq_true,Bool.not_eq_true',Bool.not_eq_true',Bool.or_eq_false_iff,beq_eq_false_iff_ne,beq_eq_false_iff_ne,Bool.and_eq_false_iff,beq_eq_false_iff_ne]at hcc
  conv=>lhs;unfold cd
  rw[if_neg (by rcases hcc.2 with h|h<;>simp[h]),if_neg (by simp[hcc.1.1,hcc.1.2])]
  rfl
 have e2:(s.drop i).takeWhile (wC cm)=c::(s.drop (i+1)).takeWhile (wC cm):=by rw[e,List.takeWhile_cons,if_pos hc]
 have e3:(s.take (runN (wC cm) s i)).drop i=(s.drop i).takeWhile (wC cm):=by
  unfold runN
  rw[List.drop_take,show i+((s.drop i).takeWhile (wC cm)).length - i=((s.drop i).takeWhile (wC cm)).length by omega]
  generalize s.drop i=l
  induction l with
  |nil=>rfl
  |cons a l ih=>
   rw[List.takeWhile_cons]
   split
   ·rw[List.length_cons,List.take_succ_cons,ih]
   ·rfl
 rw[e3,e2]
 conv=>lhs;rw[e,e1,tt cm _ _ (by simp)]
 unfold runN
 rw[e2,List.length_cons,List.drop_drop]
 congr 3
 omega
set_option maxRecDepth 100000
open Go.RowKit Go.Lib Go.Sort _root_.Go.Proofs.Tryz
def SI(r:Rl):Value:=.agg r.cells.toArray
def Rm(r:Rl):Sx.Row:=⟨81,.ak r.cells⟩
abbrev RP{α:Type}(r:Out α)(n:Nat):Prop:=r.okB=true∧r.pos≤n
abbrev TN(f g:Nat)(A:Option Go.Addr)(n c i:Nat)(ws:List Bs){α:Type}(V:α→Value)(r:Out α):Prop:=∀W,eJ W g A n c i ws→Calls prog f ((pt g 0)::[]).toArray W (bU g A n c V r W)
abbrev TM{α β:Type}(r:Out α)(T:Out β):Prop:=∀code p,r=.no code p→T=.no code p
theorem Out.bind_assoc{α β γ:Type}(r:Out α)(g:α→Nat→Out β)(f:β→Nat→Out γ):(r.bind g).bind f=r.bind fun a i=>(g a i).bind f:=by cases r<;>rfl
theorem cK{α β:Type}{T:Out β}(r:Out α){f:α→Nat→Out β}(h:T=r.bind f):T=r.bind f:=h
theorem PK(s:Bs):((rf s).getD oc).n < 2^128 ∧ -9223372036854775808≤((rf s).getD oc).k∧((rf s).getD oc).k≤9223372036854775807:=by
 cases h:rf s with
 |none=>exact⟨by decide,by decide,by decide⟩
 |some p=>
  obtain⟨h1,h2,_⟩:=ud h
  unfold gh at h2
  rw[Bool.and_eq_true,Bool.and_eq_true,decide_eq_true_iff,decide_eq_true_iff]at h2
  have:=fA p.v
  exact⟨h1,by show _≤p.k;omega,by show p.k≤_;omega⟩
theorem Out.cD{α β:Type}{r:Out α}{f:α→Nat→Out β}{b:β}{j:Nat}(h:r.bind f=.ok b j):∃a i,r=.ok a i∧f a i=.ok b j:=by
 cases r with
 |ok a i=>exact⟨a,i,rfl,h⟩
 |no c p=>cases h
theorem zC{α:Type}{b:Bool}{code:Nat}{a a':α}{i j:Nat}(h:ay b code a i=.ok a' j):b=true∧a'=a:=by
 cases b with
 |true=>injection h with h _;exact⟨rfl,h.symm⟩
 |false=>cases h
theorem xY{ws:List Bs}{i j:Nat}{s:Nat×Nat}(h:jj ws i=.ok s j):s.1≤65535∧s.2≤65535:=by
 obtain⟨x,k,_,hx⟩:=Out.cD h
 obtain⟨hb,rfl⟩:=zC hx
 rw[Bool.and_eq_true]at hb
 exact⟨uF hb.1,uF hb.2⟩
theorem od{ws:List Bs}{i j:Nat}{p:Px}(h:dV ws i=.ok p j):p.n < 2^128 ∧ -9223372036854775808≤p.k∧p.k≤9223372036854775807:=by
 obtain⟨x,k,_,hx⟩:=Out.cD h
 obtain⟨_,rfl⟩:=zC hx
 exact PK x
theorem I8{ws:List Bs}{i j v:Nat}(h:eB ws i=.ok v j):v≤255:=by
 unfold eB at h
 obtain⟨b,k,_,h⟩:=Out.cD h
 cases b with
 |true=>injection h with h _;omega
 |false=>
  obtain⟨b,k,_,h⟩:=Out.cD h
  cases b with
  |true=>injection h with h _;omega
  |false=>exact CX h
def Mt.Good(m:Mt):Prop:=m.Wf∧m.asks < 64
theorem uJ:mF.Good:=⟨⟨by decide,by decide,by decide,by decide,by decide,by decide,by decide,by decide,by decide⟩,by decide⟩
theorem CJ{k:Nat}{m m':Mt}{ws:List Bs}{i j:Nat}(h:bu k m ws i=.ok m' j)(hm:m.Good):m'.Good:=by
 obtain⟨hw,ha⟩:=hm
 rcases k with _|_|_|_|_|k
 ·obtain⟨s,l,hs,h⟩:=Out.cD h
  injection h with h _
  subst h
  exact⟨{ hw with ff:=xY hs },ha⟩
 ·obtain⟨s,l,hs,h⟩:=Out.cD h
  injection h with h _
  subst h
  exact⟨{ hw with sn:=(od hs).1,sk:=(od hs).2 },ha⟩
 ·obtain⟨s,l,hs,h⟩:=Out.cD h
  injection h with h _
  subst h
  exact⟨{ hw with dn:=(od hs).1,dk:=(od hs).2 },ha⟩
 ·obtain⟨s,l,hs,h⟩:=Out.cD h
  injection h with h _
  subst h
  exact⟨{ hw with pr:=I8 hs },ha⟩
 ·obtain⟨s,l,hs,h⟩:=Out.cD h
  injection h with h _
  subst h
  exact⟨{ hw with sp:=xY hs },ha⟩
 ·obtain⟨s,l,hs,h⟩:=Out.cD h
  injection h with h _
  subst h
  exact⟨{ hw with dp:=xY hs },ha⟩
theorem vD{ws:List Bs}{i:Nat}{m m':Mt}{b:Bool}{j:Nat}(h:bn ws i m=.ok (b,m') j)(hm:m.Good):m'.Good:=by
 unfold bn at h
 split at h
 ·injection h with h _;injection h with _ h;rw[←h];exact hm
 ·split at h
  ·injection h with h _;injection h with _ h;rw[←h];exact hm
  ·rename_i k hk
   split at h
   ·cases h
   ·obtain⟨a,l,hr,h⟩:=Out.cD h
    injection h with h _
    injection h with _ h
    subst h
    have h64:=EA ⟨m.asks,hm.2⟩ ⟨k,Kb hk⟩
    exact CJ hr ⟨{ hm.1 with asks:=by show m.asks|||2^k < 256;exact Nat.lt_trans h64 (by decide) },h64⟩
theorem sf{ws:List Bs}:∀{f i:Nat} {m m':Mt} {j:Nat},eO ws f i m=.ok m' j→m.Good→m'.Good
 | 0,_,_,_,_,h,hm=>by injection h with h _;rw[←h];exact hm
 |f+1,_,_,_,_,h,hm=>by
  obtain⟨⟨b,a⟩,l,hr,h⟩:=Out.cD h
  have hg:=vD hr hm
  cases b with
  |true=>exact sf h hg
  |false=>injection h with h _;rw[←h];exact hm
theorem Db{ws:List Bs}{i:Nat}{m:Mt}{j:Nat}(h:gi ws i=.ok m j):m.Good:=by
 obtain⟨b,l,_,h⟩:=Out.cD h
 cases b with
 |true=>injection h with h _;rw[←h];exact uJ
 |false=>
  obtain⟨⟨b,a⟩,l,hr,h⟩:=Out.cD h
  have hg:=vD hr uJ
  cases b with
  |true=>exact sf h hg
  |false=>
   obtain⟨_,_,_,h⟩:=Out.cD h
   cases h
theorem Nq{w:World}{g:Nat}{A:Option Go.Addr}{n c i:Nat}{ws:List Bs}(h:eJ w g A n c i ws):Calls prog 190 #[(pt g 0)] w (bU g A n c SI (oJ ws i) w):=by
 obtain⟨T,hT⟩:∃T,T=oJ ws i:=⟨_,rfl⟩
 have E1:=cK (gu ws i) hT
 rw[←hT]
 clear hT
 have n4:=fun W (hL:eJ W g A n c i ws)=>qo hL
 generalize gu ws i=r1 at E1 n4
 have E2:=fun(h1:r1.okB=true)=>cK (gi ws r1.pos) (bZ E1 h1)
 have n7:=fun W (hL:eJ W g A n c r1.pos ws)=>JG hL
 have hg:(gi ws r1.pos).okB=true→(gi ws r1.pos).val.Good:=fun hh=>Db (Out.EE hh)
 generalize gi ws r1.pos=r2 at E2 n7 hg
 have E3:=fun h1 (h2:r2.okB=true)=>cK (aV ws r2.pos) ((bZ (E2 h1) h2).trans (Out.bind_assoc (aV ws r2.pos) _ _))
 have n11:=fun W (hL:eJ W g A n c r2.pos ws)=>ns hL
 generalize aV ws r2.pos=r3 at E3 n11
 have n17:=fun(h2:r2.okB=true) W (_:ai [g] w W)=>qm r2.val (hg h2).1 W
 have hck:Value.bool ((if bp r2.val=true then(0:Int)else 190)==0)=.bool (bp r2.val):=by cases bp r2.val<;>rfl
 obtain⟨ar,har⟩:∃ar,decide (r3.val=u6)=ar:=⟨_,rfl⟩
 have E4:=fun h1 h2 (h3:r3.okB=true)=>cK (ay ar 200 () r3.pos) ((bZ (E3 h1 h2) h3).trans (by rw[har];exact Out.bind_assoc (ay ar 200 () r3.pos) _ _))
 have n13:=fun W (hL:eJ W g A n c r3.pos ws)=>iy ar 200 () hL
 generalize ay ar 200 () r3.pos=r4 at E4 n13
 have E5:=fun h1 h2 h3 (h4:r4.okB=true)=>cK (ay (bp r2.val) 190 () r4.pos) (bZ (E4 h1 h2 h3) h4)
 generalize (if bp r2.val=true then(0:Int)else 190)=ck at n17 hck
 generalize bp r2.val=cb at hck E5
 have n19:=fun W (hL:eJ W g A n c r4.pos ws)=>iy cb 190 () hL
 generalize ay cb 190 () r4.pos=r5 at E5 n19
 have E6:=fun h1 h2 h3 h4 (h5:r5.okB=true)=>cK (pI true ws r5.pos) (bZ (E5 h1 h2 h3 h4) h5)
 have n22:=fun W (hL:eJ W g A n c r5.pos ws)=>xq true hL
 generalize pI true ws r5.pos=r6 at E6 n22
 have E7:=fun h1 h2 h3 h4 h5 (h6:r6.okB=true)=>cK (o7 bK ws r6.pos) (bZ (E6 h1 h2 h3 h4 h5) h6)
 have opt:∀(k:Bs) (j:Nat),∃b p,dL ws j k=.ok b p∧(b=true→o7 k ws j=gu ws p)∧(b=false→o7 k ws j=.ok [] p):=fun k j=>by
  rcases iA (ws:=ws) (i:=j) (s:=k)with⟨t,_⟩ | t
  ·exact⟨true,j+1,t,fun _=>by unfold o7;rw[t];rfl,fun h=>by cases h⟩
  ·exact⟨false,j,t,fun h=>(by cases h),fun _=>by unfold o7;rw[t];rfl⟩
 obtain⟨bm,p7,t7,u7,v7⟩:=opt bK r6.pos
 generalize o7 bK ws r6.pos=r8 at E7 u7 v7
 have n30:bm=true→TN 188 g A n c p7 ws ab r8:=fun e W hL=>by rw[u7 e];exact qo hL
 have E9:=fun h1 h2 h3 h4 h5 h6 (h8:r8.okB=true)=>cK (o7 bh ws r8.pos) (bZ (E7 h1 h2 h3 h4 h5 h6) h8)
 obtain⟨bi,p9,t9,u9,v9⟩:=opt bh r8.pos
 generalize o7 bh ws r8.pos=r10 at E9 u9 v9
 have n35:bi=true→TN 188 g A n c p9 ws ab r10:=fun e W hL=>by rw[u9 e];exact qo hL
 have q:∀(u:Rl) {j:Nat} {α:Type} [Inhabited α] {f:Nat} {V:α→Value} {r:Out α} (rest:List Value),j≤n→TM r T→(∀W,eJ W g A n c j ws→Calls prog f ((pt g 0)::rest).toArray W (bU g A n c V r W))→_:=fun u j α _ f V r rest hj hno hn=>l9 (T:=T) [Rm u] rest h hj hno hn
 have CH:=And.intro (q TF [] h.le (cj E1) n4) fun(x1:RP r1 n)=>And.intro (q ⟨r1.val,mF,0,0,[],[]⟩ [] x1.2 (cj (E2 x1.1)) n7) fun(x2:RP r2 n)=>And.intro (q ⟨r1.val,r2.val,0,0,[],[]⟩ [] x2.2 (cj (E3 x1.1 x2.1)) n11) fun(x3:RP r3 n)=>And.intro (fun W=>bJ (.tmp 11) (.const (ab u6)) r3.val u6 ar har W)
  (And.intro (q ⟨r1.val,r2.val,0,0,[],[]⟩ [.bool ar,.int .i64 200] x3.2 (cj (E4 x1.1 x2.1 x3.1)) n13) fun(x4:RP r4 n)=>And.intro (n17 x2.1) (And.intro hck (And.intro (q ⟨r1.val,r2.val,0,0,[],[]⟩ [.bool cb,.int .i64 190] x4.2 (cj (E5 x1.1 x2.1 x3.1 x4.1)) n19) fun(x5:RP r5 n)=>And.intro (q ⟨r1.val,r2.val,0,0,[],[]⟩ [.bool true] x5.2 (cj (E6 x1.1 x2.1 x3.1 x4.1 x5.1)) n22) fun(x6:RP r6 n)=>
   And.intro (q ⟨r1.val,r2.val,r6.val.1,r6.val.2,[],[]⟩ [ab bK] (V:=fun b:Bool=>.bool b) (r:=Out.ok bm p7) x6.2 (fun _ _ hh=>by cases hh) (fun W hL=>t7 ▸ kJ bK hL)) fun(x7:RP (Out.ok bm p7) n)=>
    have K8:=fun(x8:RP r8 n)=>And.intro (q ⟨r1.val,r2.val,r6.val.1,r6.val.2,r8.val,[]⟩ [ab bh] (V:=fun b:Bool=>.bool b) (r:=Out.ok bi p9) x8.2 (fun _ _ hh=>by cases hh) (fun W hL=>t9 ▸ kJ bh hL)) fun(x9:RP (Out.ok bi p9) n)=>
     have K10:=fun(x10:RP r10 n)=>(show zy g A n c SI T (.val (SI ⟨r1.val,r2.val,r6.val.1,r6.val.2,r8.val,r10.val⟩)) [(g,154,dJ A n c r10.pos)]from⟨⟨r1.val,r2.val,r6.val.1,r6.val.2,r8.val,r10.val⟩,r10.pos,bZ (E9 x1.1 x2.1 x3.1 x4.1 x5.1 x6.1 x8.1) x10.1,x10.2,rfl,rfl⟩)
     Hq.mk (b:=bi) (fun e=>And.intro (q ⟨r1.val,r2.val,r6.val.1,r6.val.2,r8.val,[]⟩ [] x9.2 (cj (E9 x1.1 x2.1 x3.1 x4.1 x5.1 x6.1 x8.1)) (n35 e)) K10) fun e=>K10 (by rw[v9 e];exact x9)
    Hq.mk (b:=bm) (fun e=>And.intro (q ⟨r1.val,r2.val,r6.val.1,r6.val.2,[],[]⟩ [] x7.2 (cj (E7 x1.1 x2.1 x3.1 x4.1 x5.1 x6.1)) (n30 e)) K8) fun e=>K8 (by rw[v7 e];exact x7))))
 refine cZ [] h.b9 [(4,.aq (eV 0 g A n c r1 ab)),(7,.aq (eV 0 g A n c r2 j5)),(11,.aq (eV 0 g A n c r3 ab)),(12,.bin (.bool ar)),(13,.aq (eV 0 g A n c r4 (fun _=>.tuple #[]))),(17,.call (.int .i64 ck)),(18,.is (.bool cb)),(19,.aq (eV 0 g A n c r5 (fun _=>.tuple #[]))),(22,.aq (eV 0 g A n c r6 sQ)),(28,.aq (eV 0 g A n c (Out.ok bm p7) (fun b=>.bool b))),(30,.aq (eV 0 g A n c r8 ab)),(33,.aq (eV 0 g A n c (Out.ok bi p9) (fun b=>.bool b))),(35,.aq (eV 0 g A n c r10 ab))] [] (by kernel_rfl) func190 rfl (cn rfl) ?_
 cases bm with
 |true=>
  cases bi with
  |true=>exact Eq.mp (by kernel_rfl) CH
  |false=>
   obtain rfl:=v9 rfl
   exact Eq.mp (by kernel_rfl) CH
 |false=>
  obtain rfl:=v7 rfl
  cases bi with
  |true=>exact Eq.mp (by kernel_rfl) CH
  |false=>
   obtain rfl:=v9 rfl
   exact Eq.mp (by kernel_rfl) CH
open Go.RowKit Go.Lib Go.Sort
structure Sl where
 A:Option Go.Addr
 c:Nat
structure ey where
 p:Sl
 r:Sl
 l:Sl
 m:Sl
 i:Sl
def CF.cp(cf:CF):List Value:=cf.ag.map (.int .i64 ·)
def CF.cr(cf:CF):List Value:=cf.ae.flatMap Rt.cells
def CF.cl(cf:CF):List Value:=cf.rules.flatMap Rl.cells
def CF.cm(cf:CF):List Value:=cf.af.flatMap Me.cells
def CF.ci(cf:CF):List Value:=cf.aa.flatMap Mi.cells
def T0(g gc gd:Nat)(s:ey):List (Option Nat):=[some g,some gc,some gd,s.p.A.map (·.block),s.r.A.map (·.block),s.l.A.map (·.block),s.m.A.map (·.block),s.i.A.map (·.block)]
def A8(g gc gd:Nat)(s:ey):List Nat:=(T0 g gc gd s).filterMap id
structure qS(w:World)(gc:Nat)(cf:CF)(s:ey):Prop where
 b9:au w gc 46 [.slice s.p.A cf.ag.length s.p.c,.slice s.r.A cf.ae.length s.r.c,.slice s.l.A cf.rules.length s.l.c,.slice s.m.A cf.af.length s.m.c,.slice s.i.A cf.aa.length s.i.c,.int .i64 cf.aS]
 p:Own w 3 1 (.slice s.p.A cf.ag.length s.p.c) cf.ag.length cf.cp
 r:Own w 118 19 (.slice s.r.A cf.ae.length s.r.c) cf.ae.length cf.cr
 l:Own w 81 49 (.slice s.l.A cf.rules.length s.l.c) cf.rules.length cf.cl
 m:Own w 122 4 (.slice s.m.A cf.af.length s.m.c) cf.af.length cf.cm
 i:Own w 124 3 (.slice s.i.A cf.aa.length s.i.c) cf.aa.length cf.ci
structure SU(w:World)(g gc gd:Nat)(A:Option Go.Addr)(n c i:Nat)(ws:List Bs)(cf:CF)(d:Nat)(s:ey):Prop where
 sM:qQ w (A8 g gc gd s) g A n c i ws
 at_:qS w gc cf s
 bd:au w gd 3 [.int .i64 (d:Int)]
 nd:(A8 g gc gd s).Nodup
 xG:cf.ag.length≤1000000∧cf.ae.length≤1000000∧cf.rules.length≤1000000∧cf.af.length≤1000000∧cf.aa.length≤1000000
 SP:d≤1000000
def R8(g gc gd:Nat)(A:Option Go.Addr)(n c i:Nat)(cf:CF)(d:Nat):List Sx.Row:=
 [⟨154,.dF g (dJ A n c i)⟩,⟨46,.jR gc [.own 3,.own 4,.own 5,.own 6,.own 7,.val (.int .i64 cf.aS)]⟩,⟨3,.dF gd [.int .i64 (d:Int)]⟩,
  ⟨3,.own 1 cf.ag.length cf.cp⟩,⟨118,.own 19 cf.ae.length cf.cr⟩,⟨81,.own 49 cf.rules.length cf.cl⟩,⟨122,.own 4 cf.af.length cf.cm⟩,⟨124,.own 3 cf.aa.length cf.ci⟩]
def Pn(g gc gd:Nat)(A:Option Go.Addr)(n c:Nat)(T:Out CF)(d:Nat)(l:List Sx.SV)(mem:List Sx.Row):Prop:=
 ∃(cf:CF) (i k0 k1 k2 k3 k4:Nat),T=.ok cf i∧i≤n∧l=[]∧mem[0]?=some ⟨154,.dF g (dJ A n c i)⟩∧mem[1]?=some ⟨46,.jR gc [.own k0,.own k1,.own k2,.own k3,.own k4,.val (.int .i64 cf.aS)]⟩∧mem[2]?=some ⟨3,.dF gd [.int .i64 (d:Int)]⟩∧
 mem[k0]?=some ⟨3,.own 1 cf.ag.length cf.cp⟩∧mem[k1]?=some ⟨118,.own 19 cf.ae.length cf.cr⟩∧mem[k2]?=some ⟨81,.own 49 cf.rules.length cf.cl⟩∧mem[k3]?=some ⟨122,.own 4 cf.af.length cf.cm⟩∧mem[k4]?=some ⟨124,.own 3 cf.aa.length cf.ci⟩
def rO(g gc gd:Nat)(A:Option Go.Addr)(n c:Nat)(T:Out CF)(d:Nat)(S:List Nat)(w:World)(e:Ending)(w':World):Prop:=
 (∃cf i s,T=.ok cf i∧i≤n∧e=.returned (.tuple #[])∧au w' g 154 (dJ A n c i)∧qS w' gc cf s∧au w' gd 3 [.int .i64 (d:Int)]∧(A8 g gc gd s).Nodup∧(∀k∈A8 g gc gd s,k∈S∨w.heap.size≤k)∧ai S w w')∨
 (∃code p chain,T=.no code p∧e=.panicked chain∧Cm code p w chain w'∧ai S w w')
theorem At{mem:List Sx.Row}{β:Sx.Env}(inj:∀(i j:Nat) (r r':Sx.Row) (k:Nat),mem[i]?=some r→mem[j]?=some r'→Sx.av β i r=some k→Sx.av β j r'=some k→i=j) :
  ∀(l:List (Nat×Option Nat)),(l.map (·.1)).Nodup→(∀x∈l,∀k,x.2=some k→∃r,mem[x.1]?=some r∧Sx.av β x.1 r=some k)→((l.map (·.2)).filterMap id).Nodup
 | [],_,_=>by simp
 |x::l,hn,hr=>by
  rw[List.map_cons,List.nodup_cons]at hn
  have ih:=At inj l hn.2 fun y hy=>hr y (List.mem_cons_of_mem _ hy)
  cases hx:x.2 with
  |none=>simpa[hx]using ih
  |some k=>
   have e:((x::l).map (·.2)).filterMap id=k::(l.map (·.2)).filterMap id:=by simp[hx]
   rw[e,List.nodup_cons]
   refine⟨fun hk=>?_,ih⟩
   obtain⟨o,ho,hok⟩:=List.mem_filterMap.1 hk
   obtain⟨y,hy,rfl⟩:=List.mem_map.1 ho
   obtain⟨r,h1,h2⟩:=hr x (by simp) k hx
   obtain⟨r',h3,h4⟩:=hr y (List.mem_cons_of_mem _ hy) k hok
   have:=inj _ _ _ _ _ h1 h3 h2 h4
   exact hn.1 (List.mem_map.2 ⟨y,hy,this.symm⟩)
theorem rO.jh{g gc gd:Nat}{A:Option Go.Addr}{n c:Nat}{T:Out CF}{d:Nat}{S:List Nat}{w:World}{e:Ending}{w':World}(h:Sx.cq ⟨w,S,j2 T w⟩ (Pn g gc gd A n c T d) e w'):rO g gc gd A n c T d S w e w':=by
 rcases h with⟨β,l,mem,⟨cf,i,k0,k1,k2,k3,k4,h1,h2,rfl,m0,m1,m2,q0,q1,q2,q3,q4⟩,he,hR⟩ | ⟨chain,he,⟨code,p,h1,hf⟩,hc⟩
 ·have r0:=hR.held 0 _ m0
  have r1:=hR.held 1 _ m1
  have r2:=hR.held 2 _ m2
  have o0:=hR.held k0 _ q0
  have o1:=hR.held k1 _ q1
  have o2:=hR.held k2 _ q2
  have o3:=hR.held k3 _ q3
  have o4:=hR.held k4 _ q4
  have e0:β 0=g:=r0.1
  have e1:β 1=gc:=r1.1
  have e2:β 2=gd:=r2.1
  have o0:β.n k0=cf.ag.length∧Own w' 3 1 (.slice (β.a k0) cf.ag.length (β.c k0)) cf.ag.length cf.cp:=o0
  have o1:β.n k1=cf.ae.length∧Own w' 118 19 (.slice (β.a k1) cf.ae.length (β.c k1)) cf.ae.length cf.cr:=o1
  have o2:β.n k2=cf.rules.length∧Own w' 81 49 (.slice (β.a k2) cf.rules.length (β.c k2)) cf.rules.length cf.cl:=o2
  have o3:β.n k3=cf.af.length∧Own w' 122 4 (.slice (β.a k3) cf.af.length (β.c k3)) cf.af.length cf.cm:=o3
  have o4:β.n k4=cf.aa.length∧Own w' 124 3 (.slice (β.a k4) cf.aa.length (β.c k4)) cf.aa.length cf.ci:=o4
  have b1:au w' gc 46 [.slice (β.a k0) cf.ag.length (β.c k0),.slice (β.a k1) cf.ae.length (β.c k1),.slice (β.a k2) cf.rules.length (β.c k2),.slice (β.a k3) cf.af.length (β.c k3),.slice (β.a k4) cf.aa.length (β.c k4),.int .i64 cf.aS]:=by
   have:=r1.2
   rw[e1]at this
   have hh:([Sx.SV.own k0,.own k1,.own k2,.own k3,.own k4,.val (.int .i64 cf.aS)].map (Sx.SV.den β))=[β.sl k0,β.sl k1,β.sl k2,β.sl k3,β.sl k4,.int .i64 cf.aS]:=rfl
   rw[hh]at this
   unfold Sx.Env.sl at this
   rw[o0.1,o1.1,o2.1,o3.1,o4.1]at this
   exact this
  have rows:∀x∈[(0,some g),(1,some gc),(2,some gd),(k0,(β.a k0).map (·.block)),(k1,(β.a k1).map (·.block)),(k2,(β.a k2).map (·.block)),(k3,(β.a k3).map (·.block)),(k4,(β.a k4).map (·.block))],∀k,x.2=some k→∃r,mem[x.1]?=some r∧Sx.av β x.1 r=some k:=by
   intro x hx k hk
   simp only[List.mem_cons,List.not_mem_nil,or_false]at hx
   rcases hx with rfl|rfl|rfl|rfl|rfl|rfl|rfl|rfl
   ·exact⟨_,m0,by show some (β 0)=_;rw[e0];exact hk⟩
   ·exact⟨_,m1,by show some (β 1)=_;rw[e1];exact hk⟩
   ·exact⟨_,m2,by show some (β 2)=_;rw[e2];exact hk⟩
   ·exact⟨_,q0,hk⟩
   ·exact⟨_,q1,hk⟩
   ·exact⟨_,q2,hk⟩
   ·exact⟨_,q3,hk⟩
   ·exact⟨_,q4,hk⟩
  have d:∀{a b:Nat} {r r':Sx.Row},mem[a]?=some r→mem[b]?=some r'→r≠r'→a≠b:=fun {a b r r'} ha hb hne he=>by
   subst he
   rw[ha]at hb
   exact hne (Option.some.inj hb)
  have nd:[0,1,2,k0,k1,k2,k3,k4].Nodup:=by
   simp only[List.nodup_cons,List.mem_cons,List.not_mem_nil,or_false,not_or,not_false_eq_true,List.nodup_nil,and_true]
   exact⟨⟨(d m0 m1 (fun h=>by cases h)),(d m0 m2 (fun h=>by cases h)),(d m0 q0 (fun h=>by cases h)),(d m0 q1 (fun h=>by cases h)),(d m0 q2 (fun h=>by cases h)),(d m0 q3 (fun h=>by cases h)),(d m0 q4 (fun h=>by cases h))⟩,⟨(d m1 m2 (fun h=>by cases h)),(d m1 q0 (fun h=>by cases h)),(d m1 q1 (fun h=>by cases h)),(d m1 q2 (fun h=>by cases h)),(d m1 q3 (fun h=>by cases h)),(d m1 q4 (fun h=>by cases h))⟩,⟨(d m2 q0 (fun h=>by cases h)),(d m2 q1 (fun h=>by cases h)),(d m2 q2 (fun h=>by cases h)),(d m2 q3 (fun h=>by cases h)),(d m2 q4 (fun h=>by cases h))⟩,⟨(d q0 q1 (fun h=>by cases h)),(d q0 q2 (fun h=>by cases h)),(d q0 q3 (fun h=>by cases h)),(d q0 q4 (fun h=>by cases h))⟩,⟨(d q1 q2 (fun h=>by cases h)),(d q1 q3 (fun h=>by cases h)),(d q1 q4 (fun h=>by cases h))⟩,⟨(d q2 q3 (fun h=>by cases h)),(d q2 q4 (fun h=>by cases h))⟩,(d q3 q4 (fun h=>by cases h))⟩
  refine .inl ⟨cf,i,⟨⟨β.a k0,β.c k0⟩,⟨β.a k1,β.c k1⟩,⟨β.a k2,β.c k2⟩,⟨β.a k3,β.c k3⟩,⟨β.a k4,β.c k4⟩⟩,h1,h2,he,e0 ▸ r0.2,⟨b1,o0.2,o1.2,o2.2,o3.2,o4.2⟩,e2 ▸ r2.2,?_,fun k hk=>?_,hR.aG⟩
  ·exact At hR.inj [(0,some g),(1,some gc),(2,some gd),(k0,(β.a k0).map (·.block)),(k1,(β.a k1).map (·.block)),(k2,(β.a k2).map (·.block)),(k3,(β.a k3).map (·.block)),(k4,(β.a k4).map (·.block))] nd rows
  ·obtain⟨o,ho,hok⟩:=List.mem_filterMap.1 hk
   have hm:o∈([(0,some g),(1,some gc),(2,some gd),(k0,(β.a k0).map (·.block)),(k1,(β.a k1).map (·.block)),(k2,(β.a k2).map (·.block)),(k3,(β.a k3).map (·.block)),(k4,(β.a k4).map (·.block))]:List (Nat×Option Nat)).map (·.2):=ho
   obtain⟨x,hx,rfl⟩:=List.mem_map.1 hm
   obtain⟨r,hr,hb⟩:=rows x hx k hok
   exact hR.new x.1 r k hr hb
 ·exact .inr ⟨code,p,chain,h1,he,hf,hc⟩
def Tn(g gc gd:Nat)(A:Option Go.Addr)(n c i:Nat)(cf:CF)(d:Nat)(s:ey):List Sx.kF:=
 [.b9 g 154 (dJ A n c i),.nM gc 46 [.own 3,.own 4,.own 5,.own 6,.own 7,.val (.int .i64 cf.aS)],.b9 gd 3 [.int .i64 (d:Int)],
  .own 3 1 s.p.A cf.ag.length s.p.c cf.cp,.own 118 19 s.r.A cf.ae.length s.r.c cf.cr,.own 81 49 s.l.A cf.rules.length s.l.c cf.cl,.own 122 4 s.m.A cf.af.length s.m.c cf.cm,.own 124 3 s.i.A cf.aa.length s.i.c cf.ci]
theorem mh{P:Program}{w:World}{f:FuncId}{fn:Func}{co:Code}{g gc gd:Nat}{A:Option Go.Addr}{n c i:Nat}{ws:List Bs}{cf:CF}{d d':Nat}{s:ey}{T:Out CF}(h:SU w g gc gd A n c i ws cf d s)(H:List (Nat×Sx.Hint))(L:List Sx.Loop)
  (hm:P.follows .mixedOrders=true) (hf:P.funcs[f]?=some fn) (hbd:fn.body=some co) (hn:3≤fn.ntmps)
  (hx:Sx.jU P fn.ntmps ⟨w,A8 g gc gd s,j2 T w⟩ co H L ⟨Sx.mz 0 [.ptr 0 0,.ptr 1 0,.ptr 2 0],R8 g gc gd A n c i cf d⟩ (Sx.bY P fn (Pn g gc gd A n c T d'))) :
  Calls P f #[.pointer (some ⟨g,0,none⟩),.pointer (some ⟨gc,0,none⟩),.pointer (some ⟨gd,0,none⟩)] w (rO g gc gd A n c T d' (A8 g gc gd s) w):=by
 have hF:=Sx.gP (w:=w) (S:=A8 g gc gd s) (PP:=j2 T w) (G:=Tn g gc gd A n c i cf d s) (fun q hq=>by
  simp only[Tn,List.mem_cons,List.not_mem_nil,or_false]at hq
  rcases hq with rfl|rfl|rfl|rfl|rfl|rfl|rfl|rfl
  ·exact h.sM.b9
  ·exact h.at_.b9
  ·exact h.bd
  ·exact h.at_.p
  ·exact h.at_.r
  ·exact h.at_.l
  ·exact h.at_.m
  ·exact h.at_.i) (fun q hq k hk=>by
  have:A8 g gc gd s=(Tn g gc gd A n c i cf d s).filterMap Sx.kF.block:=rfl
  rw[this]
  exact List.mem_filterMap.2 ⟨q,hq,hk⟩) h.nd
 exact(Sx.aZ (args:=[.ptr 0 0,.ptr 1 0,.ptr 2 0]) hF H L hm hf hbd hn rfl hx).mono fun _ _=>rO.jh
end Go.Proofs.YtnncigmpcdehnaaGreatDoor
