/- LangNaming: true at every text (bulk as stated). No condition beside. -/
import Derived.Test.YtnncigmpcdehnaaGreatDoorQa49
import Derived.Test.YtnncigmpcdehnaaGreatDoorCards
import Derived.Test.YtnncigmpcdehnaaGreatDoorTie
import Derived.ProofKit
import Derived.OpenShut
import Derived.Deep.DeepHandedRow
import Derived.Carry
namespace Go.Proofs.YtnncigmpcdehnaaGreatDoor
set_option maxRecDepth 100000
open Go.ChangeShapes Go.WideShapes Go.ChangeAt Go.RowKit
open Go.ChangeMaps (open_string shut_string)
theorem own_:ownKnob Tryz.prog.godebug=none:=by kernel_rfl
theorem laidOut_:laidOutB Tryz.prog=true:=by kernel_rfl
theorem nm_contract(H:Type)(enc:TypeId×Value→H)(W:World)(base:Nat)(args:Array Value)(ds gs:List (DataW H))(before:List MemPlace)
  (hval:∀(j:Nat) t v,Tryz.f8.params[j]?=some t→args[j]?=some v→Value.okWide Tryz.prog W .any base t v)
  (hW:DataW.Whole enc Tryz.prog Tryz.f8.params.toList Rows.langNamingSpec.vars false W args.toList ds gs before) (hL:laidMetH Tryz.prog laidL W) (hS:W.ShapedOpen Tryz.prog) (hk:Rows.uptoSmall H (ds++gs)=true) :
  Calls Tryz.prog 8 args W fun e W'=>∃v,e=.returned v∧Rows.langNamingSpec.post enc Tryz.prog Tryz.f8 false true false false W args v W':=by
 have hW':=hW
 have HL:=lane_of hL hS
 obtain⟨p,q,hA0,hV,rfl,hfz,hnd⟩:=hW
 have hA:DataW.TrodAll enc Tryz.prog W 0 (fun _=>true) true Tryz.f8.params.toList args.toList ds p:=hA0
 rw[Tryz.params8]at hA hval
 obtain⟨v0,vs0,d0,ds0,p0,q0,hargs0,rfl,rfl,h0,r0⟩:=trodAll_cons hA
 obtain⟨rfl,rfl,rfl⟩:=trodAll_nil r0
 obtain rfl:args=#[v0]:=by cases args;simp_all
 obtain⟨rfl,rfl⟩:=trodVars_none hV
 have k0:=h0
 have lt0:∀x∈p0,x.block < W.heap.size:=by obtain⟨m,hm⟩:=k0;exact DataW.trod_lt m _ _ _ hm
 obtain⟨s0,rfl,rfl,rfl,hs0⟩:=open_string Tryz.underlying9 (hval 0 9 v0 rfl rfl) h0
 clear hA0
 refine(naming_W s0 W HL).mono fun e W' ⟨he,hC⟩=>?_
 subst he
 have bel:Below W.heap.size W W':=hC.below (by simp) (Nat.le_refl _)
 exact⟨_,rfl,_,_,_,[],_,[],hW',trodAll_mk1 (shut_bool Tryz.underlying4 _),(trodAll_cons_mk (Below.trod laidOut_ (by kernel_rfl) (of_decide_eq_true (by kernel_rfl)) k0 bel lt0) trodAll_mk0),rfl,bel.frame _,fun h=>by cases h⟩
theorem nm_reads(os:Os){H:Type}(enc:TypeId×Value→H):∃places,DataW.whole enc Tryz.prog ((laidWorld os).forCall (fun _ _=>0) ⟨#[],#[.string .empty],[]⟩).memory Tryz.f8.params.toList Rows.langNamingSpec.vars false (#[.string .empty]:Array Value).toList 8=some ([.lit (.string [])],[],places):=
 ⟨[],by kernel_rfl⟩
theorem nm_lifted(os:Os)(started:os.Started)(H:Type)(enc:TypeId×Value→H)(F:Stop.Interp) :
  ReturnsInHanded {} Tryz.checked os 8 .any ((Rows.OpenSpec.upto Rows.langNamingSpec).preRow enc Tryz.prog Tryz.f8 Rows.langNamingUptoRow.domain false Rows.langNamingUptoRow.laid) (((Rows.OpenSpec.upto Rows.langNamingSpec).at F).post enc Tryz.prog Tryz.f8 false true false false):=by
 obtain⟨places,hx⟩:=nm_reads os enc
 refine returnsInHanded_of_row (C:=Tryz.checked) (s:=Rows.OpenSpec.upto Rows.langNamingSpec) own_ started (by kernel_rfl) Tryz.func8
  (witness_row_at (enc:=enc) (C:=Tryz.checked) false (laidWorld os) #[.string .empty] rfl (by kernel_rfl) (by kernel_rfl) (by kernel_rfl)
   (OpenSpec.preRow_of_cond 8 hx (by kernel_rfl) (fun k hk=>by cases hk;kernel_rfl) (by kernel_rfl) (laid_met os _))) ?_
 intro W base args ds gs before hval hW _ hcond _ hL hS _
 exact nm_contract H enc W base args ds gs before hval hW hL hS (hcond _ rfl)
def nm_L:List FuncId:=[8,33,34,26,67,28,69,71,142,195,196,197,175,234,235,198,199,236,237,246,247,70,87,145,194,233,200,238,141,77,72,50,107,108,53,109,110,165,160,111,112,73,143,74,31,83,144,84,85,86,75,76,22,62,125,182,229,230,245,183,231,99,161,212,239,213,214,215,240,64,130,92,90,131,154,94,186,189,232,106,163,216,217,164,218,241,219,220,242,221,191,187,16,48,105,14,42,96,49,97,159,98,43,44,188,190,93,152,153,204,205,206,207,208,209,210,211,192,63,126,127,128,129,139,184,185,68,24,66,140,25]
theorem nm_clo:Tryz.prog.closure 8=nm_L:=by kernel_rfl
theorem nm_unf:Tryz.prog.unfollowed 8=true:=by unfold Program.unfollowed;rw[nm_clo];kernel_rfl
theorem nm_inp:Tryz.prog.inPlace 8=Rows.langNamingUptoRow.inPlace:=by unfold Program.inPlace;rw[nm_clo];kernel_rfl
theorem nm_nmd:Tryz.prog.varsNamed 8=Rows.langNamingUptoRow.named:=by unfold Program.varsNamed;rw[nm_clo];kernel_rfl
theorem nm_rec:Tryz.prog.recurses 8=true:=by unfold Program.recurses;rw[nm_unf];rfl
theorem nm_joined:joinedFacts Tryz.prog 8 Tryz.f8 (Rows.OpenSpec.upto Rows.langNamingSpec).bare Rows.langNamingUptoRow=true:=by
 unfold joinedFacts
 rw[nm_unf,nm_inp,nm_nmd,nm_rec]
 kernel_rfl
theorem nm_said:Rows.LangNamingUptoSaid:=
 OpenClaim.holds_of_cond 8 Tryz.f8 rfl rfl rfl rfl rfl rfl rfl ⟨rfl,rfl,rfl,rfl,rfl⟩ rfl rfl rfl rfl rfl (by kernel_rfl) Tryz.func8 nm_joined
  (of_decide_eq_true (by kernel_rfl)) (by unfold Func.isWrapper;first | (rw[if_pos (by decide+kernel)];kernel_rfl) | (rw[if_neg (by decide+kernel)];exact⟨rfl,rfl⟩))
  (fun os started H enc _ F=>by rw[OpenClaim.pre_eq_preRow];exact nm_lifted os started H enc F)
theorem nm_plain(f:FuncId)(fn:Func)(hf:Tryz.pinned.checked.prog.funcNamed "patchbay/patchbaylaw20.LangNaming"=some f)(hfn:Tryz.pinned.checked.prog.funcs[f]?=some fn) :
  true=Tryz.pinned.checked.prog.looks []∧∀(j:Nat) t,fn.params[j]?=some t→Tryz.pinned.checked.prog.wantsStandIn t=false:=by
 obtain rfl:f=8:=Option.some.inj ((show Tryz.prog.funcNamed "patchbay/patchbaylaw20.LangNaming"=some 8 by kernel_rfl).symm.trans hf) |>.symm
 obtain rfl:fn=Tryz.f8:=(Option.some.inj (Tryz.func8.symm.trans hfn)).symm
 refine⟨by kernel_rfl,fun j t ht=>?_⟩
 rw[Tryz.params8]at ht
 obtain rfl:t=9:=by simpa using Array.mem_of_getElem? ht
 show _=_
 kernel_rfl
theorem LangNaming_holds:Rows.LangNamingUptoCardSaid:=
 Claim7.holds_tied_plain_at .later [] _ _ _ _ nm_said (fun _ h=>by cases h) (by kernel_rfl) (fun _ h=>by cases h) langNamingUpto_row_tie rfl ⟨rfl,rfl⟩ (by kernel_rfl) rfl nm_plain (by kernel_rfl)
end Go.Proofs.YtnncigmpcdehnaaGreatDoor
