import Derived.Test.YtnncigmpcdehnaaGreatDoorQd49
import Derived.Test.YtnncigmpcdehnaaGreatDoorCards
import Derived.Test.YtnncigmpcdehnaaGreatDoorTie
import Derived.ProofKit
import Derived.Deep.DeepHandedRow
import Derived.Carry
namespace Go.Proofs.YtnncigmpcdehnaaGreatDoor
set_option maxRecDepth 100000
open Go.ChangeShapes Go.WideShapes Go.ChangeAt Go.RowKit
open Go.ChangeMaps (open_string shut_string)
theorem Pp:ownKnob Tryz.prog.godebug=none:=by kernel_rfl
theorem GU:laidOutB Tryz.prog=true:=by kernel_rfl
theorem jX(H:Type)(enc:TypeId×Value→H)(W:World)(base:Nat)(args:Array Value)(ds gs:List (DataW H))(before:List MemPlace)
  (hval:∀(j:Nat) t v,Tryz.f7.params[j]?=some t→args[j]?=some v→Value.okWide Tryz.prog W .any base t v)
  (hW:DataW.Whole enc Tryz.prog Tryz.f7.params.toList Rows.langPrintsMatchSpec.vars false W args.toList ds gs before) (hL:laidMetH Tryz.prog CJ W) (hS:W.ShapedOpen Tryz.prog) (hk:Rows.uptoSmall H (ds++gs)=true) :
  Calls Tryz.prog 7 args W fun e W'=>∃v,e=.returned v∧Rows.langPrintsMatchSpec.post enc Tryz.prog Tryz.f7 false true false false W args v W':=by
 have hW':=hW
 have HL:=Kn hL hS
 obtain⟨p,q,hA0,hV,rfl,hfz,hnd⟩:=hW
 have hA:DataW.TrodAll enc Tryz.prog W 0 (fun _=>true) true Tryz.f7.params.toList args.toList ds p:=hA0
 rw[Tryz.params7]at hA hval
 obtain⟨v0,vs0,d0,ds0,p0,q0,hargs0,rfl,rfl,h0,r0⟩:=trodAll_cons hA
 obtain⟨rfl,rfl,rfl⟩:=trodAll_nil r0
 obtain rfl:args=#[v0]:=by cases args;simp_all
 obtain⟨rfl,rfl⟩:=trodVars_none hV
 have k0:=h0
 have lt0:∀x∈p0,x.block < W.heap.size:=by obtain⟨m,hm⟩:=k0;exact DataW.trod_lt m _ _ _ hm
 obtain⟨m0,hm0,rfl⟩:=J1 (hval 0 66 v0 rfl rfl) h0
 clear hA0
 refine(Gd m0 W HL hm0).mono fun e W' ⟨he,hC⟩=>?_
 subst he
 have bel:Below W.heap.size W W':=hC.below (by simp) (Nat.le_refl _)
 exact⟨_,rfl,_,_,_,[],_,[],hW',trodAll_mk1 (shut_bool Tryz.underlying4 _),(trodAll_cons_mk (Below.trod GU (by kernel_rfl) (of_decide_eq_true (by kernel_rfl)) k0 bel lt0) trodAll_mk0),rfl,bel.frame _,fun h=>by cases h⟩
theorem lD(os:Os){H:Type}(enc:TypeId×Value→H):∃places,DataW.whole enc Tryz.prog ((nh os).forCall (fun _ _=>0) ⟨#[],#[gY lz],[]⟩).memory Tryz.f7.params.toList Rows.langPrintsMatchSpec.vars false (#[gY lz]:Array Value).toList 8=some ([.agg [.lit (.int .u8 0),.agg [.lit (.int .u16 0),.lit (.int .u16 0)],.agg [.agg [.lit (.bool false),.agg [.lit (.int .u8 0),.lit (.int .u8 0),.lit (.int .u8 0),.lit (.int .u8 0),.lit (.int .u8 0),.lit (.int .u8 0),.lit (.int .u8 0),.lit (.int .u8 0),.lit (.int .u8 0),.lit (.int .u8 0),.lit (.int .u8 0),.lit (.int .u8 0),.lit (.int .u8 0),.lit (.int .u8 0),.lit (.int .u8 0),.lit (.int .u8 0)]],.lit (.int .i64 0)],.agg [.agg [.lit (.bool false),.agg [.lit (.int .u8 0),.lit (.int .u8 0),.lit (.int .u8 0),.lit (.int .u8 0),.lit (.int .u8 0),.lit (.int .u8 0),.lit (.int .u8 0),.lit (.int .u8 0),.lit (.int .u8 0),.lit (.int .u8 0),.lit (.int .u8 0),.lit (.int .u8 0),.lit (.int .u8 0),.lit (.int .u8 0),.lit (.int .u8 0),.lit (.int .u8 0)]],.lit (.int .i64 0)],.lit (.int .u8 0),.agg [.lit (.int .u16 0),.lit (.int .u16 0)],.agg [.lit (.int .u16 0),.lit (.int .u16 0)]]],[],places):=
 ⟨[],by kernel_rfl⟩
theorem kV(os:Os)(started:os.Started)(H:Type)(enc:TypeId×Value→H)(F:Stop.Interp) :
  ReturnsInHanded {} Tryz.checked os 7 .any ((Rows.OpenSpec.upto Rows.langPrintsMatchSpec).preRow enc Tryz.prog Tryz.f7 Rows.langPrintsMatchUptoRow.domain false Rows.langPrintsMatchUptoRow.laid) (((Rows.OpenSpec.upto Rows.langPrintsMatchSpec).at F).post enc Tryz.prog Tryz.f7 false true false false):=by
 obtain⟨places,hx⟩:=lD os enc
 refine returnsInHanded_of_row (C:=Tryz.checked) (s:=Rows.OpenSpec.upto Rows.langPrintsMatchSpec) Pp started (by kernel_rfl) Tryz.func7
  (witness_row_at (enc:=enc) (C:=Tryz.checked) false (nh os) #[gY lz] rfl (by kernel_rfl) (by kernel_rfl) (by kernel_rfl)
   (OpenSpec.preRow_of_cond 8 hx (by kernel_rfl) (fun k hk=>by cases hk;kernel_rfl) (by kernel_rfl) (GS os _))) ?_
 intro W base args ds gs before hval hW _ hcond _ hL hS _
 exact jX H enc W base args ds gs before hval hW hL hS (hcond _ rfl)
def pg:List FuncId:=[7,31,83,144,50,107,108,84,72,53,109,110,165,160,111,112,73,143,196,197,175,234,235,198,199,236,237,246,247,87,145,194,233,200,238,141,77,71,142,195,85,86,32,88,146,147,201,203,202,148,89,52,59,101,51,120,47,102,103,104,149,80,150,151,26,67,28,69,70,33,74,75,76,22,62,125,182,229,230,245,183,231,99,161,212,239,213,214,215,240,64,130,92,90,131,154,94,186,189,232,106,163,216,217,164,218,241,219,220,242,221,191,187,16,48,105,14,42,96,49,97,159,98,43,44,188,190,93,152,153,204,205,206,207,208,209,210,211,192,63,126,127,128,129,139,184,185,68,24,66,140,25]
theorem fx:Tryz.prog.closure 7=pg:=by kernel_rfl
theorem iH:Tryz.prog.unfollowed 7=true:=by unfold Program.unfollowed;rw[fx];kernel_rfl
theorem nD:Tryz.prog.inPlace 7=Rows.langPrintsMatchUptoRow.inPlace:=by unfold Program.inPlace;rw[fx];kernel_rfl
theorem nC:Tryz.prog.varsNamed 7=Rows.langPrintsMatchUptoRow.named:=by unfold Program.varsNamed;rw[fx];kernel_rfl
theorem nB:Tryz.prog.recurses 7=true:=by unfold Program.recurses;rw[iH];rfl
theorem kW:joinedFacts Tryz.prog 7 Tryz.f7 (Rows.OpenSpec.upto Rows.langPrintsMatchSpec).bare Rows.langPrintsMatchUptoRow=true:=by
 unfold joinedFacts
 rw[iH,nD,nC,nB]
 kernel_rfl
theorem mh:Rows.LangPrintsMatchUptoSaid:=
 OpenClaim.holds_of_cond 7 Tryz.f7 rfl rfl rfl rfl rfl rfl rfl ⟨rfl,rfl,rfl,rfl,rfl⟩ rfl rfl rfl rfl rfl (by kernel_rfl) Tryz.func7 kW
  (of_decide_eq_true (by kernel_rfl)) (by unfold Func.isWrapper;first | (rw[if_pos (by decide+kernel)];kernel_rfl) | (rw[if_neg (by decide+kernel)];exact⟨rfl,rfl⟩))
  (fun os started H enc _ F=>by rw[OpenClaim.pre_eq_preRow];exact kV os started H enc F)
theorem lF(f:FuncId)(fn:Func)(hf:Tryz.pinned.checked.prog.funcNamed "patchbay/patchbaylaw20.LangPrintsMatch"=some f)(hfn:Tryz.pinned.checked.prog.funcs[f]?=some fn) :
  true=Tryz.pinned.checked.prog.looks []∧∀(j:Nat) t,fn.params[j]?=some t→Tryz.pinned.checked.prog.wantsStandIn t=false:=by
 obtain rfl:f=7:=Option.some.inj ((show Tryz.prog.funcNamed "patchbay/patchbaylaw20.LangPrintsMatch"=some 7 by kernel_rfl).symm.trans hf) |>.symm
 obtain rfl:fn=Tryz.f7:=(Option.some.inj (Tryz.func7.symm.trans hfn)).symm
 refine⟨by kernel_rfl,fun j t ht=>?_⟩
 rw[Tryz.params7]at ht
 obtain rfl:t=66:=by simpa using Array.mem_of_getElem? ht
 show _=_
 kernel_rfl
theorem LangPrintsMatch_holds:Rows.LangPrintsMatchUptoCardSaid:=
 Claim7.holds_tied_plain_at .later [] _ _ _ _ mh (fun _ h=>by cases h) (by kernel_rfl) (fun _ h=>by cases h) langPrintsMatchUpto_row_tie rfl ⟨rfl,rfl⟩ (by kernel_rfl) rfl lF (by kernel_rfl)
end Go.Proofs.YtnncigmpcdehnaaGreatDoor
