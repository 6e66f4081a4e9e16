import Derived.Test.YtnncigmpcdehnaaGreatDoorQf49
import Derived.Test.YtnncigmpcdehnaaGreatDoorCards
import Derived.Test.YtnncigmpcdehnaaGreatDoorTie
import Derived.ProofKit
import Derived.Deep.DeepHandedRow
import Derived.Carry
namespace Go.Proofs.YtnncigmpcdehnaaGreatDoor
set_option maxRecDepth 100000
open Go.ChangeShapes Go.WideShapes Go.ChangeAt Go.RowKit _root_.Go.Proofs.Tryz
set_option maxRecDepth 100000
open Go.ChangeMaps (open_string shut_string)
theorem Te:ownKnob prog.godebug=none:=by kernel_rfl
theorem JP:laidOutB prog=true:=by kernel_rfl
theorem oH(H:Type)(enc:TypeId×Value→H)(W:World)(base:Nat)(args:Array Value)(ds gs:List (DataW H))(before:List MemPlace)
  (hval:∀(j:Nat) t v,f6.params[j]?=some t→args[j]?=some v→Value.okWide prog W .any base t v)
  (hW:DataW.Whole enc prog f6.params.toList Rows.langPrintsSpec.vars false W args.toList ds gs before) (hL:laidMetH prog EV W) (hS:W.ShapedOpen prog) (hk:Rows.uptoSmall H (ds++gs)=true) :
  Calls prog 6 args W fun e W'=>∃v,e=.returned v∧Rows.langPrintsSpec.post enc prog f6 false true false false W args v W':=by
 have hW':=hW
 have HL:=NC hL hS
 obtain⟨p,q,hA0,hV,rfl,hfz,hnd⟩:=hW
 have hA:DataW.TrodAll enc prog W 0 (fun _=>true) true f6.params.toList args.toList ds p:=hA0
 rw[params6]at hA hval
 obtain⟨v0,vs0,d0,ds0,p0,q0,hargs0,rfl,rfl,h0,r0⟩:=trodAll_cons hA
 obtain⟨rfl,rfl,rfl⟩:=trodAll_nil r0
 obtain rfl:args=#[v0]:=by cases args;simp_all
 obtain⟨rfl,rfl⟩:=trodVars_none hV
 have k0:=h0
 have lt0:∀x∈p0,x.block < W.heap.size:=by obtain⟨m,hm⟩:=k0;exact DataW.trod_lt m _ _ _ hm
 obtain⟨Fq,s0,rfl,hr0,hw0,hm0,hn0⟩:=Nf (hval 0 46 v0 rfl rfl) h0
 have hz0:Rows.uptoBulk d0≤1048576:=by
  have h0:=of_decide_eq_true hk
  simp only[List.cons_append,List.nil_append,Rows.uptoBulkAll]at h0
  omega
 clear hA0
 refine(Gu Fq s0 W HL hr0 hw0 hm0 hn0 hz0).mono fun e W' ⟨he,hC⟩=>?_
 subst he
 have bel:Below W.heap.size W W':=hC.below (by simp) (Nat.le_refl _)
 exact⟨_,rfl,_,_,_,[],_,[],hW',trodAll_mk1 (shut_bool underlying4 _),(trodAll_cons_mk (Below.trod JP (by kernel_rfl) (of_decide_eq_true (by kernel_rfl)) k0 bel lt0) trodAll_mk0),rfl,bel.frame _,fun h=>by cases h⟩
theorem rA(os:Os){H:Type}(enc:TypeId×Value→H):∃places,DataW.whole enc prog ((ow os).forCall (fun _ _=>0) ⟨#[],#[.agg #[.slice none 0 0,.slice none 0 0,.slice none 0 0,.slice none 0 0,.slice none 0 0,.int .i64 0]],[]⟩).memory f6.params.toList Rows.langPrintsSpec.vars false (#[.agg #[.slice none 0 0,.slice none 0 0,.slice none 0 0,.slice none 0 0,.slice none 0 0,.int .i64 0]]:Array Value).toList 8=some ([.agg [.nil,.nil,.nil,.nil,.nil,.lit (.int .i64 0)]],[],places):=
 ⟨[],by kernel_rfl⟩
theorem qq(os:Os)(started:os.Started)(H:Type)(enc:TypeId×Value→H)(F:Stop.Interp) :
  ReturnsInHanded {} checked os 6 .any ((Rows.OpenSpec.upto Rows.langPrintsSpec).preRow enc prog f6 Rows.langPrintsUptoRow.domain false Rows.langPrintsUptoRow.laid) (((Rows.OpenSpec.upto Rows.langPrintsSpec).at F).post enc prog f6 false true false false):=by
 obtain⟨places,hx⟩:=rA os enc
 refine returnsInHanded_of_row (C:=checked) (s:=Rows.OpenSpec.upto Rows.langPrintsSpec) Te started (by kernel_rfl) func6
  (witness_row_at (enc:=enc) (C:=checked) false (ow os) #[.agg #[.slice none 0 0,.slice none 0 0,.slice none 0 0,.slice none 0 0,.slice none 0 0,.int .i64 0]] rfl (by kernel_rfl) (by kernel_rfl) (by kernel_rfl)
   (OpenSpec.preRow_of_cond 8 hx (by kernel_rfl) (fun k hk=>by cases hk;kernel_rfl) (by kernel_rfl) (JO os _))) ?_
 intro W base args ds gs before hval hW _ hcond _ hL hS _
 exact oH H enc W base args ds gs before hval hW hL hS (hcond _ rfl)
def yK:List FuncId:=[6,27,28,69,71,142,195,196,197,175,234,235,198,199,236,237,246,247,70,87,145,194,233,200,238,141,77,72,50,107,108,53,109,110,165,160,111,112,73,143,33,74,31,83,144,84,85,86,75,76,29,78,80,79,52,59,101,51,120,47,102,103,104,34,81,88,146,147,201,203,202,148,89,149,150,151,82,30,25,26,67,22,62,125,182,229,230,245,183,231,99,161,212,239,213,214,215,240,64,130,92,90,131,154,94,186,189,232,106,163,216,217,164,218,241,219,220,242,221,191,187,16,48,105,14,42,96,49,97,159,98,43,44,188,190,93,152,153,204,205,206,207,208,209,210,211,192,63,126,127,128,129,139,184,185,68,24,66,140]
theorem jP:prog.closure 6=yK:=by kernel_rfl
theorem nA:prog.unfollowed 6=true:=by unfold Program.unfollowed;rw[jP];kernel_rfl
theorem u4:prog.inPlace 6=Rows.langPrintsUptoRow.inPlace:=by unfold Program.inPlace;rw[jP];kernel_rfl
theorem uZ:prog.varsNamed 6=Rows.langPrintsUptoRow.named:=by unfold Program.varsNamed;rw[jP];kernel_rfl
theorem uY:prog.recurses 6=true:=by unfold Program.recurses;rw[nA];rfl
theorem qt:joinedFacts prog 6 f6 (Rows.OpenSpec.upto Rows.langPrintsSpec).bare Rows.langPrintsUptoRow=true:=by
 unfold joinedFacts
 rw[nA,u4,uZ,uY]
 kernel_rfl
theorem sN:Rows.LangPrintsUptoSaid:=
 OpenClaim.holds_of_cond 6 f6 rfl rfl rfl rfl rfl rfl rfl ⟨rfl,rfl,rfl,rfl,rfl⟩ rfl rfl rfl rfl rfl (by kernel_rfl) func6 qt
  (of_decide_eq_true (by kernel_rfl)) (by unfold Func.isWrapper;first | (rw[if_pos (by decide+kernel)];kernel_rfl) | (rw[if_neg (by decide+kernel)];exact⟨rfl,rfl⟩))
  (fun os started H enc _ F=>by rw[OpenClaim.pre_eq_preRow];exact qq os started H enc F)
theorem rB(f:FuncId)(fn:Func)(hf:Tryz.pinned.checked.prog.funcNamed "patchbay/patchbaylaw20.LangPrints"=some f)(hfn:Tryz.pinned.checked.prog.funcs[f]?=some fn) :
  true=Tryz.pinned.checked.prog.looks []∧∀(j:Nat) t,fn.params[j]?=some t→Tryz.pinned.checked.prog.wantsStandIn t=false:=by
 obtain rfl:f=6:=Option.some.inj ((show prog.funcNamed "patchbay/patchbaylaw20.LangPrints"=some 6 by kernel_rfl).symm.trans hf) |>.symm
 obtain rfl:fn=f6:=(Option.some.inj (func6.symm.trans hfn)).symm
 refine⟨by kernel_rfl,fun j t ht=>?_⟩
 rw[params6]at ht
 obtain rfl:t=46:=by simpa using Array.mem_of_getElem? ht
 show _=_
 kernel_rfl
theorem LangPrints_holds:Rows.LangPrintsUptoCardSaid:=
 Claim7.holds_tied_plain_at .later [] _ _ _ _ sN (fun _ h=>by cases h) (by kernel_rfl) (fun _ h=>by cases h) langPrintsUpto_row_tie rfl ⟨rfl,rfl⟩ (by kernel_rfl) rfl rB (by kernel_rfl)
end Go.Proofs.YtnncigmpcdehnaaGreatDoor
