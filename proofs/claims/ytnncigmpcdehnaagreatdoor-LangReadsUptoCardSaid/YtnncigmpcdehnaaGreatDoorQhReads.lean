import Derived.Test.YtnncigmpcdehnaaGreatDoorQh13
import Derived.Test.YtnncigmpcdehnaaGreatDoorCards
import Derived.Test.YtnncigmpcdehnaaGreatDoorTie
import Derived.ProofKit
import Derived.OpenShut
import Derived.Deep.DeepHandedRow
import Derived.Carry
namespace Go.Proofs.YtnncigmpcdehnaaGreatDoor
set_option maxRecDepth 100000
open Go.ChangeShapes Go.WideShapes Go.ChangeAt Go.RowKit _root_.Go.Proofs.Tryz
set_option maxRecDepth 100000
open Go.ChangeMaps (open_string shut_string)
theorem Wy:ownKnob prog.godebug=none:=by kernel_rfl
theorem M3:laidOutB prog=true:=by kernel_rfl
theorem rB(H:Type)(enc:TypeId×Value→H)(W:World)(base:Nat)(args:Array Value)(ds gs:List (DataW H))(before:List MemPlace)
  (hval:∀(j:Nat) t v,f5.params[j]?=some t→args[j]?=some v→Value.okWide prog W .any base t v)
  (hW:DataW.Whole enc prog f5.params.toList Rows.langReadsSpec.vars false W args.toList ds gs before) (hL:laidMetH prog Hx W) (hS:W.ShapedOpen prog) (hk:Rows.uptoSmall H (ds++gs)=true) :
  Calls prog 5 args W fun e W'=>∃v,e=.returned v∧Rows.langReadsSpec.post enc prog f5 false true false false W args v W':=by
 have hW':=hW;have HL:=QJ hL hS;obtain⟨p,q,hA0,hV,rfl,hfz,hnd⟩:=hW;have hA:DataW.TrodAll enc prog W 0 (fun _=>true) true f5.params.toList args.toList ds p:=hA0;rw[params5]at hA hval;obtain⟨v0,vs0,d0,ds0,p0,q0,hargs0,rfl,rfl,h0,r0⟩:=trodAll_cons hA;obtain⟨rfl,rfl,rfl⟩:=trodAll_nil r0;obtain rfl:args=#[v0]:=by cases args;simp_all
 obtain⟨rfl,rfl⟩:=trodVars_none hV;have k0:=h0;have lt0:∀x∈p0,x.block < W.heap.size:=by obtain⟨m,hm⟩:=k0;exact DataW.trod_lt m _ _ _ hm
 obtain⟨s0,rfl,rfl,rfl,hs0⟩:=open_string underlying9 (hval 0 9 v0 rfl rfl) h0;have hz0:s0.size≤100000000:=by
  have h0:=of_decide_eq_true hk;simp only[List.cons_append,List.nil_append,Rows.uptoBulkAll,Rows.uptoBulk]at h0;have e:s0.data.toList.length=s0.size:=by rw[Array.length_toList];rfl
  omega
 clear hA0;refine(MP s0 W HL hz0).mono fun e W' ⟨he,hC⟩=>?_;subst he;have bel:Below W.heap.size W W':=hC.below (by simp) (Nat.le_refl _);exact⟨_,rfl,_,_,_,[],_,[],hW',trodAll_mk1 (shut_bool underlying4 _),(trodAll_cons_mk (Below.trod M3 (by kernel_rfl) (of_decide_eq_true (by kernel_rfl)) k0 bel lt0) trodAll_mk0),rfl,bel.frame _,fun h=>by cases h⟩
theorem u5(os:Os){H:Type}(enc:TypeId×Value→H):∃places,DataW.whole enc prog ((qt os).forCall (fun _ _=>0) ⟨#[],#[.string .empty],[]⟩).memory f5.params.toList Rows.langReadsSpec.vars false (#[.string .empty]:Array Value).toList 8=some ([.lit (.string [])],[],places):=
 ⟨[],by kernel_rfl⟩
theorem tQ(os:Os)(started:os.Started)(H:Type)(enc:TypeId×Value→H)(F:Stop.Interp) :
  ReturnsInHanded {} checked os 5 .any ((Rows.OpenSpec.upto Rows.langReadsSpec).preRow enc prog f5 Rows.langReadsUptoRow.domain false Rows.langReadsUptoRow.laid) (((Rows.OpenSpec.upto Rows.langReadsSpec).at F).post enc prog f5 false true false false):=by
 obtain⟨places,hx⟩:=u5 os enc
 refine returnsInHanded_of_row (C:=checked) (s:=Rows.OpenSpec.upto Rows.langReadsSpec) Wy started (by kernel_rfl) func5
  (witness_row_at (enc:=enc) (C:=checked) false (qt os) #[.string .empty] rfl (by kernel_rfl) (by kernel_rfl) (by kernel_rfl)
   (OpenSpec.preRow_of_cond 8 hx (by kernel_rfl) (fun k hk=>by cases hk;kernel_rfl) (by kernel_rfl) (M1 os _))) ?_
 intro W base args ds gs before hval hW _ hcond _ hL hS _;exact rB H enc W base args ds gs before hval hW hL hS (hcond _ rfl)
def Dk:List FuncId:=[5,22,62,125,182,229,230,245,183,231,99,161,212,239,213,214,215,240,64,130,92,90,131,154,94,186,189,232,106,163,216,217,164,218,241,219,220,71,142,195,196,197,175,234,235,198,199,236,237,246,247,242,221,73,143,191,187,16,48,105,14,42,96,49,97,159,98,160,53,109,107,108,110,165,111,112,87,145,194,233,200,238,141,77,43,44,50,188,33,190,93,152,153,204,205,206,207,208,209,210,211,83,144,192,63,126,127,128,129,139,184,185,23,35,36,65,132,133,193,137,134,17,15,45,46,100,162,47,101,51,102,103,104,52,59,120,135,34,136,95,155,156,151,157,158,88,146,147,201,203,202,148,138,24,66,140,25,26,67,28,69,70,72,74,31,84,85,86,75,76,68]
theorem mh:prog.closure 5=Dk:=by kernel_rfl
theorem qO:prog.unfollowed 5=true:=by unfold Program.unfollowed;rw[mh];kernel_rfl
theorem yJ:prog.inPlace 5=Rows.langReadsUptoRow.inPlace:=by unfold Program.inPlace;rw[mh];kernel_rfl
theorem yI:prog.varsNamed 5=Rows.langReadsUptoRow.named:=by unfold Program.varsNamed;rw[mh];kernel_rfl
theorem yH:prog.recurses 5=true:=by unfold Program.recurses;rw[qO];rfl
theorem tR:joinedFacts prog 5 f5 (Rows.OpenSpec.upto Rows.langReadsSpec).bare Rows.langReadsUptoRow=true:=by
 unfold joinedFacts;rw[qO,yJ,yI,yH]
 kernel_rfl
theorem xv:Rows.LangReadsUptoSaid:=
 OpenClaim.holds_of_cond 5 f5 rfl rfl rfl rfl rfl rfl rfl ⟨rfl,rfl,rfl,rfl,rfl⟩ rfl rfl rfl rfl rfl (by kernel_rfl) func5 tR
  (of_decide_eq_true (by kernel_rfl)) (by unfold Func.isWrapper;first | (rw[if_pos (by decide+kernel)];kernel_rfl) | (rw[if_neg (by decide+kernel)];exact⟨rfl,rfl⟩))
  (fun os started H enc _ F=>by rw[OpenClaim.pre_eq_preRow];exact tQ os started H enc F)
theorem u6(f:FuncId)(fn:Func)(hf:Tryz.pinned.checked.prog.funcNamed "patchbay/patchbaylaw20.LangReads"=some f)(hfn:Tryz.pinned.checked.prog.funcs[f]?=some fn) :
  true=Tryz.pinned.checked.prog.looks []∧∀(j:Nat) t,fn.params[j]?=some t→Tryz.pinned.checked.prog.wantsStandIn t=false:=by
 obtain rfl:f=5:=Option.some.inj ((show prog.funcNamed "patchbay/patchbaylaw20.LangReads"=some 5 by kernel_rfl).symm.trans hf) |>.symm;obtain rfl:fn=f5:=(Option.some.inj (func5.symm.trans hfn)).symm;refine⟨by kernel_rfl,fun j t ht=>?_⟩;rw[params5]at ht;obtain rfl:t=9:=by simpa using Array.mem_of_getElem? ht
 show _=_
 kernel_rfl
theorem LangReads_holds:Rows.LangReadsUptoCardSaid:=
 Claim7.holds_tied_plain_at .later [] _ _ _ _ xv (fun _ h=>by cases h) (by kernel_rfl) (fun _ h=>by cases h) langReadsUpto_row_tie rfl ⟨rfl,rfl⟩ (by kernel_rfl) rfl u6 (by kernel_rfl)
end Go.Proofs.YtnncigmpcdehnaaGreatDoor
