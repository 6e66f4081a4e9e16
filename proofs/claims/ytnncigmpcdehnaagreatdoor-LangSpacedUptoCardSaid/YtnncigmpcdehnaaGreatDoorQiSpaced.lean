import Derived.Test.YtnncigmpcdehnaaGreatDoorQi13
import Derived.Test.YtnncigmpcdehnaaGreatDoorCards
import Derived.Test.YtnncigmpcdehnaaGreatDoorTie
import Derived.ProofKit
import Derived.Deep.DeepHandedRow
import Derived.Carry
namespace Go.Proofs.YtnncigmpcdehnaaGreatDoor
set_option maxRecDepth 100000
open Go.ChangeShapes Go.WideShapes Go.ChangeAt Go.RowKit _root_.Go.Proofs.Tryz
set_option maxRecDepth 100000
open Go.ChangeMaps (open_string shut_string)
theorem Ut:ownKnob prog.godebug=none:=by kernel_rfl
theorem ug:laidOutB prog=true:=by kernel_rfl
theorem nI(H:Type)(enc:TypeId×Value→H)(W:World)(base:Nat)(args:Array Value)(ds gs:List (DataW H))(before:List MemPlace)
  (hval:∀(j:Nat) t v,f10.params[j]?=some t→args[j]?=some v→Value.okWide prog W .any base t v)
  (hW:DataW.Whole enc prog f10.params.toList Rows.langSpacedSpec.vars false W args.toList ds gs before) (hL:laidMetH prog EK W) (hS:W.ShapedOpen prog) (hk:Rows.uptoSmall H (ds++gs)=true) :
  Calls prog 10 args W fun e W'=>∃v,e=.returned v∧Rows.langSpacedSpec.post enc prog f10 false true false false W args v W':=by
 have hW':=hW;have HL:=Ob hL hS;obtain⟨p,q,hA0,hV,rfl,hfz,hnd⟩:=hW;have hA:DataW.TrodAll enc prog W 0 (fun _=>true) true f10.params.toList args.toList ds p:=hA0;rw[params10]at hA hval;obtain⟨v0,vs0,d0,ds0,p0,q0,hargs0,rfl,rfl,h0,r0⟩:=trodAll_cons hA;obtain⟨v1,vs1,d1,ds1,p1,q1,hargs1,rfl,rfl,h1,r1⟩:=trodAll_cons r0;obtain⟨v2,vs2,d2,ds2,p2,q2,hargs2,rfl,rfl,h2,r2⟩:=trodAll_cons r1;obtain⟨rfl,rfl,rfl⟩:=trodAll_nil r2;obtain rfl:args=#[v0,v1,v2]:=by cases args;simp_all
 obtain⟨rfl,rfl⟩:=trodVars_none hV;have k0:=h0;have lt0:∀x∈p0,x.block < W.heap.size:=by obtain⟨m,hm⟩:=k0;exact DataW.trod_lt m _ _ _ hm
 obtain⟨s0,rfl,rfl,rfl,hs0⟩:=open_string underlying9 (hval 0 9 v0 rfl rfl) h0;have k1:=h1;have lt1:∀x∈p1,x.block < W.heap.size:=by obtain⟨m,hm⟩:=k1;exact DataW.trod_lt m _ _ _ hm
 obtain⟨L1,A1,c1,rfl,hr1⟩:=open_ints (hval 1 40 v1 rfl rfl) h1;have k2:=h2;have lt2:∀x∈p2,x.block < W.heap.size:=by obtain⟨m,hm⟩:=k2;exact DataW.trod_lt m _ _ _ hm
 obtain⟨L2,A2,c2,rfl,hr2⟩:=open_ints (hval 2 40 v2 rfl rfl) h2;have hz0:s0.size≤100000000:=by
  have h0:=of_decide_eq_true hk;simp only[List.cons_append,List.nil_append,Rows.uptoBulkAll,Rows.uptoBulk]at h0;have e:s0.data.toList.length=s0.size:=by rw[Array.length_toList];rfl
  omega
 clear hA0;refine(Gx s0 L1 A1 c1 L2 A2 c2 W HL hz0 hr1 hr2).mono fun e W' ⟨he,hC⟩=>?_;subst he;have bel:Below W.heap.size W W':=hC.below (by simp) (Nat.le_refl _);exact⟨_,rfl,_,_,_,[],_,[],hW',trodAll_mk1 (shut_bool underlying4 _),(trodAll_cons_mk (Below.trod ug (by kernel_rfl) (of_decide_eq_true (by kernel_rfl)) k0 bel lt0) (trodAll_cons_mk (Below.trod ug (by kernel_rfl) (of_decide_eq_true (by kernel_rfl)) k1 bel lt1) (trodAll_cons_mk (Below.trod ug (by kernel_rfl) (of_decide_eq_true (by kernel_rfl)) k2 bel lt2) trodAll_mk0))),rfl,bel.frame _,fun h=>by cases h⟩
theorem qy(os:Os){H:Type}(enc:TypeId×Value→H):∃places,DataW.whole enc prog ((ny os).forCall (fun _ _=>0) ⟨#[],#[.string .empty,.slice none 0 0,.slice none 0 0],[]⟩).memory f10.params.toList Rows.langSpacedSpec.vars false (#[.string .empty,.slice none 0 0,.slice none 0 0]:Array Value).toList 8=some ([.lit (.string []),.nil,.nil],[],places):=
 ⟨[],by kernel_rfl⟩
theorem pD(os:Os)(started:os.Started)(H:Type)(enc:TypeId×Value→H)(F:Stop.Interp) :
  ReturnsInHanded {} checked os 10 .any ((Rows.OpenSpec.upto Rows.langSpacedSpec).preRow enc prog f10 Rows.langSpacedUptoRow.domain false Rows.langSpacedUptoRow.laid) (((Rows.OpenSpec.upto Rows.langSpacedSpec).at F).post enc prog f10 false true false false):=by
 obtain⟨places,hx⟩:=qy os enc
 refine returnsInHanded_of_row (C:=checked) (s:=Rows.OpenSpec.upto Rows.langSpacedSpec) Ut started (by kernel_rfl) func10
  (witness_row_at (enc:=enc) (C:=checked) false (ny os) #[.string .empty,.slice none 0 0,.slice none 0 0] rfl (by kernel_rfl) (by kernel_rfl) (by kernel_rfl)
   (OpenSpec.preRow_of_cond 8 hx (by kernel_rfl) (fun k hk=>by cases hk;kernel_rfl) (by kernel_rfl) (Kk os _))) ?_
 intro W base args ds gs before hval hW _ hcond _ hL hS _;exact nI H enc W base args ds gs before hval hW hL hS (hcond _ rfl)
def yc:List FuncId:=[10,26,67,28,69,71,142,195,196,197,175,234,235,198,199,236,237,246,247,70,87,145,194,233,200,238,141,77,72,50,107,108,53,109,110,165,160,111,112,73,143,33,74,31,83,144,84,85,86,75,76,22,62,125,182,229,230,245,183,231,99,161,212,239,213,214,215,240,64,130,92,90,131,154,94,186,189,232,106,163,216,217,164,218,241,219,220,242,221,191,187,16,48,105,14,42,96,49,97,159,98,43,44,188,190,93,152,153,204,205,206,207,208,209,210,211,192,63,126,127,128,129,139,184,185,68,24,66,140,25,35,36,38,37,39]
theorem iR:prog.closure 10=yc:=by kernel_rfl
theorem mu:prog.unfollowed 10=true:=by unfold Program.unfollowed;rw[iR];kernel_rfl
theorem uf:prog.inPlace 10=Rows.langSpacedUptoRow.inPlace:=by unfold Program.inPlace;rw[iR];kernel_rfl
theorem ue:prog.varsNamed 10=Rows.langSpacedUptoRow.named:=by unfold Program.varsNamed;rw[iR];kernel_rfl
theorem ud:prog.recurses 10=true:=by unfold Program.recurses;rw[mu];rfl
theorem pF:joinedFacts prog 10 f10 (Rows.OpenSpec.upto Rows.langSpacedSpec).bare Rows.langSpacedUptoRow=true:=by
 unfold joinedFacts;rw[mu,uf,ue,ud]
 kernel_rfl
theorem rJ:Rows.LangSpacedUptoSaid:=
 OpenClaim.holds_of_cond 10 f10 rfl rfl rfl rfl rfl rfl rfl ⟨rfl,rfl,rfl,rfl,rfl⟩ rfl rfl rfl rfl rfl (by kernel_rfl) func10 pF
  (of_decide_eq_true (by kernel_rfl)) (by unfold Func.isWrapper;first | (rw[if_pos (by decide+kernel)];kernel_rfl) | (rw[if_neg (by decide+kernel)];exact⟨rfl,rfl⟩))
  (fun os started H enc _ F=>by rw[OpenClaim.pre_eq_preRow];exact pD os started H enc F)
theorem qz(f:FuncId)(fn:Func)(hf:Tryz.pinned.checked.prog.funcNamed "patchbay/patchbaylaw20.LangSpaced"=some f)(hfn:Tryz.pinned.checked.prog.funcs[f]?=some fn) :
  true=Tryz.pinned.checked.prog.looks []∧∀(j:Nat) t,fn.params[j]?=some t→Tryz.pinned.checked.prog.wantsStandIn t=false:=by
 obtain rfl:f=10:=Option.some.inj ((show prog.funcNamed "patchbay/patchbaylaw20.LangSpaced"=some 10 by kernel_rfl).symm.trans hf) |>.symm;obtain rfl:fn=f10:=(Option.some.inj (func10.symm.trans hfn)).symm;refine⟨by kernel_rfl,fun j t ht=>?_⟩;rw[params10]at ht;have hm:=Array.mem_of_getElem? ht;simp only[List.mem_toArray,List.mem_cons,List.not_mem_nil,or_false]at hm;rcases hm with rfl|rfl|rfl;all_goals (show _=_;kernel_rfl)
theorem LangSpaced_holds:Rows.LangSpacedUptoCardSaid:=
 Claim7.holds_tied_plain_at .later [] _ _ _ _ rJ (fun _ h=>by cases h) (by kernel_rfl) (fun _ h=>by cases h) langSpacedUpto_row_tie rfl ⟨rfl,rfl⟩ (by kernel_rfl) rfl qz (by kernel_rfl)
end Go.Proofs.YtnncigmpcdehnaaGreatDoor
