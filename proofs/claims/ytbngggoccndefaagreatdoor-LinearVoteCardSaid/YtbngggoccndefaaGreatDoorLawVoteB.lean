/-
LinearVote returns true for every input.
-/
import Derived.Test.YtbngggoccndefaaGreatDoorLawVoteA
namespace Go.Proofs.YtbngggoccndefaaGreatDoor.linearVote
open Go.ChangeShapes Go.WideShapes Go.ChangeAt Go.RowKit
open Go.ChangeMaps (open_string shut_string)
set_option linter.unusedVariables false
theorem said:Rows.LinearVoteSaid:=
 OpenClaim.holds_of_cond 8 Tryz.f8 rfl rfl rfl rfl rfl rfl rfl ⟨rfl,rfl,rfl,rfl,rfl⟩ rfl rfl rfl rfl rfl (by kernel_rfl) Tryz.func8 closed
  (of_decide_eq_true (by kernel_rfl)) (by unfold Func.isWrapper;first|(rw[if_pos (by decide+kernel)];kernel_rfl)|(rw[if_neg (by decide+kernel)];exact⟨rfl,rfl⟩))
  (fun os started H enc _ F=>by rw[OpenClaim.pre_eq_preRow];exact lifted os started H enc F)
theorem plain (f:FuncId) (fn:Func) (hf:Tryz.pinned.checked.prog.funcNamed "barscan/barscanlaw15.LinearVote"=some f) (hfn:Tryz.pinned.checked.prog.funcs[f]? =some fn):
 true=Tryz.pinned.checked.prog.looks []∧∀(j:Nat) t,fn.params[j]? =some t→Tryz.pinned.checked.prog.wantsStandIn t=false:=by
 obtain rfl:f=8:=Option.some.inj ((show Tryz.prog.funcNamed "barscan/barscanlaw15.LinearVote"=some 8 by kernel_rfl).symm.trans hf) |>.symm
 obtain rfl:fn=Tryz.f8:=(Option.some.inj (Tryz.func8.symm.trans hfn)).symm
 refine⟨by kernel_rfl,fun j t ht=> ?_⟩
 rw[Tryz.params8]at ht
 obtain rfl:t=53:=by simpa using Array.mem_of_getElem? ht
 exact(show Tryz.prog.wantsStandIn 53=false by kernel_rfl)
theorem k1:Rows.linearVoteRow.wfByText (OpenSpec.ofChange Rows.linearVoteSpec)=true:=by kernel_rfl
end Go.Proofs.YtbngggoccndefaaGreatDoor.linearVote
