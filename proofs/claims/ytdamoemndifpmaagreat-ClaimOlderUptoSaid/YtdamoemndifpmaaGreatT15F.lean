/-
  What the row of claimOlder says of the program. No condition.
-/
import Derived.JoinedCond
import Derived.Test.YtdamoemndifpmaaGreatChecked
import Derived.Test.YtdamoemndifpmaaGreatRows
import Derived.KernelRfl
set_option maxRecDepth 100000
namespace Go.Proofs.YtdamoemndifpmaaGreat.claimOlder
open Go
theorem named:Tryz.pinned.checked.prog.funcNamed Rows.claimOlderUptoRow.func=some 15:=by kernel_rfl
theorem a1:(Rows.claimOlderUptoRow.inPlace==Tryz.pinned.checked.prog.inPlace 15)=true:=by kernel_rfl
theorem a2:(Rows.claimOlderUptoRow.unfollowed==Tryz.pinned.checked.prog.unfollowed 15)=true:=by kernel_rfl
theorem a3:(Rows.claimOlderUptoRow.recurses==Tryz.pinned.checked.prog.recurses 15)=true:=by kernel_rfl
theorem a4:(Rows.claimOlderUptoRow.named==Tryz.pinned.checked.prog.varsNamed 15)=true:=by kernel_rfl
theorem facts:joinedFacts Tryz.pinned.checked.prog 15 Tryz.f15 (Rows.OpenSpec.upto Rows.claimOlderSpec).bare Rows.claimOlderUptoRow=true:=by
 unfold joinedFacts
 rw[a1,a2,a3,a4];kernel_rfl
end Go.Proofs.YtdamoemndifpmaaGreat.claimOlder
