/-
  No cell of these rows narrows 'for every input' (looked for: loops, veiled, ifaces, maps, wideKeys, modest, calm, conditions, laid).
  DERIVED. THE GIVEN ROWS OF THIS SEAT. 13 by the template 'for every input the law returns true; each argument reads behind the call as it read before'; 0 by the template 'total and deterministic' (their statements: YtdamoemndifpmaaGreatTotals.lean).
  GIVEN WITH THE SEED: the statements are not yours to turn. If you find one false, say at which input.
  Laid BY PROGRAM, IN A SANDBOX (cutbox-rows.mjs): the forced cells as the released guide's own fill.sh prints them over the translation d0d59b5b622fdc1e… (all of the seat's roots in one cut). By AI agents, Wed Nov 11 2026. No macro, syntax, notation, axiom, sorry.
-/
import Derived.Test.YtdamoemndifpmaaGreatChecked
import GoSem.Claim
import GoSem.ClaimJoined
import GoSem.ClaimMapViews
import Derived.JoinedTies
import Derived.KernelRfl
namespace Go.Proofs.YtdamoemndifpmaaGreat
/- THE CELL 'sum', in the pinned program and in every row, IS THE sha256 OF THE DUMP (.gsa) THAT YtdamoemndifpmaaGreatProg.lean LOADS. Nothing in Lean hashes anything: it is a label: what it is worth is what the hold of that sum in a sandbox is worth. -/
noncomputable def Tryz.pinned : Pinned := { name := "ytdamoemndifpmaagreat", sum := "d0d59b5b622fdc1edcdf196698b6d13199cc6d778c4152301ca1c2f18bcb88cd", checked := Tryz.checked }
namespace Rows
def none {H : Type} : Left H := { results := [], args := [] }

/-- 'ceroplastlaw12.ClaimSets': WHATEVER THE INPUT: true; the input reads as it did. -/
def claimSetsSpec : ChangeSpec := { name := "claimSets", fn := fun _ => fun
  | [d1, d2] => { results := [.lit (.bool true)], args := [d1, d2] }
  | _ => none }
def claimSetsRow : OpenClaim := { program := "ytdamoemndifpmaagreat", sum := "d0d59b5b622fdc1edcdf196698b6d13199cc6d778c4152301ca1c2f18bcb88cd", func := "ceroplast/ceroplastlaw12.ClaimSets", spec := "claimSets", unfollowed := true, recurses := true, plainKeys := false, apart := false }
def ClaimSetsSaid : Prop := claimSetsRow.holds Tryz.pinned (OpenSpec.ofChange claimSetsSpec)

/-- ITS FALSE NEIGHBOUR: 'it returns false'. Refute it at one input. -/
def claimSetsWrong : ChangeSpec := { name := "claimSets", fn := fun _ => fun
  | [d1, d2] => { results := [.lit (.bool false)], args := [d1, d2] }
  | _ => none }
def ClaimSetsWrongFalsely : Prop := claimSetsRow.holds Tryz.pinned (OpenSpec.ofChange claimSetsWrong)

/-- 'ceroplastlaw12.ClaimClashes': WHATEVER THE INPUT: true; the input reads as it did. -/
def claimClashesSpec : ChangeSpec := { name := "claimClashes", fn := fun _ => fun
  | [d1, d2] => { results := [.lit (.bool true)], args := [d1, d2] }
  | _ => none }
def claimClashesRow : OpenClaim := { program := "ytdamoemndifpmaagreat", sum := "d0d59b5b622fdc1edcdf196698b6d13199cc6d778c4152301ca1c2f18bcb88cd", func := "ceroplast/ceroplastlaw12.ClaimClashes", spec := "claimClashes", unfollowed := true, recurses := true, plainKeys := false, apart := false }
def ClaimClashesSaid : Prop := claimClashesRow.holds Tryz.pinned (OpenSpec.ofChange claimClashesSpec)

/-- ITS FALSE NEIGHBOUR: 'it returns false'. Refute it at one input. -/
def claimClashesWrong : ChangeSpec := { name := "claimClashes", fn := fun _ => fun
  | [d1, d2] => { results := [.lit (.bool false)], args := [d1, d2] }
  | _ => none }
def ClaimClashesWrongFalsely : Prop := claimClashesRow.holds Tryz.pinned (OpenSpec.ofChange claimClashesWrong)

/-- 'ceroplastlaw12.ClaimFalls': WHATEVER THE INPUT: true; the input reads as it did. -/
def claimFallsSpec : ChangeSpec := { name := "claimFalls", fn := fun _ => fun
  | [d] => { results := [.lit (.bool true)], args := [d] }
  | _ => none }
def claimFallsRow : OpenClaim := { program := "ytdamoemndifpmaagreat", sum := "d0d59b5b622fdc1edcdf196698b6d13199cc6d778c4152301ca1c2f18bcb88cd", func := "ceroplast/ceroplastlaw12.ClaimFalls", spec := "claimFalls", unfollowed := true, recurses := true, plainKeys := false, apart := false }
def ClaimFallsSaid : Prop := claimFallsRow.holds Tryz.pinned (OpenSpec.ofChange claimFallsSpec)

/-- ITS FALSE NEIGHBOUR: 'it returns false'. Refute it at one input. -/
def claimFallsWrong : ChangeSpec := { name := "claimFalls", fn := fun _ => fun
  | [d] => { results := [.lit (.bool false)], args := [d] }
  | _ => none }
def ClaimFallsWrongFalsely : Prop := claimFallsRow.holds Tryz.pinned (OpenSpec.ofChange claimFallsWrong)

/-- 'ceroplastlaw12.ClaimLooks': WHATEVER THE INPUT: true; the input reads as it did. -/
def claimLooksSpec : ChangeSpec := { name := "claimLooks", fn := fun _ => fun
  | [d1, d2] => { results := [.lit (.bool true)], args := [d1, d2] }
  | _ => none }
def claimLooksRow : OpenClaim := { program := "ytdamoemndifpmaagreat", sum := "d0d59b5b622fdc1edcdf196698b6d13199cc6d778c4152301ca1c2f18bcb88cd", func := "ceroplast/ceroplastlaw12.ClaimLooks", spec := "claimLooks", unfollowed := true, recurses := true, plainKeys := false, apart := false }
def ClaimLooksSaid : Prop := claimLooksRow.holds Tryz.pinned (OpenSpec.ofChange claimLooksSpec)

/-- ITS FALSE NEIGHBOUR: 'it returns false'. Refute it at one input. -/
def claimLooksWrong : ChangeSpec := { name := "claimLooks", fn := fun _ => fun
  | [d1, d2] => { results := [.lit (.bool false)], args := [d1, d2] }
  | _ => none }
def ClaimLooksWrongFalsely : Prop := claimLooksRow.holds Tryz.pinned (OpenSpec.ofChange claimLooksWrong)

/-- 'ceroplastlaw12.ClaimKnown': WHATEVER THE INPUT: true; the input reads as it did. -/
def claimKnownSpec : ChangeSpec := { name := "claimKnown", fn := fun _ => fun
  | [] => { results := [.lit (.bool true)], args := [] }
  | _ => none }
def claimKnownRow : OpenClaim := { program := "ytdamoemndifpmaagreat", sum := "d0d59b5b622fdc1edcdf196698b6d13199cc6d778c4152301ca1c2f18bcb88cd", func := "ceroplast/ceroplastlaw12.ClaimKnown", spec := "claimKnown", unfollowed := true, recurses := true, plainKeys := false, apart := false }
def ClaimKnownSaid : Prop := claimKnownRow.holds Tryz.pinned (OpenSpec.ofChange claimKnownSpec)

/-- ITS FALSE NEIGHBOUR: 'it returns false'. Refute it at one input. -/
def claimKnownWrong : ChangeSpec := { name := "claimKnown", fn := fun _ => fun
  | [] => { results := [.lit (.bool false)], args := [] }
  | _ => none }
def ClaimKnownWrongFalsely : Prop := claimKnownRow.holds Tryz.pinned (OpenSpec.ofChange claimKnownWrong)

/-- 'ceroplastlaw12.ClaimTrue': WHATEVER THE INPUT: true; the input reads as it did. -/
def claimTrueSpec : ChangeSpec := { name := "claimTrue", fn := fun _ => fun
  | [d1, d2] => { results := [.lit (.bool true)], args := [d1, d2] }
  | _ => none }
def claimTrueRow : OpenClaim := { program := "ytdamoemndifpmaagreat", sum := "d0d59b5b622fdc1edcdf196698b6d13199cc6d778c4152301ca1c2f18bcb88cd", func := "ceroplast/ceroplastlaw12.ClaimTrue", spec := "claimTrue", unfollowed := true, recurses := true, plainKeys := false, apart := false }
def ClaimTrueSaid : Prop := claimTrueRow.holds Tryz.pinned (OpenSpec.ofChange claimTrueSpec)

/-- ITS FALSE NEIGHBOUR: 'it returns false'. Refute it at one input. -/
def claimTrueWrong : ChangeSpec := { name := "claimTrue", fn := fun _ => fun
  | [d1, d2] => { results := [.lit (.bool false)], args := [d1, d2] }
  | _ => none }
def ClaimTrueWrongFalsely : Prop := claimTrueRow.holds Tryz.pinned (OpenSpec.ofChange claimTrueWrong)

/-- 'ceroplastlaw12.ClaimFewest': WHATEVER THE INPUT: true; the input reads as it did. -/
def claimFewestSpec : ChangeSpec := { name := "claimFewest", fn := fun _ => fun
  | [d1, d2] => { results := [.lit (.bool true)], args := [d1, d2] }
  | _ => none }
def claimFewestRow : OpenClaim := { program := "ytdamoemndifpmaagreat", sum := "d0d59b5b622fdc1edcdf196698b6d13199cc6d778c4152301ca1c2f18bcb88cd", func := "ceroplast/ceroplastlaw12.ClaimFewest", spec := "claimFewest", unfollowed := true, recurses := true, plainKeys := false, apart := false }
def ClaimFewestSaid : Prop := claimFewestRow.holds Tryz.pinned (OpenSpec.ofChange claimFewestSpec)

/-- ITS FALSE NEIGHBOUR: 'it returns false'. Refute it at one input. -/
def claimFewestWrong : ChangeSpec := { name := "claimFewest", fn := fun _ => fun
  | [d1, d2] => { results := [.lit (.bool false)], args := [d1, d2] }
  | _ => none }
def ClaimFewestWrongFalsely : Prop := claimFewestRow.holds Tryz.pinned (OpenSpec.ofChange claimFewestWrong)

/-- 'ceroplastlaw12.ClaimMost': WHATEVER THE INPUT: true; the input reads as it did. -/
def claimMostSpec : ChangeSpec := { name := "claimMost", fn := fun _ => fun
  | [d1, d2] => { results := [.lit (.bool true)], args := [d1, d2] }
  | _ => none }
def claimMostRow : OpenClaim := { program := "ytdamoemndifpmaagreat", sum := "d0d59b5b622fdc1edcdf196698b6d13199cc6d778c4152301ca1c2f18bcb88cd", func := "ceroplast/ceroplastlaw12.ClaimMost", spec := "claimMost", unfollowed := true, recurses := true, plainKeys := false, apart := false }
def ClaimMostSaid : Prop := claimMostRow.holds Tryz.pinned (OpenSpec.ofChange claimMostSpec)

/-- ITS FALSE NEIGHBOUR: 'it returns false'. Refute it at one input. -/
def claimMostWrong : ChangeSpec := { name := "claimMost", fn := fun _ => fun
  | [d1, d2] => { results := [.lit (.bool false)], args := [d1, d2] }
  | _ => none }
def ClaimMostWrongFalsely : Prop := claimMostRow.holds Tryz.pinned (OpenSpec.ofChange claimMostWrong)

/-- 'ceroplastlaw12.ClaimGrants': WHATEVER THE INPUT: true; the input reads as it did. -/
def claimGrantsSpec : ChangeSpec := { name := "claimGrants", fn := fun _ => fun
  | [d] => { results := [.lit (.bool true)], args := [d] }
  | _ => none }
def claimGrantsRow : OpenClaim := { program := "ytdamoemndifpmaagreat", sum := "d0d59b5b622fdc1edcdf196698b6d13199cc6d778c4152301ca1c2f18bcb88cd", func := "ceroplast/ceroplastlaw12.ClaimGrants", spec := "claimGrants", unfollowed := true, recurses := true, plainKeys := false, apart := false }
def ClaimGrantsSaid : Prop := claimGrantsRow.holds Tryz.pinned (OpenSpec.ofChange claimGrantsSpec)

/-- ITS FALSE NEIGHBOUR: 'it returns false'. Refute it at one input. -/
def claimGrantsWrong : ChangeSpec := { name := "claimGrants", fn := fun _ => fun
  | [d] => { results := [.lit (.bool false)], args := [d] }
  | _ => none }
def ClaimGrantsWrongFalsely : Prop := claimGrantsRow.holds Tryz.pinned (OpenSpec.ofChange claimGrantsWrong)

/-- 'ceroplastlaw12.ClaimFollows': WHATEVER THE INPUT: true; the input reads as it did. -/
def claimFollowsSpec : ChangeSpec := { name := "claimFollows", fn := fun _ => fun
  | [d1, d2] => { results := [.lit (.bool true)], args := [d1, d2] }
  | _ => none }
def claimFollowsRow : OpenClaim := { program := "ytdamoemndifpmaagreat", sum := "d0d59b5b622fdc1edcdf196698b6d13199cc6d778c4152301ca1c2f18bcb88cd", func := "ceroplast/ceroplastlaw12.ClaimFollows", spec := "claimFollows", unfollowed := true, recurses := true, plainKeys := false, apart := false }
def ClaimFollowsSaid : Prop := claimFollowsRow.holds Tryz.pinned (OpenSpec.ofChange claimFollowsSpec)

/-- ITS FALSE NEIGHBOUR: 'it returns false'. Refute it at one input. -/
def claimFollowsWrong : ChangeSpec := { name := "claimFollows", fn := fun _ => fun
  | [d1, d2] => { results := [.lit (.bool false)], args := [d1, d2] }
  | _ => none }
def ClaimFollowsWrongFalsely : Prop := claimFollowsRow.holds Tryz.pinned (OpenSpec.ofChange claimFollowsWrong)

/-- 'ceroplastlaw12.ClaimMore': WHATEVER THE INPUT: true; the input reads as it did. -/
def claimMoreSpec : ChangeSpec := { name := "claimMore", fn := fun _ => fun
  | [d1, d2, d3] => { results := [.lit (.bool true)], args := [d1, d2, d3] }
  | _ => none }
def claimMoreRow : OpenClaim := { program := "ytdamoemndifpmaagreat", sum := "d0d59b5b622fdc1edcdf196698b6d13199cc6d778c4152301ca1c2f18bcb88cd", func := "ceroplast/ceroplastlaw12.ClaimMore", spec := "claimMore", unfollowed := true, recurses := true, plainKeys := false, apart := false }
def ClaimMoreSaid : Prop := claimMoreRow.holds Tryz.pinned (OpenSpec.ofChange claimMoreSpec)

/-- ITS FALSE NEIGHBOUR: 'it returns false'. Refute it at one input. -/
def claimMoreWrong : ChangeSpec := { name := "claimMore", fn := fun _ => fun
  | [d1, d2, d3] => { results := [.lit (.bool false)], args := [d1, d2, d3] }
  | _ => none }
def ClaimMoreWrongFalsely : Prop := claimMoreRow.holds Tryz.pinned (OpenSpec.ofChange claimMoreWrong)

/-- 'ceroplastlaw12.ClaimLooked': WHATEVER THE INPUT: true; the input reads as it did. -/
def claimLookedSpec : ChangeSpec := { name := "claimLooked", fn := fun _ => fun
  | [d1, d2, d3] => { results := [.lit (.bool true)], args := [d1, d2, d3] }
  | _ => none }
def claimLookedRow : OpenClaim := { program := "ytdamoemndifpmaagreat", sum := "d0d59b5b622fdc1edcdf196698b6d13199cc6d778c4152301ca1c2f18bcb88cd", func := "ceroplast/ceroplastlaw12.ClaimLooked", spec := "claimLooked", unfollowed := true, recurses := true, plainKeys := false, apart := false }
def ClaimLookedSaid : Prop := claimLookedRow.holds Tryz.pinned (OpenSpec.ofChange claimLookedSpec)

/-- ITS FALSE NEIGHBOUR: 'it returns false'. Refute it at one input. -/
def claimLookedWrong : ChangeSpec := { name := "claimLooked", fn := fun _ => fun
  | [d1, d2, d3] => { results := [.lit (.bool false)], args := [d1, d2, d3] }
  | _ => none }
def ClaimLookedWrongFalsely : Prop := claimLookedRow.holds Tryz.pinned (OpenSpec.ofChange claimLookedWrong)

/-- 'ceroplastlaw12.ClaimOlder': WHATEVER THE INPUT: true; the input reads as it did. -/
def claimOlderSpec : ChangeSpec := { name := "claimOlder", fn := fun _ => fun
  | [d1, d2] => { results := [.lit (.bool true)], args := [d1, d2] }
  | _ => none }
def claimOlderRow : OpenClaim := { program := "ytdamoemndifpmaagreat", sum := "d0d59b5b622fdc1edcdf196698b6d13199cc6d778c4152301ca1c2f18bcb88cd", func := "ceroplast/ceroplastlaw12.ClaimOlder", spec := "claimOlder", unfollowed := true, recurses := true, plainKeys := false, apart := false }
def ClaimOlderSaid : Prop := claimOlderRow.holds Tryz.pinned (OpenSpec.ofChange claimOlderSpec)

/-- ITS FALSE NEIGHBOUR: 'it returns false'. Refute it at one input. -/
def claimOlderWrong : ChangeSpec := { name := "claimOlder", fn := fun _ => fun
  | [d1, d2] => { results := [.lit (.bool false)], args := [d1, d2] }
  | _ => none }
def ClaimOlderWrongFalsely : Prop := claimOlderRow.holds Tryz.pinned (OpenSpec.ofChange claimOlderWrong)

/- THE SECOND FORM. 'bulk': how many values and letters a reading holds, each counted each time it is reached (what is shared counts as often as it is met; a slice's spare places count too). A statement '..UptoSaid' is the law's where the arguments, and the package variables that the reading takes, are together of bulk at most 1048576: NARROWER than '..Said'. Prove '..Said' where nothing that the law and all that it calls make is longer than what came in: it says more and counts as full. Else prove '..UptoSaid'. A law counts once. -/
mutual
def uptoBulk {H : Type} : DataW H → Nat
  | .lit (.string bytes) => bytes.length + 1
  | .lit _ => 1
  | .nil => 1
  | .ptr d => uptoBulk d + 1
  | .slice elems spare => uptoBulkAll elems + uptoBulkAll spare + 1
  | .agg parts => uptoBulkAll parts + 1
  | .iface _ d => uptoBulk d + 1
  | .map entries => uptoBulkEntries entries + 1
  | .held _ => 1
def uptoBulkAll {H : Type} : List (DataW H) → Nat
  | [] => 0
  | d :: r => uptoBulk d + uptoBulkAll r
def uptoBulkEntries {H : Type} : List (Lit × DataW H) → Nat
  | [] => 0
  | x :: r => uptoBulkEntry x + uptoBulkEntries r
def uptoBulkEntry {H : Type} : Lit × DataW H → Nat
  | (.string bytes, d) => bytes.length + uptoBulk d + 1
  | (_, d) => uptoBulk d + 1
 end
def uptoSmall : (H : Type) → List (DataW H) → Bool := fun _ ds => decide (uptoBulkAll ds ≤ 1048576)
def OpenSpec.upto (s : _root_.Go.ChangeSpec) : _root_.Go.OpenSpec := { _root_.Go.OpenSpec.ofChange s with cond := some uptoSmall }

/-- 'ceroplastlaw12.ClaimSets', WHERE WHAT IT READS IS OF BULK AT MOST 1048576: true; the input reads as it did. -/
def claimSetsUptoRow : OpenClaim := { program := "ytdamoemndifpmaagreat", sum := "d0d59b5b622fdc1edcdf196698b6d13199cc6d778c4152301ca1c2f18bcb88cd", func := "ceroplast/ceroplastlaw12.ClaimSets", spec := "claimSets", unfollowed := true, recurses := true, plainKeys := false, apart := false, narrowed := true }
def ClaimSetsUptoSaid : Prop := claimSetsUptoRow.holds Tryz.pinned (OpenSpec.upto claimSetsSpec)

/-- 'ceroplastlaw12.ClaimClashes', WHERE WHAT IT READS IS OF BULK AT MOST 1048576: true; the input reads as it did. -/
def claimClashesUptoRow : OpenClaim := { program := "ytdamoemndifpmaagreat", sum := "d0d59b5b622fdc1edcdf196698b6d13199cc6d778c4152301ca1c2f18bcb88cd", func := "ceroplast/ceroplastlaw12.ClaimClashes", spec := "claimClashes", unfollowed := true, recurses := true, plainKeys := false, apart := false, narrowed := true }
def ClaimClashesUptoSaid : Prop := claimClashesUptoRow.holds Tryz.pinned (OpenSpec.upto claimClashesSpec)

/-- 'ceroplastlaw12.ClaimFalls', WHERE WHAT IT READS IS OF BULK AT MOST 1048576: true; the input reads as it did. -/
def claimFallsUptoRow : OpenClaim := { program := "ytdamoemndifpmaagreat", sum := "d0d59b5b622fdc1edcdf196698b6d13199cc6d778c4152301ca1c2f18bcb88cd", func := "ceroplast/ceroplastlaw12.ClaimFalls", spec := "claimFalls", unfollowed := true, recurses := true, plainKeys := false, apart := false, narrowed := true }
def ClaimFallsUptoSaid : Prop := claimFallsUptoRow.holds Tryz.pinned (OpenSpec.upto claimFallsSpec)

/-- 'ceroplastlaw12.ClaimLooks', WHERE WHAT IT READS IS OF BULK AT MOST 1048576: true; the input reads as it did. -/
def claimLooksUptoRow : OpenClaim := { program := "ytdamoemndifpmaagreat", sum := "d0d59b5b622fdc1edcdf196698b6d13199cc6d778c4152301ca1c2f18bcb88cd", func := "ceroplast/ceroplastlaw12.ClaimLooks", spec := "claimLooks", unfollowed := true, recurses := true, plainKeys := false, apart := false, narrowed := true }
def ClaimLooksUptoSaid : Prop := claimLooksUptoRow.holds Tryz.pinned (OpenSpec.upto claimLooksSpec)

/-- 'ceroplastlaw12.ClaimKnown', WHERE WHAT IT READS IS OF BULK AT MOST 1048576: true; the input reads as it did. -/
def claimKnownUptoRow : OpenClaim := { program := "ytdamoemndifpmaagreat", sum := "d0d59b5b622fdc1edcdf196698b6d13199cc6d778c4152301ca1c2f18bcb88cd", func := "ceroplast/ceroplastlaw12.ClaimKnown", spec := "claimKnown", unfollowed := true, recurses := true, plainKeys := false, apart := false, narrowed := true }
def ClaimKnownUptoSaid : Prop := claimKnownUptoRow.holds Tryz.pinned (OpenSpec.upto claimKnownSpec)

/-- 'ceroplastlaw12.ClaimTrue', WHERE WHAT IT READS IS OF BULK AT MOST 1048576: true; the input reads as it did. -/
def claimTrueUptoRow : OpenClaim := { program := "ytdamoemndifpmaagreat", sum := "d0d59b5b622fdc1edcdf196698b6d13199cc6d778c4152301ca1c2f18bcb88cd", func := "ceroplast/ceroplastlaw12.ClaimTrue", spec := "claimTrue", unfollowed := true, recurses := true, plainKeys := false, apart := false, narrowed := true }
def ClaimTrueUptoSaid : Prop := claimTrueUptoRow.holds Tryz.pinned (OpenSpec.upto claimTrueSpec)

/-- 'ceroplastlaw12.ClaimFewest', WHERE WHAT IT READS IS OF BULK AT MOST 1048576: true; the input reads as it did. -/
def claimFewestUptoRow : OpenClaim := { program := "ytdamoemndifpmaagreat", sum := "d0d59b5b622fdc1edcdf196698b6d13199cc6d778c4152301ca1c2f18bcb88cd", func := "ceroplast/ceroplastlaw12.ClaimFewest", spec := "claimFewest", unfollowed := true, recurses := true, plainKeys := false, apart := false, narrowed := true }
def ClaimFewestUptoSaid : Prop := claimFewestUptoRow.holds Tryz.pinned (OpenSpec.upto claimFewestSpec)

/-- 'ceroplastlaw12.ClaimMost', WHERE WHAT IT READS IS OF BULK AT MOST 1048576: true; the input reads as it did. -/
def claimMostUptoRow : OpenClaim := { program := "ytdamoemndifpmaagreat", sum := "d0d59b5b622fdc1edcdf196698b6d13199cc6d778c4152301ca1c2f18bcb88cd", func := "ceroplast/ceroplastlaw12.ClaimMost", spec := "claimMost", unfollowed := true, recurses := true, plainKeys := false, apart := false, narrowed := true }
def ClaimMostUptoSaid : Prop := claimMostUptoRow.holds Tryz.pinned (OpenSpec.upto claimMostSpec)

/-- 'ceroplastlaw12.ClaimGrants', WHERE WHAT IT READS IS OF BULK AT MOST 1048576: true; the input reads as it did. -/
def claimGrantsUptoRow : OpenClaim := { program := "ytdamoemndifpmaagreat", sum := "d0d59b5b622fdc1edcdf196698b6d13199cc6d778c4152301ca1c2f18bcb88cd", func := "ceroplast/ceroplastlaw12.ClaimGrants", spec := "claimGrants", unfollowed := true, recurses := true, plainKeys := false, apart := false, narrowed := true }
def ClaimGrantsUptoSaid : Prop := claimGrantsUptoRow.holds Tryz.pinned (OpenSpec.upto claimGrantsSpec)

/-- 'ceroplastlaw12.ClaimFollows', WHERE WHAT IT READS IS OF BULK AT MOST 1048576: true; the input reads as it did. -/
def claimFollowsUptoRow : OpenClaim := { program := "ytdamoemndifpmaagreat", sum := "d0d59b5b622fdc1edcdf196698b6d13199cc6d778c4152301ca1c2f18bcb88cd", func := "ceroplast/ceroplastlaw12.ClaimFollows", spec := "claimFollows", unfollowed := true, recurses := true, plainKeys := false, apart := false, narrowed := true }
def ClaimFollowsUptoSaid : Prop := claimFollowsUptoRow.holds Tryz.pinned (OpenSpec.upto claimFollowsSpec)

/-- 'ceroplastlaw12.ClaimMore', WHERE WHAT IT READS IS OF BULK AT MOST 1048576: true; the input reads as it did. -/
def claimMoreUptoRow : OpenClaim := { program := "ytdamoemndifpmaagreat", sum := "d0d59b5b622fdc1edcdf196698b6d13199cc6d778c4152301ca1c2f18bcb88cd", func := "ceroplast/ceroplastlaw12.ClaimMore", spec := "claimMore", unfollowed := true, recurses := true, plainKeys := false, apart := false, narrowed := true }
def ClaimMoreUptoSaid : Prop := claimMoreUptoRow.holds Tryz.pinned (OpenSpec.upto claimMoreSpec)

/-- 'ceroplastlaw12.ClaimLooked', WHERE WHAT IT READS IS OF BULK AT MOST 1048576: true; the input reads as it did. -/
def claimLookedUptoRow : OpenClaim := { program := "ytdamoemndifpmaagreat", sum := "d0d59b5b622fdc1edcdf196698b6d13199cc6d778c4152301ca1c2f18bcb88cd", func := "ceroplast/ceroplastlaw12.ClaimLooked", spec := "claimLooked", unfollowed := true, recurses := true, plainKeys := false, apart := false, narrowed := true }
def ClaimLookedUptoSaid : Prop := claimLookedUptoRow.holds Tryz.pinned (OpenSpec.upto claimLookedSpec)

/-- 'ceroplastlaw12.ClaimOlder', WHERE WHAT IT READS IS OF BULK AT MOST 1048576: true; the input reads as it did. -/
def claimOlderUptoRow : OpenClaim := { program := "ytdamoemndifpmaagreat", sum := "d0d59b5b622fdc1edcdf196698b6d13199cc6d778c4152301ca1c2f18bcb88cd", func := "ceroplast/ceroplastlaw12.ClaimOlder", spec := "claimOlder", unfollowed := true, recurses := true, plainKeys := false, apart := false, narrowed := true }
def ClaimOlderUptoSaid : Prop := claimOlderUptoRow.holds Tryz.pinned (OpenSpec.upto claimOlderSpec)

end Rows
end Go.Proofs.YtdamoemndifpmaaGreat
