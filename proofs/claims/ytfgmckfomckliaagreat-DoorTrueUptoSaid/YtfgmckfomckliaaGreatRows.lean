/-
  No cell of these rows narrows 'for every input' (looked for: loops, veiled, ifaces, maps, wideKeys, modest, calm, conditions, laid).
  DERIVED. THE GIVEN ROWS OF THIS SEAT. 10 by the template 'for every input the law returns true; each argument reads behind the call as it read before'; 0 by the template 'total and deterministic' (their statements: YtfgmckfomckliaaGreatTotals.lean).
  GIVEN WITH THE SEED: the statements are not yours to turn. If you find one false, say at which input.
  Laid BY PROGRAM, IN A SANDBOX (cutbox-rows.mjs): the forced cells as the released guide's own fill.sh prints them over the translation cf9c395804bc7232… (all of the seat's roots in one cut). By AI agents, Wed Nov 11 2026. No macro, syntax, notation, axiom, sorry.
-/
import Derived.Test.YtfgmckfomckliaaGreatChecked
import GoSem.Claim
import GoSem.ClaimJoined
import GoSem.ClaimMapViews
import Derived.JoinedTies
import Derived.KernelRfl
namespace Go.Proofs.YtfgmckfomckliaaGreat
/- THE CELL 'sum', in the pinned program and in every row, IS THE sha256 OF THE DUMP (.gsa) THAT YtfgmckfomckliaaGreatProg.lean LOADS. Nothing in Lean hashes anything: it is a label: what it is worth is what the hold of that sum in a sandbox is worth. -/
noncomputable def Tryz.pinned : Pinned := { name := "ytfgmckfomckliaagreat", sum := "cf9c395804bc72323ad2783e22b3640d148ccea8ad97ec15c249532ed6460864", checked := Tryz.checked }
namespace Rows
def none {H : Type} : Left H := { results := [], args := [] }

/-- 'ceroplastlaw08.DoorPrices': WHATEVER THE INPUT: true; the input reads as it did. -/
def doorPricesSpec : ChangeSpec := { name := "doorPrices", fn := fun _ => fun
  | [d1, d2] => { results := [.lit (.bool true)], args := [d1, d2] }
  | _ => none }
def doorPricesRow : OpenClaim := { program := "ytfgmckfomckliaagreat", sum := "cf9c395804bc72323ad2783e22b3640d148ccea8ad97ec15c249532ed6460864", func := "ceroplast/ceroplastlaw08.DoorPrices", spec := "doorPrices", unfollowed := true, recurses := true, apart := false }
def DoorPricesSaid : Prop := doorPricesRow.holds Tryz.pinned (OpenSpec.ofChange doorPricesSpec)

/-- ITS FALSE NEIGHBOUR: 'it returns false'. Refute it at one input. -/
def doorPricesWrong : ChangeSpec := { name := "doorPrices", fn := fun _ => fun
  | [d1, d2] => { results := [.lit (.bool false)], args := [d1, d2] }
  | _ => none }
def DoorPricesWrongFalsely : Prop := doorPricesRow.holds Tryz.pinned (OpenSpec.ofChange doorPricesWrong)

/-- 'ceroplastlaw08.DoorFirsts': WHATEVER THE INPUT: true; the input reads as it did. -/
def doorFirstsSpec : ChangeSpec := { name := "doorFirsts", fn := fun _ => fun
  | [d1, d2] => { results := [.lit (.bool true)], args := [d1, d2] }
  | _ => none }
def doorFirstsRow : OpenClaim := { program := "ytfgmckfomckliaagreat", sum := "cf9c395804bc72323ad2783e22b3640d148ccea8ad97ec15c249532ed6460864", func := "ceroplast/ceroplastlaw08.DoorFirsts", spec := "doorFirsts", unfollowed := true, recurses := true, apart := false }
def DoorFirstsSaid : Prop := doorFirstsRow.holds Tryz.pinned (OpenSpec.ofChange doorFirstsSpec)

/-- ITS FALSE NEIGHBOUR: 'it returns false'. Refute it at one input. -/
def doorFirstsWrong : ChangeSpec := { name := "doorFirsts", fn := fun _ => fun
  | [d1, d2] => { results := [.lit (.bool false)], args := [d1, d2] }
  | _ => none }
def DoorFirstsWrongFalsely : Prop := doorFirstsRow.holds Tryz.pinned (OpenSpec.ofChange doorFirstsWrong)

/-- 'ceroplastlaw08.DoorWrongs': WHATEVER THE INPUT: true; the input reads as it did. -/
def doorWrongsSpec : ChangeSpec := { name := "doorWrongs", fn := fun _ => fun
  | [d1, d2] => { results := [.lit (.bool true)], args := [d1, d2] }
  | _ => none }
def doorWrongsRow : OpenClaim := { program := "ytfgmckfomckliaagreat", sum := "cf9c395804bc72323ad2783e22b3640d148ccea8ad97ec15c249532ed6460864", func := "ceroplast/ceroplastlaw08.DoorWrongs", spec := "doorWrongs", unfollowed := true, recurses := true, apart := false }
def DoorWrongsSaid : Prop := doorWrongsRow.holds Tryz.pinned (OpenSpec.ofChange doorWrongsSpec)

/-- ITS FALSE NEIGHBOUR: 'it returns false'. Refute it at one input. -/
def doorWrongsWrong : ChangeSpec := { name := "doorWrongs", fn := fun _ => fun
  | [d1, d2] => { results := [.lit (.bool false)], args := [d1, d2] }
  | _ => none }
def DoorWrongsWrongFalsely : Prop := doorWrongsRow.holds Tryz.pinned (OpenSpec.ofChange doorWrongsWrong)

/-- 'ceroplastlaw08.DoorTrue': WHATEVER THE INPUT: true; the input reads as it did. -/
def doorTrueSpec : ChangeSpec := { name := "doorTrue", fn := fun _ => fun
  | [d1, d2, d3] => { results := [.lit (.bool true)], args := [d1, d2, d3] }
  | _ => none }
def doorTrueRow : OpenClaim := { program := "ytfgmckfomckliaagreat", sum := "cf9c395804bc72323ad2783e22b3640d148ccea8ad97ec15c249532ed6460864", func := "ceroplast/ceroplastlaw08.DoorTrue", spec := "doorTrue", unfollowed := true, recurses := true, apart := false }
def DoorTrueSaid : Prop := doorTrueRow.holds Tryz.pinned (OpenSpec.ofChange doorTrueSpec)

/-- ITS FALSE NEIGHBOUR: 'it returns false'. Refute it at one input. -/
def doorTrueWrong : ChangeSpec := { name := "doorTrue", fn := fun _ => fun
  | [d1, d2, d3] => { results := [.lit (.bool false)], args := [d1, d2, d3] }
  | _ => none }
def DoorTrueWrongFalsely : Prop := doorTrueRow.holds Tryz.pinned (OpenSpec.ofChange doorTrueWrong)

/-- 'ceroplastlaw08.DoorOnce': WHATEVER THE INPUT: true; the input reads as it did. -/
def doorOnceSpec : ChangeSpec := { name := "doorOnce", fn := fun _ => fun
  | [d1, d2] => { results := [.lit (.bool true)], args := [d1, d2] }
  | _ => none }
def doorOnceRow : OpenClaim := { program := "ytfgmckfomckliaagreat", sum := "cf9c395804bc72323ad2783e22b3640d148ccea8ad97ec15c249532ed6460864", func := "ceroplast/ceroplastlaw08.DoorOnce", spec := "doorOnce", unfollowed := true, recurses := true, apart := false }
def DoorOnceSaid : Prop := doorOnceRow.holds Tryz.pinned (OpenSpec.ofChange doorOnceSpec)

/-- ITS FALSE NEIGHBOUR: 'it returns false'. Refute it at one input. -/
def doorOnceWrong : ChangeSpec := { name := "doorOnce", fn := fun _ => fun
  | [d1, d2] => { results := [.lit (.bool false)], args := [d1, d2] }
  | _ => none }
def DoorOnceWrongFalsely : Prop := doorOnceRow.holds Tryz.pinned (OpenSpec.ofChange doorOnceWrong)

/-- 'ceroplastlaw08.DoorFewest': WHATEVER THE INPUT: true; the input reads as it did. -/
def doorFewestSpec : ChangeSpec := { name := "doorFewest", fn := fun _ => fun
  | [d1, d2, d3] => { results := [.lit (.bool true)], args := [d1, d2, d3] }
  | _ => none }
def doorFewestRow : OpenClaim := { program := "ytfgmckfomckliaagreat", sum := "cf9c395804bc72323ad2783e22b3640d148ccea8ad97ec15c249532ed6460864", func := "ceroplast/ceroplastlaw08.DoorFewest", spec := "doorFewest", unfollowed := true, recurses := true, apart := false }
def DoorFewestSaid : Prop := doorFewestRow.holds Tryz.pinned (OpenSpec.ofChange doorFewestSpec)

/-- ITS FALSE NEIGHBOUR: 'it returns false'. Refute it at one input. -/
def doorFewestWrong : ChangeSpec := { name := "doorFewest", fn := fun _ => fun
  | [d1, d2, d3] => { results := [.lit (.bool false)], args := [d1, d2, d3] }
  | _ => none }
def DoorFewestWrongFalsely : Prop := doorFewestRow.holds Tryz.pinned (OpenSpec.ofChange doorFewestWrong)

/-- 'ceroplastlaw08.DoorSchools': WHATEVER THE INPUT: true; the input reads as it did. -/
def doorSchoolsSpec : ChangeSpec := { name := "doorSchools", fn := fun _ => fun
  | [d1, d2, d3] => { results := [.lit (.bool true)], args := [d1, d2, d3] }
  | _ => none }
def doorSchoolsRow : OpenClaim := { program := "ytfgmckfomckliaagreat", sum := "cf9c395804bc72323ad2783e22b3640d148ccea8ad97ec15c249532ed6460864", func := "ceroplast/ceroplastlaw08.DoorSchools", spec := "doorSchools", unfollowed := true, recurses := true, apart := false }
def DoorSchoolsSaid : Prop := doorSchoolsRow.holds Tryz.pinned (OpenSpec.ofChange doorSchoolsSpec)

/-- ITS FALSE NEIGHBOUR: 'it returns false'. Refute it at one input. -/
def doorSchoolsWrong : ChangeSpec := { name := "doorSchools", fn := fun _ => fun
  | [d1, d2, d3] => { results := [.lit (.bool false)], args := [d1, d2, d3] }
  | _ => none }
def DoorSchoolsWrongFalsely : Prop := doorSchoolsRow.holds Tryz.pinned (OpenSpec.ofChange doorSchoolsWrong)

/-- 'ceroplastlaw08.DoorMissed': WHATEVER THE INPUT: true; the input reads as it did. -/
def doorMissedSpec : ChangeSpec := { name := "doorMissed", fn := fun _ => fun
  | [d1, d2] => { results := [.lit (.bool true)], args := [d1, d2] }
  | _ => none }
def doorMissedRow : OpenClaim := { program := "ytfgmckfomckliaagreat", sum := "cf9c395804bc72323ad2783e22b3640d148ccea8ad97ec15c249532ed6460864", func := "ceroplast/ceroplastlaw08.DoorMissed", spec := "doorMissed", unfollowed := true, recurses := true, apart := false }
def DoorMissedSaid : Prop := doorMissedRow.holds Tryz.pinned (OpenSpec.ofChange doorMissedSpec)

/-- ITS FALSE NEIGHBOUR: 'it returns false'. Refute it at one input. -/
def doorMissedWrong : ChangeSpec := { name := "doorMissed", fn := fun _ => fun
  | [d1, d2] => { results := [.lit (.bool false)], args := [d1, d2] }
  | _ => none }
def DoorMissedWrongFalsely : Prop := doorMissedRow.holds Tryz.pinned (OpenSpec.ofChange doorMissedWrong)

/-- 'ceroplastlaw08.DoorKnows': WHATEVER THE INPUT: true; the input reads as it did. -/
def doorKnowsSpec : ChangeSpec := { name := "doorKnows", fn := fun _ => fun
  | [d1, d2, d3] => { results := [.lit (.bool true)], args := [d1, d2, d3] }
  | _ => none }
def doorKnowsRow : OpenClaim := { program := "ytfgmckfomckliaagreat", sum := "cf9c395804bc72323ad2783e22b3640d148ccea8ad97ec15c249532ed6460864", func := "ceroplast/ceroplastlaw08.DoorKnows", spec := "doorKnows", unfollowed := true, recurses := true, apart := false }
def DoorKnowsSaid : Prop := doorKnowsRow.holds Tryz.pinned (OpenSpec.ofChange doorKnowsSpec)

/-- ITS FALSE NEIGHBOUR: 'it returns false'. Refute it at one input. -/
def doorKnowsWrong : ChangeSpec := { name := "doorKnows", fn := fun _ => fun
  | [d1, d2, d3] => { results := [.lit (.bool false)], args := [d1, d2, d3] }
  | _ => none }
def DoorKnowsWrongFalsely : Prop := doorKnowsRow.holds Tryz.pinned (OpenSpec.ofChange doorKnowsWrong)

/-- 'ceroplastlaw08.DoorDays': WHATEVER THE INPUT: true; the input reads as it did. -/
def doorDaysSpec : ChangeSpec := { name := "doorDays", fn := fun _ => fun
  | [d1, d2] => { results := [.lit (.bool true)], args := [d1, d2] }
  | _ => none }
def doorDaysRow : OpenClaim := { program := "ytfgmckfomckliaagreat", sum := "cf9c395804bc72323ad2783e22b3640d148ccea8ad97ec15c249532ed6460864", func := "ceroplast/ceroplastlaw08.DoorDays", spec := "doorDays", unfollowed := true, recurses := true, apart := false }
def DoorDaysSaid : Prop := doorDaysRow.holds Tryz.pinned (OpenSpec.ofChange doorDaysSpec)

/-- ITS FALSE NEIGHBOUR: 'it returns false'. Refute it at one input. -/
def doorDaysWrong : ChangeSpec := { name := "doorDays", fn := fun _ => fun
  | [d1, d2] => { results := [.lit (.bool false)], args := [d1, d2] }
  | _ => none }
def DoorDaysWrongFalsely : Prop := doorDaysRow.holds Tryz.pinned (OpenSpec.ofChange doorDaysWrong)

/- THE SECOND FORM. 'bulk': how many values and letters a reading holds, each counted each time it is reached (what is shared counts as often as it is met; a slice's spare places count too). A statement '..UptoSaid' is the law's where the arguments, and the package variables that the reading takes, are together of bulk at most 1048576: NARROWER than '..Said'. Prove '..Said' where nothing that the law and all that it calls make is longer than what came in: it says more and counts as full. Else prove '..UptoSaid'. A law counts once. -/
mutual
def uptoBulk {H : Type} : DataW H → Nat
  | .lit (.string bytes) => bytes.length + 1
  | .lit _ => 1
  | .nil => 1
  | .ptr d => uptoBulk d + 1
  | .slice elems spare => uptoBulkAll elems + uptoBulkAll spare + 1
  | .agg parts => uptoBulkAll parts + 1
  | .iface _ d => uptoBulk d + 1
  | .map entries => uptoBulkEntries entries + 1
  | .held _ => 1
def uptoBulkAll {H : Type} : List (DataW H) → Nat
  | [] => 0
  | d :: r => uptoBulk d + uptoBulkAll r
def uptoBulkEntries {H : Type} : List (Lit × DataW H) → Nat
  | [] => 0
  | x :: r => uptoBulkEntry x + uptoBulkEntries r
def uptoBulkEntry {H : Type} : Lit × DataW H → Nat
  | (.string bytes, d) => bytes.length + uptoBulk d + 1
  | (_, d) => uptoBulk d + 1
 end
def uptoSmall : (H : Type) → List (DataW H) → Bool := fun _ ds => decide (uptoBulkAll ds ≤ 1048576)
def OpenSpec.upto (s : _root_.Go.ChangeSpec) : _root_.Go.OpenSpec := { _root_.Go.OpenSpec.ofChange s with cond := some uptoSmall }

/-- 'ceroplastlaw08.DoorPrices', WHERE WHAT IT READS IS OF BULK AT MOST 1048576: true; the input reads as it did. -/
def doorPricesUptoRow : OpenClaim := { program := "ytfgmckfomckliaagreat", sum := "cf9c395804bc72323ad2783e22b3640d148ccea8ad97ec15c249532ed6460864", func := "ceroplast/ceroplastlaw08.DoorPrices", spec := "doorPrices", unfollowed := true, recurses := true, apart := false, narrowed := true }
def DoorPricesUptoSaid : Prop := doorPricesUptoRow.holds Tryz.pinned (OpenSpec.upto doorPricesSpec)

/-- 'ceroplastlaw08.DoorFirsts', WHERE WHAT IT READS IS OF BULK AT MOST 1048576: true; the input reads as it did. -/
def doorFirstsUptoRow : OpenClaim := { program := "ytfgmckfomckliaagreat", sum := "cf9c395804bc72323ad2783e22b3640d148ccea8ad97ec15c249532ed6460864", func := "ceroplast/ceroplastlaw08.DoorFirsts", spec := "doorFirsts", unfollowed := true, recurses := true, apart := false, narrowed := true }
def DoorFirstsUptoSaid : Prop := doorFirstsUptoRow.holds Tryz.pinned (OpenSpec.upto doorFirstsSpec)

/-- 'ceroplastlaw08.DoorWrongs', WHERE WHAT IT READS IS OF BULK AT MOST 1048576: true; the input reads as it did. -/
def doorWrongsUptoRow : OpenClaim := { program := "ytfgmckfomckliaagreat", sum := "cf9c395804bc72323ad2783e22b3640d148ccea8ad97ec15c249532ed6460864", func := "ceroplast/ceroplastlaw08.DoorWrongs", spec := "doorWrongs", unfollowed := true, recurses := true, apart := false, narrowed := true }
def DoorWrongsUptoSaid : Prop := doorWrongsUptoRow.holds Tryz.pinned (OpenSpec.upto doorWrongsSpec)

/-- 'ceroplastlaw08.DoorTrue', WHERE WHAT IT READS IS OF BULK AT MOST 1048576: true; the input reads as it did. -/
def doorTrueUptoRow : OpenClaim := { program := "ytfgmckfomckliaagreat", sum := "cf9c395804bc72323ad2783e22b3640d148ccea8ad97ec15c249532ed6460864", func := "ceroplast/ceroplastlaw08.DoorTrue", spec := "doorTrue", unfollowed := true, recurses := true, apart := false, narrowed := true }
def DoorTrueUptoSaid : Prop := doorTrueUptoRow.holds Tryz.pinned (OpenSpec.upto doorTrueSpec)

/-- 'ceroplastlaw08.DoorOnce', WHERE WHAT IT READS IS OF BULK AT MOST 1048576: true; the input reads as it did. -/
def doorOnceUptoRow : OpenClaim := { program := "ytfgmckfomckliaagreat", sum := "cf9c395804bc72323ad2783e22b3640d148ccea8ad97ec15c249532ed6460864", func := "ceroplast/ceroplastlaw08.DoorOnce", spec := "doorOnce", unfollowed := true, recurses := true, apart := false, narrowed := true }
def DoorOnceUptoSaid : Prop := doorOnceUptoRow.holds Tryz.pinned (OpenSpec.upto doorOnceSpec)

/-- 'ceroplastlaw08.DoorFewest', WHERE WHAT IT READS IS OF BULK AT MOST 1048576: true; the input reads as it did. -/
def doorFewestUptoRow : OpenClaim := { program := "ytfgmckfomckliaagreat", sum := "cf9c395804bc72323ad2783e22b3640d148ccea8ad97ec15c249532ed6460864", func := "ceroplast/ceroplastlaw08.DoorFewest", spec := "doorFewest", unfollowed := true, recurses := true, apart := false, narrowed := true }
def DoorFewestUptoSaid : Prop := doorFewestUptoRow.holds Tryz.pinned (OpenSpec.upto doorFewestSpec)

/-- 'ceroplastlaw08.DoorSchools', WHERE WHAT IT READS IS OF BULK AT MOST 1048576: true; the input reads as it did. -/
def doorSchoolsUptoRow : OpenClaim := { program := "ytfgmckfomckliaagreat", sum := "cf9c395804bc72323ad2783e22b3640d148ccea8ad97ec15c249532ed6460864", func := "ceroplast/ceroplastlaw08.DoorSchools", spec := "doorSchools", unfollowed := true, recurses := true, apart := false, narrowed := true }
def DoorSchoolsUptoSaid : Prop := doorSchoolsUptoRow.holds Tryz.pinned (OpenSpec.upto doorSchoolsSpec)

/-- 'ceroplastlaw08.DoorMissed', WHERE WHAT IT READS IS OF BULK AT MOST 1048576: true; the input reads as it did. -/
def doorMissedUptoRow : OpenClaim := { program := "ytfgmckfomckliaagreat", sum := "cf9c395804bc72323ad2783e22b3640d148ccea8ad97ec15c249532ed6460864", func := "ceroplast/ceroplastlaw08.DoorMissed", spec := "doorMissed", unfollowed := true, recurses := true, apart := false, narrowed := true }
def DoorMissedUptoSaid : Prop := doorMissedUptoRow.holds Tryz.pinned (OpenSpec.upto doorMissedSpec)

/-- 'ceroplastlaw08.DoorKnows', WHERE WHAT IT READS IS OF BULK AT MOST 1048576: true; the input reads as it did. -/
def doorKnowsUptoRow : OpenClaim := { program := "ytfgmckfomckliaagreat", sum := "cf9c395804bc72323ad2783e22b3640d148ccea8ad97ec15c249532ed6460864", func := "ceroplast/ceroplastlaw08.DoorKnows", spec := "doorKnows", unfollowed := true, recurses := true, apart := false, narrowed := true }
def DoorKnowsUptoSaid : Prop := doorKnowsUptoRow.holds Tryz.pinned (OpenSpec.upto doorKnowsSpec)

/-- 'ceroplastlaw08.DoorDays', WHERE WHAT IT READS IS OF BULK AT MOST 1048576: true; the input reads as it did. -/
def doorDaysUptoRow : OpenClaim := { program := "ytfgmckfomckliaagreat", sum := "cf9c395804bc72323ad2783e22b3640d148ccea8ad97ec15c249532ed6460864", func := "ceroplast/ceroplastlaw08.DoorDays", spec := "doorDays", unfollowed := true, recurses := true, apart := false, narrowed := true }
def DoorDaysUptoSaid : Prop := doorDaysUptoRow.holds Tryz.pinned (OpenSpec.upto doorDaysSpec)

end Rows
end Go.Proofs.YtfgmckfomckliaaGreat
