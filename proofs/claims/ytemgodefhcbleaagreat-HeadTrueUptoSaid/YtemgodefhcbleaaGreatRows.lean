/-
  No cell of these rows narrows 'for every input' (looked for: loops, veiled, ifaces, maps, wideKeys, modest, calm, conditions, laid).
  DERIVED. THE GIVEN ROWS OF THIS SEAT. 13 by the template 'for every input the law returns true; each argument reads behind the call as it read before'; 0 by the template 'total and deterministic' (their statements: YtemgodefhcbleaaGreatTotals.lean).
  GIVEN WITH THE SEED: the statements are not yours to turn. If you find one false, say at which input.
  Laid BY PROGRAM, IN A SANDBOX (cutbox-rows.mjs): the forced cells as the released guide's own fill.sh prints them over the translation 2430f19d99c9efab… (all of the seat's roots in one cut). By AI agents, Wed Nov 11 2026. No macro, syntax, notation, axiom, sorry.
-/
import Derived.Test.YtemgodefhcbleaaGreatChecked
import GoSem.Claim
import GoSem.ClaimJoined
import GoSem.ClaimMapViews
import Derived.JoinedTies
import Derived.KernelRfl
namespace Go.Proofs.YtemgodefhcbleaaGreat
/- THE CELL 'sum', in the pinned program and in every row, IS THE sha256 OF THE DUMP (.gsa) THAT YtemgodefhcbleaaGreatProg.lean LOADS. Nothing in Lean hashes anything: it is a label: what it is worth is what the hold of that sum in a sandbox is worth. -/
noncomputable def Tryz.pinned : Pinned := { name := "ytemgodefhcbleaagreat", sum := "2430f19d99c9efabe19a2de7f5acdc2a4fd7d8efe2acd0b8cfef98c5e61cd1a7", checked := Tryz.checked }
namespace Rows
def none {H : Type} : Left H := { results := [], args := [] }

/-- 'ceroplastlaw03.HeadTruths': WHATEVER THE INPUT: true; the input reads as it did. -/
def headTruthsSpec : ChangeSpec := { name := "headTruths", fn := fun _ => fun
  | [d] => { results := [.lit (.bool true)], args := [d] }
  | _ => none }
def headTruthsRow : OpenClaim := { program := "ytemgodefhcbleaagreat", sum := "2430f19d99c9efabe19a2de7f5acdc2a4fd7d8efe2acd0b8cfef98c5e61cd1a7", func := "ceroplast/ceroplastlaw03.HeadTruths", spec := "headTruths", unfollowed := true, recurses := true, plainKeys := false, apart := false }
def HeadTruthsSaid : Prop := headTruthsRow.holds Tryz.pinned (OpenSpec.ofChange headTruthsSpec)

/-- ITS FALSE NEIGHBOUR: 'it returns false'. Refute it at one input. -/
def headTruthsWrong : ChangeSpec := { name := "headTruths", fn := fun _ => fun
  | [d] => { results := [.lit (.bool false)], args := [d] }
  | _ => none }
def HeadTruthsWrongFalsely : Prop := headTruthsRow.holds Tryz.pinned (OpenSpec.ofChange headTruthsWrong)

/-- 'ceroplastlaw03.HeadPlaces': WHATEVER THE INPUT: true; the input reads as it did. -/
def headPlacesSpec : ChangeSpec := { name := "headPlaces", fn := fun _ => fun
  | [d1, d2, d3] => { results := [.lit (.bool true)], args := [d1, d2, d3] }
  | _ => none }
def headPlacesRow : OpenClaim := { program := "ytemgodefhcbleaagreat", sum := "2430f19d99c9efabe19a2de7f5acdc2a4fd7d8efe2acd0b8cfef98c5e61cd1a7", func := "ceroplast/ceroplastlaw03.HeadPlaces", spec := "headPlaces", unfollowed := true, recurses := true, plainKeys := false, apart := false }
def HeadPlacesSaid : Prop := headPlacesRow.holds Tryz.pinned (OpenSpec.ofChange headPlacesSpec)

/-- ITS FALSE NEIGHBOUR: 'it returns false'. Refute it at one input. -/
def headPlacesWrong : ChangeSpec := { name := "headPlaces", fn := fun _ => fun
  | [d1, d2, d3] => { results := [.lit (.bool false)], args := [d1, d2, d3] }
  | _ => none }
def HeadPlacesWrongFalsely : Prop := headPlacesRow.holds Tryz.pinned (OpenSpec.ofChange headPlacesWrong)

/-- 'ceroplastlaw03.HeadShows': WHATEVER THE INPUT: true; the input reads as it did. -/
def headShowsSpec : ChangeSpec := { name := "headShows", fn := fun _ => fun
  | [d1, d2, d3] => { results := [.lit (.bool true)], args := [d1, d2, d3] }
  | _ => none }
def headShowsRow : OpenClaim := { program := "ytemgodefhcbleaagreat", sum := "2430f19d99c9efabe19a2de7f5acdc2a4fd7d8efe2acd0b8cfef98c5e61cd1a7", func := "ceroplast/ceroplastlaw03.HeadShows", spec := "headShows", unfollowed := true, recurses := true, plainKeys := false, apart := false }
def HeadShowsSaid : Prop := headShowsRow.holds Tryz.pinned (OpenSpec.ofChange headShowsSpec)

/-- ITS FALSE NEIGHBOUR: 'it returns false'. Refute it at one input. -/
def headShowsWrong : ChangeSpec := { name := "headShows", fn := fun _ => fun
  | [d1, d2, d3] => { results := [.lit (.bool false)], args := [d1, d2, d3] }
  | _ => none }
def HeadShowsWrongFalsely : Prop := headShowsRow.holds Tryz.pinned (OpenSpec.ofChange headShowsWrong)

/-- 'ceroplastlaw03.HeadWrongs': WHATEVER THE INPUT: true; the input reads as it did. -/
def headWrongsSpec : ChangeSpec := { name := "headWrongs", fn := fun _ => fun
  | [d] => { results := [.lit (.bool true)], args := [d] }
  | _ => none }
def headWrongsRow : OpenClaim := { program := "ytemgodefhcbleaagreat", sum := "2430f19d99c9efabe19a2de7f5acdc2a4fd7d8efe2acd0b8cfef98c5e61cd1a7", func := "ceroplast/ceroplastlaw03.HeadWrongs", spec := "headWrongs", unfollowed := true, recurses := true, plainKeys := false, apart := false }
def HeadWrongsSaid : Prop := headWrongsRow.holds Tryz.pinned (OpenSpec.ofChange headWrongsSpec)

/-- ITS FALSE NEIGHBOUR: 'it returns false'. Refute it at one input. -/
def headWrongsWrong : ChangeSpec := { name := "headWrongs", fn := fun _ => fun
  | [d] => { results := [.lit (.bool false)], args := [d] }
  | _ => none }
def HeadWrongsWrongFalsely : Prop := headWrongsRow.holds Tryz.pinned (OpenSpec.ofChange headWrongsWrong)

/-- 'ceroplastlaw03.HeadKnown': WHATEVER THE INPUT: true; the input reads as it did. -/
def headKnownSpec : ChangeSpec := { name := "headKnown", fn := fun _ => fun
  | [] => { results := [.lit (.bool true)], args := [] }
  | _ => none }
def headKnownRow : OpenClaim := { program := "ytemgodefhcbleaagreat", sum := "2430f19d99c9efabe19a2de7f5acdc2a4fd7d8efe2acd0b8cfef98c5e61cd1a7", func := "ceroplast/ceroplastlaw03.HeadKnown", spec := "headKnown", unfollowed := true, recurses := true, plainKeys := false, apart := false }
def HeadKnownSaid : Prop := headKnownRow.holds Tryz.pinned (OpenSpec.ofChange headKnownSpec)

/-- ITS FALSE NEIGHBOUR: 'it returns false'. Refute it at one input. -/
def headKnownWrong : ChangeSpec := { name := "headKnown", fn := fun _ => fun
  | [] => { results := [.lit (.bool false)], args := [] }
  | _ => none }
def HeadKnownWrongFalsely : Prop := headKnownRow.holds Tryz.pinned (OpenSpec.ofChange headKnownWrong)

/-- 'ceroplastlaw03.HeadTrue': WHATEVER THE INPUT: true; the input reads as it did. -/
def headTrueSpec : ChangeSpec := { name := "headTrue", fn := fun _ => fun
  | [d1, d2, d3] => { results := [.lit (.bool true)], args := [d1, d2, d3] }
  | _ => none }
def headTrueRow : OpenClaim := { program := "ytemgodefhcbleaagreat", sum := "2430f19d99c9efabe19a2de7f5acdc2a4fd7d8efe2acd0b8cfef98c5e61cd1a7", func := "ceroplast/ceroplastlaw03.HeadTrue", spec := "headTrue", unfollowed := true, recurses := true, plainKeys := false, apart := false }
def HeadTrueSaid : Prop := headTrueRow.holds Tryz.pinned (OpenSpec.ofChange headTrueSpec)

/-- ITS FALSE NEIGHBOUR: 'it returns false'. Refute it at one input. -/
def headTrueWrong : ChangeSpec := { name := "headTrue", fn := fun _ => fun
  | [d1, d2, d3] => { results := [.lit (.bool false)], args := [d1, d2, d3] }
  | _ => none }
def HeadTrueWrongFalsely : Prop := headTrueRow.holds Tryz.pinned (OpenSpec.ofChange headTrueWrong)

/-- 'ceroplastlaw03.HeadNoMore': WHATEVER THE INPUT: true; the input reads as it did. -/
def headNoMoreSpec : ChangeSpec := { name := "headNoMore", fn := fun _ => fun
  | [d1, d2, d3] => { results := [.lit (.bool true)], args := [d1, d2, d3] }
  | _ => none }
def headNoMoreRow : OpenClaim := { program := "ytemgodefhcbleaagreat", sum := "2430f19d99c9efabe19a2de7f5acdc2a4fd7d8efe2acd0b8cfef98c5e61cd1a7", func := "ceroplast/ceroplastlaw03.HeadNoMore", spec := "headNoMore", unfollowed := true, recurses := true, plainKeys := false, apart := false }
def HeadNoMoreSaid : Prop := headNoMoreRow.holds Tryz.pinned (OpenSpec.ofChange headNoMoreSpec)

/-- ITS FALSE NEIGHBOUR: 'it returns false'. Refute it at one input. -/
def headNoMoreWrong : ChangeSpec := { name := "headNoMore", fn := fun _ => fun
  | [d1, d2, d3] => { results := [.lit (.bool false)], args := [d1, d2, d3] }
  | _ => none }
def HeadNoMoreWrongFalsely : Prop := headNoMoreRow.holds Tryz.pinned (OpenSpec.ofChange headNoMoreWrong)

/-- 'ceroplastlaw03.HeadFewest': WHATEVER THE INPUT: true; the input reads as it did. -/
def headFewestSpec : ChangeSpec := { name := "headFewest", fn := fun _ => fun
  | [d1, d2] => { results := [.lit (.bool true)], args := [d1, d2] }
  | _ => none }
def headFewestRow : OpenClaim := { program := "ytemgodefhcbleaagreat", sum := "2430f19d99c9efabe19a2de7f5acdc2a4fd7d8efe2acd0b8cfef98c5e61cd1a7", func := "ceroplast/ceroplastlaw03.HeadFewest", spec := "headFewest", unfollowed := true, recurses := true, plainKeys := false, apart := false }
def HeadFewestSaid : Prop := headFewestRow.holds Tryz.pinned (OpenSpec.ofChange headFewestSpec)

/-- ITS FALSE NEIGHBOUR: 'it returns false'. Refute it at one input. -/
def headFewestWrong : ChangeSpec := { name := "headFewest", fn := fun _ => fun
  | [d1, d2] => { results := [.lit (.bool false)], args := [d1, d2] }
  | _ => none }
def HeadFewestWrongFalsely : Prop := headFewestRow.holds Tryz.pinned (OpenSpec.ofChange headFewestWrong)

/-- 'ceroplastlaw03.HeadEach': WHATEVER THE INPUT: true; the input reads as it did. -/
def headEachSpec : ChangeSpec := { name := "headEach", fn := fun _ => fun
  | [d1, d2] => { results := [.lit (.bool true)], args := [d1, d2] }
  | _ => none }
def headEachRow : OpenClaim := { program := "ytemgodefhcbleaagreat", sum := "2430f19d99c9efabe19a2de7f5acdc2a4fd7d8efe2acd0b8cfef98c5e61cd1a7", func := "ceroplast/ceroplastlaw03.HeadEach", spec := "headEach", unfollowed := true, recurses := true, plainKeys := false, apart := false }
def HeadEachSaid : Prop := headEachRow.holds Tryz.pinned (OpenSpec.ofChange headEachSpec)

/-- ITS FALSE NEIGHBOUR: 'it returns false'. Refute it at one input. -/
def headEachWrong : ChangeSpec := { name := "headEach", fn := fun _ => fun
  | [d1, d2] => { results := [.lit (.bool false)], args := [d1, d2] }
  | _ => none }
def HeadEachWrongFalsely : Prop := headEachRow.holds Tryz.pinned (OpenSpec.ofChange headEachWrong)

/-- 'ceroplastlaw03.HeadEver': WHATEVER THE INPUT: true; the input reads as it did. -/
def headEverSpec : ChangeSpec := { name := "headEver", fn := fun _ => fun
  | [d1, d2] => { results := [.lit (.bool true)], args := [d1, d2] }
  | _ => none }
def headEverRow : OpenClaim := { program := "ytemgodefhcbleaagreat", sum := "2430f19d99c9efabe19a2de7f5acdc2a4fd7d8efe2acd0b8cfef98c5e61cd1a7", func := "ceroplast/ceroplastlaw03.HeadEver", spec := "headEver", unfollowed := true, recurses := true, plainKeys := false, apart := false }
def HeadEverSaid : Prop := headEverRow.holds Tryz.pinned (OpenSpec.ofChange headEverSpec)

/-- ITS FALSE NEIGHBOUR: 'it returns false'. Refute it at one input. -/
def headEverWrong : ChangeSpec := { name := "headEver", fn := fun _ => fun
  | [d1, d2] => { results := [.lit (.bool false)], args := [d1, d2] }
  | _ => none }
def HeadEverWrongFalsely : Prop := headEverRow.holds Tryz.pinned (OpenSpec.ofChange headEverWrong)

/-- 'ceroplastlaw03.HeadBetween': WHATEVER THE INPUT: true; the input reads as it did. -/
def headBetweenSpec : ChangeSpec := { name := "headBetween", fn := fun _ => fun
  | [d1, d2] => { results := [.lit (.bool true)], args := [d1, d2] }
  | _ => none }
def headBetweenRow : OpenClaim := { program := "ytemgodefhcbleaagreat", sum := "2430f19d99c9efabe19a2de7f5acdc2a4fd7d8efe2acd0b8cfef98c5e61cd1a7", func := "ceroplast/ceroplastlaw03.HeadBetween", spec := "headBetween", unfollowed := true, recurses := true, plainKeys := false, apart := false }
def HeadBetweenSaid : Prop := headBetweenRow.holds Tryz.pinned (OpenSpec.ofChange headBetweenSpec)

/-- ITS FALSE NEIGHBOUR: 'it returns false'. Refute it at one input. -/
def headBetweenWrong : ChangeSpec := { name := "headBetween", fn := fun _ => fun
  | [d1, d2] => { results := [.lit (.bool false)], args := [d1, d2] }
  | _ => none }
def HeadBetweenWrongFalsely : Prop := headBetweenRow.holds Tryz.pinned (OpenSpec.ofChange headBetweenWrong)

/-- 'ceroplastlaw03.HeadBack': WHATEVER THE INPUT: true; the input reads as it did. -/
def headBackSpec : ChangeSpec := { name := "headBack", fn := fun _ => fun
  | [d1, d2, d3] => { results := [.lit (.bool true)], args := [d1, d2, d3] }
  | _ => none }
def headBackRow : OpenClaim := { program := "ytemgodefhcbleaagreat", sum := "2430f19d99c9efabe19a2de7f5acdc2a4fd7d8efe2acd0b8cfef98c5e61cd1a7", func := "ceroplast/ceroplastlaw03.HeadBack", spec := "headBack", unfollowed := true, recurses := true, plainKeys := false, apart := false }
def HeadBackSaid : Prop := headBackRow.holds Tryz.pinned (OpenSpec.ofChange headBackSpec)

/-- ITS FALSE NEIGHBOUR: 'it returns false'. Refute it at one input. -/
def headBackWrong : ChangeSpec := { name := "headBack", fn := fun _ => fun
  | [d1, d2, d3] => { results := [.lit (.bool false)], args := [d1, d2, d3] }
  | _ => none }
def HeadBackWrongFalsely : Prop := headBackRow.holds Tryz.pinned (OpenSpec.ofChange headBackWrong)

/-- 'ceroplastlaw03.HeadApart': WHATEVER THE INPUT: true; the input reads as it did. -/
def headApartSpec : ChangeSpec := { name := "headApart", fn := fun _ => fun
  | [d1, d2, d3] => { results := [.lit (.bool true)], args := [d1, d2, d3] }
  | _ => none }
def headApartRow : OpenClaim := { program := "ytemgodefhcbleaagreat", sum := "2430f19d99c9efabe19a2de7f5acdc2a4fd7d8efe2acd0b8cfef98c5e61cd1a7", func := "ceroplast/ceroplastlaw03.HeadApart", spec := "headApart", unfollowed := true, recurses := true, plainKeys := false, apart := false }
def HeadApartSaid : Prop := headApartRow.holds Tryz.pinned (OpenSpec.ofChange headApartSpec)

/-- ITS FALSE NEIGHBOUR: 'it returns false'. Refute it at one input. -/
def headApartWrong : ChangeSpec := { name := "headApart", fn := fun _ => fun
  | [d1, d2, d3] => { results := [.lit (.bool false)], args := [d1, d2, d3] }
  | _ => none }
def HeadApartWrongFalsely : Prop := headApartRow.holds Tryz.pinned (OpenSpec.ofChange headApartWrong)

/- THE SECOND FORM. 'bulk': how many values and letters a reading holds, each counted each time it is reached (what is shared counts as often as it is met; a slice's spare places count too). A statement '..UptoSaid' is the law's where the arguments, and the package variables that the reading takes, are together of bulk at most 1048576: NARROWER than '..Said'. Prove '..Said' where nothing that the law and all that it calls make is longer than what came in: it says more and counts as full. Else prove '..UptoSaid'. A law counts once. -/
mutual
def uptoBulk {H : Type} : DataW H → Nat
  | .lit (.string bytes) => bytes.length + 1
  | .lit _ => 1
  | .nil => 1
  | .ptr d => uptoBulk d + 1
  | .slice elems spare => uptoBulkAll elems + uptoBulkAll spare + 1
  | .agg parts => uptoBulkAll parts + 1
  | .iface _ d => uptoBulk d + 1
  | .map entries => uptoBulkEntries entries + 1
  | .held _ => 1
def uptoBulkAll {H : Type} : List (DataW H) → Nat
  | [] => 0
  | d :: r => uptoBulk d + uptoBulkAll r
def uptoBulkEntries {H : Type} : List (Lit × DataW H) → Nat
  | [] => 0
  | x :: r => uptoBulkEntry x + uptoBulkEntries r
def uptoBulkEntry {H : Type} : Lit × DataW H → Nat
  | (.string bytes, d) => bytes.length + uptoBulk d + 1
  | (_, d) => uptoBulk d + 1
 end
def uptoSmall : (H : Type) → List (DataW H) → Bool := fun _ ds => decide (uptoBulkAll ds ≤ 1048576)
def OpenSpec.upto (s : _root_.Go.ChangeSpec) : _root_.Go.OpenSpec := { _root_.Go.OpenSpec.ofChange s with cond := some uptoSmall }

/-- 'ceroplastlaw03.HeadTruths', WHERE WHAT IT READS IS OF BULK AT MOST 1048576: true; the input reads as it did. -/
def headTruthsUptoRow : OpenClaim := { program := "ytemgodefhcbleaagreat", sum := "2430f19d99c9efabe19a2de7f5acdc2a4fd7d8efe2acd0b8cfef98c5e61cd1a7", func := "ceroplast/ceroplastlaw03.HeadTruths", spec := "headTruths", unfollowed := true, recurses := true, plainKeys := false, apart := false, narrowed := true }
def HeadTruthsUptoSaid : Prop := headTruthsUptoRow.holds Tryz.pinned (OpenSpec.upto headTruthsSpec)

/-- 'ceroplastlaw03.HeadPlaces', WHERE WHAT IT READS IS OF BULK AT MOST 1048576: true; the input reads as it did. -/
def headPlacesUptoRow : OpenClaim := { program := "ytemgodefhcbleaagreat", sum := "2430f19d99c9efabe19a2de7f5acdc2a4fd7d8efe2acd0b8cfef98c5e61cd1a7", func := "ceroplast/ceroplastlaw03.HeadPlaces", spec := "headPlaces", unfollowed := true, recurses := true, plainKeys := false, apart := false, narrowed := true }
def HeadPlacesUptoSaid : Prop := headPlacesUptoRow.holds Tryz.pinned (OpenSpec.upto headPlacesSpec)

/-- 'ceroplastlaw03.HeadShows', WHERE WHAT IT READS IS OF BULK AT MOST 1048576: true; the input reads as it did. -/
def headShowsUptoRow : OpenClaim := { program := "ytemgodefhcbleaagreat", sum := "2430f19d99c9efabe19a2de7f5acdc2a4fd7d8efe2acd0b8cfef98c5e61cd1a7", func := "ceroplast/ceroplastlaw03.HeadShows", spec := "headShows", unfollowed := true, recurses := true, plainKeys := false, apart := false, narrowed := true }
def HeadShowsUptoSaid : Prop := headShowsUptoRow.holds Tryz.pinned (OpenSpec.upto headShowsSpec)

/-- 'ceroplastlaw03.HeadWrongs', WHERE WHAT IT READS IS OF BULK AT MOST 1048576: true; the input reads as it did. -/
def headWrongsUptoRow : OpenClaim := { program := "ytemgodefhcbleaagreat", sum := "2430f19d99c9efabe19a2de7f5acdc2a4fd7d8efe2acd0b8cfef98c5e61cd1a7", func := "ceroplast/ceroplastlaw03.HeadWrongs", spec := "headWrongs", unfollowed := true, recurses := true, plainKeys := false, apart := false, narrowed := true }
def HeadWrongsUptoSaid : Prop := headWrongsUptoRow.holds Tryz.pinned (OpenSpec.upto headWrongsSpec)

/-- 'ceroplastlaw03.HeadKnown', WHERE WHAT IT READS IS OF BULK AT MOST 1048576: true; the input reads as it did. -/
def headKnownUptoRow : OpenClaim := { program := "ytemgodefhcbleaagreat", sum := "2430f19d99c9efabe19a2de7f5acdc2a4fd7d8efe2acd0b8cfef98c5e61cd1a7", func := "ceroplast/ceroplastlaw03.HeadKnown", spec := "headKnown", unfollowed := true, recurses := true, plainKeys := false, apart := false, narrowed := true }
def HeadKnownUptoSaid : Prop := headKnownUptoRow.holds Tryz.pinned (OpenSpec.upto headKnownSpec)

/-- 'ceroplastlaw03.HeadTrue', WHERE WHAT IT READS IS OF BULK AT MOST 1048576: true; the input reads as it did. -/
def headTrueUptoRow : OpenClaim := { program := "ytemgodefhcbleaagreat", sum := "2430f19d99c9efabe19a2de7f5acdc2a4fd7d8efe2acd0b8cfef98c5e61cd1a7", func := "ceroplast/ceroplastlaw03.HeadTrue", spec := "headTrue", unfollowed := true, recurses := true, plainKeys := false, apart := false, narrowed := true }
def HeadTrueUptoSaid : Prop := headTrueUptoRow.holds Tryz.pinned (OpenSpec.upto headTrueSpec)

/-- 'ceroplastlaw03.HeadNoMore', WHERE WHAT IT READS IS OF BULK AT MOST 1048576: true; the input reads as it did. -/
def headNoMoreUptoRow : OpenClaim := { program := "ytemgodefhcbleaagreat", sum := "2430f19d99c9efabe19a2de7f5acdc2a4fd7d8efe2acd0b8cfef98c5e61cd1a7", func := "ceroplast/ceroplastlaw03.HeadNoMore", spec := "headNoMore", unfollowed := true, recurses := true, plainKeys := false, apart := false, narrowed := true }
def HeadNoMoreUptoSaid : Prop := headNoMoreUptoRow.holds Tryz.pinned (OpenSpec.upto headNoMoreSpec)

/-- 'ceroplastlaw03.HeadFewest', WHERE WHAT IT READS IS OF BULK AT MOST 1048576: true; the input reads as it did. -/
def headFewestUptoRow : OpenClaim := { program := "ytemgodefhcbleaagreat", sum := "2430f19d99c9efabe19a2de7f5acdc2a4fd7d8efe2acd0b8cfef98c5e61cd1a7", func := "ceroplast/ceroplastlaw03.HeadFewest", spec := "headFewest", unfollowed := true, recurses := true, plainKeys := false, apart := false, narrowed := true }
def HeadFewestUptoSaid : Prop := headFewestUptoRow.holds Tryz.pinned (OpenSpec.upto headFewestSpec)

/-- 'ceroplastlaw03.HeadEach', WHERE WHAT IT READS IS OF BULK AT MOST 1048576: true; the input reads as it did. -/
def headEachUptoRow : OpenClaim := { program := "ytemgodefhcbleaagreat", sum := "2430f19d99c9efabe19a2de7f5acdc2a4fd7d8efe2acd0b8cfef98c5e61cd1a7", func := "ceroplast/ceroplastlaw03.HeadEach", spec := "headEach", unfollowed := true, recurses := true, plainKeys := false, apart := false, narrowed := true }
def HeadEachUptoSaid : Prop := headEachUptoRow.holds Tryz.pinned (OpenSpec.upto headEachSpec)

/-- 'ceroplastlaw03.HeadEver', WHERE WHAT IT READS IS OF BULK AT MOST 1048576: true; the input reads as it did. -/
def headEverUptoRow : OpenClaim := { program := "ytemgodefhcbleaagreat", sum := "2430f19d99c9efabe19a2de7f5acdc2a4fd7d8efe2acd0b8cfef98c5e61cd1a7", func := "ceroplast/ceroplastlaw03.HeadEver", spec := "headEver", unfollowed := true, recurses := true, plainKeys := false, apart := false, narrowed := true }
def HeadEverUptoSaid : Prop := headEverUptoRow.holds Tryz.pinned (OpenSpec.upto headEverSpec)

/-- 'ceroplastlaw03.HeadBetween', WHERE WHAT IT READS IS OF BULK AT MOST 1048576: true; the input reads as it did. -/
def headBetweenUptoRow : OpenClaim := { program := "ytemgodefhcbleaagreat", sum := "2430f19d99c9efabe19a2de7f5acdc2a4fd7d8efe2acd0b8cfef98c5e61cd1a7", func := "ceroplast/ceroplastlaw03.HeadBetween", spec := "headBetween", unfollowed := true, recurses := true, plainKeys := false, apart := false, narrowed := true }
def HeadBetweenUptoSaid : Prop := headBetweenUptoRow.holds Tryz.pinned (OpenSpec.upto headBetweenSpec)

/-- 'ceroplastlaw03.HeadBack', WHERE WHAT IT READS IS OF BULK AT MOST 1048576: true; the input reads as it did. -/
def headBackUptoRow : OpenClaim := { program := "ytemgodefhcbleaagreat", sum := "2430f19d99c9efabe19a2de7f5acdc2a4fd7d8efe2acd0b8cfef98c5e61cd1a7", func := "ceroplast/ceroplastlaw03.HeadBack", spec := "headBack", unfollowed := true, recurses := true, plainKeys := false, apart := false, narrowed := true }
def HeadBackUptoSaid : Prop := headBackUptoRow.holds Tryz.pinned (OpenSpec.upto headBackSpec)

/-- 'ceroplastlaw03.HeadApart', WHERE WHAT IT READS IS OF BULK AT MOST 1048576: true; the input reads as it did. -/
def headApartUptoRow : OpenClaim := { program := "ytemgodefhcbleaagreat", sum := "2430f19d99c9efabe19a2de7f5acdc2a4fd7d8efe2acd0b8cfef98c5e61cd1a7", func := "ceroplast/ceroplastlaw03.HeadApart", spec := "headApart", unfollowed := true, recurses := true, plainKeys := false, apart := false, narrowed := true }
def HeadApartUptoSaid : Prop := headApartUptoRow.holds Tryz.pinned (OpenSpec.upto headApartSpec)

end Rows
end Go.Proofs.YtemgodefhcbleaaGreat
