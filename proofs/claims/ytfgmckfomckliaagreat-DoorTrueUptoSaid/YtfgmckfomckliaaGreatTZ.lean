/-
  DoorTrue: for every case of bulk at most 1048576 the law returns true, and the arguments read as they did. Conditions: none beyond that bound.
-/
import Derived.Test.YtfgmckfomckliaaGreatT02
set_option maxRecDepth 100000
set_option linter.unusedSimpArgs false
set_option linter.unusedVariables false
namespace Go.Proofs.YtfgmckfomckliaaGreat.doorTrue
open Ab Go Go.ChangeShapes Go.WideShapes Go.RowKit Go.ChangeAt
theorem arg_u16s {W : World} {H : Type} {enc : TypeId × Value → H} {base : Nat} {v : Value} {d : DataW H} {ps : List MemPlace} (hok : Value.okWide Tryz.prog W .any base 57 v) (h : DataW.Trod enc Tryz.prog W 0 (fun _ => true) true 57 v d ps) (hb : Rows.uptoBulk d ≤ 1048576) : ∃ l : List Int, U16 l ∧ Rel (GW W) [] (tu16.lst l) v := by
  have o16 : Opens Tryz.prog W (fun vs => ∃ n, (0 ≤ n ∧ n ≤ 65535) ∧ vs = tu16.cells n) 180 := fun H enc n cs x h _ => by
    obtain ⟨m, rfl, -, hw⟩ := DataW.trod_int Tryz.underlying180 h
    refine ⟨[.int .u16 m], ⟨m, by simpa [Lit.wf, IntKind.min, IntKind.max, IntKind.signed, IntKind.bits] using hw, rfl⟩, rfl, fun j hj => ?_⟩
    obtain rfl : j = 0 := by simpa using hj
    exact .int .u16 m
  have os := Opens.sliceP (W := W) (E := tu16) Tryz.underlying57 o16 (by kernel_rfl) (by decide) fun _ => rfl
  have hv : v.cells.toList = [v] := by
    simp only [Value.okWide, Tryz.underlying57, Cell.okWide, Cell.ok] at hok
    cases v <;> first | rfl | simp at hok
  obtain ⟨n, hn⟩ := h
  rw [hv] at hn
  obtain ⟨vs, ⟨l, -, hu, rfl⟩, -, h3⟩ := os H enc n _ _ hn hb
  exact ⟨l, hu, by simpa using h3 0 (by simp)⟩
theorem contract (H : Type) (enc : TypeId × Value → H) (W : World) (base : Nat) (args : Array Value) (ds gs : List (DataW H)) (before : List MemPlace)
    (hval : ∀ (j : Nat) t v, Tryz.f6.params[j]? = some t → args[j]? = some v → Value.okWide Tryz.prog W .any base t v)
    (hW : DataW.Whole enc Tryz.prog Tryz.f6.params.toList Rows.doorTrueSpec.vars false W args.toList ds gs before) (hk : Rows.uptoSmall H (ds ++ gs) = true) :
    Calls Tryz.prog 6 args W fun e W' => ∃ v, e = .returned v ∧ Rows.doorTrueSpec.post enc Tryz.prog Tryz.f6 false true false false W args v W' := by
  have hW' := hW
  obtain ⟨p, q, hA0, hV, rfl, hfz, hnd⟩ := hW'
  have hA : DataW.TrodAll enc Tryz.prog W 0 (fun _ => true) true Tryz.f6.params.toList args.toList ds p := hA0
  rw [Tryz.params6] at hA hval
  obtain ⟨v0, vs0, d0, ds0, p0, q0, hargs, rfl, rfl, h0, r0⟩ := trodAll_cons hA
  obtain ⟨v1, vs1, d1, ds1, p1, q1, rfl, rfl, rfl, h1, r1⟩ := trodAll_cons r0
  obtain ⟨v2, vs2, d2, ds2, p2, q2, rfl, rfl, rfl, h2, r2⟩ := trodAll_cons r1
  obtain ⟨rfl, rfl, rfl⟩ := trodAll_nil r2
  obtain rfl : args = #[v0, v1, v2] := by cases args; simp_all
  obtain ⟨rfl, rfl⟩ := trodVars_none hV
  have hb : Rows.uptoBulkAll ([d0, d1, d2] ++ []) ≤ 1048576 := of_decide_eq_true hk
  simp only [List.append_nil, Rows.uptoBulkAll] at hb
  obtain ⟨x0, b0, hx0⟩ := arg_book (hval 0 25 v0 rfl rfl) h0 (by omega)
  obtain ⟨x1, rfl, -, -, w1⟩ := open_int Tryz.underlying5 (hval 1 5 v1 rfl rfl) h1
  have b1 : 0 ≤ x1 ∧ x1 ≤ 255 := by simpa [Lit.wf, IntKind.min, IntKind.max, IntKind.signed, IntKind.bits] using w1
  obtain ⟨x2, b2, hx2⟩ := arg_u16s (hval 2 57 v2 rfl rfl) h2 (by omega)
  refine bridge hW (c6 x0 x1 x2 b1 b2 b0) rfl (fun j hj => ?_) rfl rfl (by kernel_rfl) Tryz.underlying4 laidOut (by rw [Tryz.params6]; decide +kernel)
  match j, hj with
  | 0, _ => exact hx0
  | 1, _ => exact .int _ _
  | 2, _ => exact hx2
theorem lifted (os : Os) (started : os.Started) (H : Type) (enc : TypeId × Value → H) (F : Stop.Interp) :
    ReturnsInHanded {} Tryz.checked os 6 .any ((Rows.OpenSpec.upto Rows.doorTrueSpec).pre6 enc Tryz.prog Tryz.f6 Rows.doorTrueUptoRow.domain false) (((Rows.OpenSpec.upto Rows.doorTrueSpec).at F).post enc Tryz.prog Tryz.f6 false true false false) := by
  refine returnsInHanded_of_cond (C := Tryz.checked) (s := Rows.OpenSpec.upto Rows.doorTrueSpec) (k := Rows.uptoSmall) rfl own started (by kernel_rfl) Tryz.func6
    (OpenSpec.witness (enc := enc) (C := Tryz.checked) (s := Rows.OpenSpec.upto Rows.doorTrueSpec) (k := Rows.uptoSmall) rfl false ⟨#[], #[noBook, .int .u8 0, .slice none 0 0], []⟩ 8 (by kernel_rfl) (by kernel_rfl) (by kernel_rfl)
      (x := ([noBookD, .lit (.int .u8 0), .nil], [], [])) (by kernel_rfl) rfl (by kernel_rfl)) ?_
  intro W base args ds gs before hval hW _ hk _
  exact contract H enc W base args ds gs before hval hW hk
theorem named : Tryz.pinned.checked.prog.funcNamed Rows.doorTrueUptoRow.func = some 6 := by kernel_rfl
theorem facts : joinedFacts Tryz.pinned.checked.prog 6 Tryz.f6 (Rows.OpenSpec.upto Rows.doorTrueSpec).bare Rows.doorTrueUptoRow = true := by kernel_rfl
theorem inst : Tryz.f6.isInstance Tryz.pinned.checked.prog Rows.doorTrueUptoRow.origin Rows.doorTrueUptoRow.targs := of_decide_eq_true (by kernel_rfl)
theorem wraps : Tryz.f6.isWrapper Tryz.pinned.checked.prog Rows.doorTrueUptoRow.wrapper Rows.doorTrueUptoRow.mainSum := by
  unfold Func.isWrapper; first | (rw [if_pos (by decide +kernel)]; kernel_rfl) | (rw [if_neg (by decide +kernel)]; exact ⟨rfl, rfl⟩)
theorem proved : Rows.DoorTrueUptoSaid :=
  OpenClaim.holds_of_cond 6 Tryz.f6 rfl rfl rfl rfl rfl rfl rfl ⟨rfl, rfl, rfl, rfl, rfl⟩ rfl rfl rfl rfl rfl named Tryz.func6 facts inst wraps (fun os started H enc _ F => lifted os started H enc F)
end Go.Proofs.YtfgmckfomckliaaGreat.doorTrue
