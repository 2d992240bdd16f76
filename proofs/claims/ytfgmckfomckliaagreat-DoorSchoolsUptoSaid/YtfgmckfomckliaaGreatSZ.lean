/-
  DoorSchools: for every case of bulk at most 1048576 the law returns true, and the arguments read as they did. Conditions: none beyond that bound.
-/
import Derived.Test.YtfgmckfomckliaaGreatS01
set_option maxRecDepth 100000
set_option linter.unusedSimpArgs false
set_option linter.unusedVariables false
namespace Go.Proofs.YtfgmckfomckliaaGreat.doorSchools
open Ab Go Go.ChangeShapes Go.WideShapes Go.RowKit Go.ChangeAt
theorem arg_d2u8 {W : World} {H : Type} {enc : TypeId × Value → H} {base : Nat} {v : Value} {d : DataW H} {ps : List MemPlace} (hok : Value.okWide Tryz.prog W .any base 80 v) (h : DataW.Trod enc Tryz.prog W 0 (fun _ => true) true 80 v d ps) (_hb : Rows.uptoBulk d ≤ 1048576) : ∃ n : Nat → Int, (∀ i, i < 2 → 0 ≤ n i ∧ n i ≤ 255) ∧ Rel (GW W) [] (.arr 1 2 (rowsFn tu8 n)) v := by
  simp only [Value.okWide, Tryz.underlying80] at hok
  obtain ⟨cs, rfl, hsz, -⟩ := hok
  obtain ⟨fuel, hn⟩ := h
  obtain ⟨xs, m, -, -, hl, hlen, hf⟩ := DataW.trod_array Tryz.underlying80 hn
  have hc : Tryz.prog.cellsOf 5 = 1 := by kernel_rfl
  have hc2 : Tryz.prog.cellsOf 80 = 2 := by kernel_rfl
  have hs2 : cs.size = 2 := by rw [hsz, hc2]
  have el : ∀ i, i < 2 → ∃ n, cs.getD i Go.undef = .int .u8 n ∧ 0 ≤ n ∧ n ≤ 255 := fun i hi => by
    have h1 := hf i hi
    have hx : xs[i]? = some xs[i] := List.getElem?_eq_getElem (by omega)
    rw [hx, hc, Nat.mul_one] at h1
    obtain ⟨n, h2, -, hw⟩ := DataW.trod_int Tryz.underlying5 h1
    refine ⟨n, ?_, by simpa [Lit.wf, IntKind.min, IntKind.max, IntKind.signed, IntKind.bits] using hw⟩
    have h3 : ((cs.toList.drop i).take 1)[0]? = some (.int .u8 n) := by
      have e : (Value.agg cs).cells.toList = cs.toList := rfl
      rw [e] at h2; rw [h2]; rfl
    rw [List.getElem?_take_of_lt (by omega), List.getElem?_drop, Nat.add_zero, Array.getElem?_toList] at h3
    rw [Array.getD_eq_getD_getElem?, h3]; rfl
  obtain ⟨n, hn⟩ : ∃ n : Nat → Int, ∀ i, i < 2 → cs.getD i Go.undef = .int .u8 (n i) ∧ 0 ≤ n i ∧ n i ≤ 255 := ⟨fun i => if h : i < 2 then (el i h).choose else 0, fun i hi => by have := (el i hi).choose_spec; simpa only [hi, dif_pos] using this⟩
  refine ⟨n, fun i hi => (hn i hi).2, .arr (by rw [hs2]) fun r j hr hj => ?_⟩
  obtain rfl : j = 0 := by omega
  rw [Nat.mul_one, Nat.add_zero, (hn r hr).1]
  exact .int _ _
theorem contract (H : Type) (enc : TypeId × Value → H) (W : World) (base : Nat) (args : Array Value) (ds gs : List (DataW H)) (before : List MemPlace)
    (hval : ∀ (j : Nat) t v, Tryz.f9.params[j]? = some t → args[j]? = some v → Value.okWide Tryz.prog W .any base t v)
    (hW : DataW.Whole enc Tryz.prog Tryz.f9.params.toList Rows.doorSchoolsSpec.vars false W args.toList ds gs before) (hk : Rows.uptoSmall H (ds ++ gs) = true) :
    Calls Tryz.prog 9 args W fun e W' => ∃ v, e = .returned v ∧ Rows.doorSchoolsSpec.post enc Tryz.prog Tryz.f9 false true false false W args v W' := by
  have hW' := hW
  obtain ⟨p, q, hA0, hV, rfl, hfz, hnd⟩ := hW'
  have hA : DataW.TrodAll enc Tryz.prog W 0 (fun _ => true) true Tryz.f9.params.toList args.toList ds p := hA0
  rw [Tryz.params9] at hA hval
  obtain ⟨v0, vs0, d0, ds0, p0, q0, hargs, rfl, rfl, h0, r0⟩ := trodAll_cons hA
  obtain ⟨v1, vs1, d1, ds1, p1, q1, rfl, rfl, rfl, h1, r1⟩ := trodAll_cons r0
  obtain ⟨v2, vs2, d2, ds2, p2, q2, rfl, rfl, rfl, h2, r2⟩ := trodAll_cons r1
  obtain ⟨rfl, rfl, rfl⟩ := trodAll_nil r2
  obtain rfl : args = #[v0, v1, v2] := by cases args; simp_all
  obtain ⟨rfl, rfl⟩ := trodVars_none hV
  have hb : Rows.uptoBulkAll ([d0, d1, d2] ++ []) ≤ 1048576 := of_decide_eq_true hk
  simp only [List.append_nil, Rows.uptoBulkAll] at hb
  obtain ⟨x0, b0, hx0⟩ := arg_book (hval 0 25 v0 rfl rfl) h0 (by omega)
  obtain ⟨x1, rfl, -, -, w1⟩ := open_int Tryz.underlying5 (hval 1 5 v1 rfl rfl) h1
  have b1 : 0 ≤ x1 ∧ x1 ≤ 255 := by simpa [Lit.wf, IntKind.min, IntKind.max, IntKind.signed, IntKind.bits] using w1
  obtain ⟨x2, b2, hx2⟩ := arg_d2u8 (hval 2 80 v2 rfl rfl) h2 (by omega)
  refine bridge hW (c9 x0 x1 x2 b1 b2 b0) rfl (fun j hj => ?_) rfl rfl (by kernel_rfl) Tryz.underlying4 laidOut (by rw [Tryz.params9]; decide +kernel)
  match j, hj with
  | 0, _ => exact hx0
  | 1, _ => exact .int _ _
  | 2, _ => exact hx2
theorem lifted (os : Os) (started : os.Started) (H : Type) (enc : TypeId × Value → H) (F : Stop.Interp) :
    ReturnsInHanded {} Tryz.checked os 9 .any ((Rows.OpenSpec.upto Rows.doorSchoolsSpec).pre6 enc Tryz.prog Tryz.f9 Rows.doorSchoolsUptoRow.domain false) (((Rows.OpenSpec.upto Rows.doorSchoolsSpec).at F).post enc Tryz.prog Tryz.f9 false true false false) := by
  refine returnsInHanded_of_cond (C := Tryz.checked) (s := Rows.OpenSpec.upto Rows.doorSchoolsSpec) (k := Rows.uptoSmall) rfl own started (by kernel_rfl) Tryz.func9
    (OpenSpec.witness (enc := enc) (C := Tryz.checked) (s := Rows.OpenSpec.upto Rows.doorSchoolsSpec) (k := Rows.uptoSmall) rfl false ⟨#[], #[noBook, .int .u8 0, .agg #[.int .u8 0, .int .u8 0]], []⟩ 8 (by kernel_rfl) (by kernel_rfl) (by kernel_rfl)
      (x := ([noBookD, .lit (.int .u8 0), .agg [.lit (.int .u8 0), .lit (.int .u8 0)]], [], [])) (by kernel_rfl) rfl (by kernel_rfl)) ?_
  intro W base args ds gs before hval hW _ hk _
  exact contract H enc W base args ds gs before hval hW hk
theorem named : Tryz.pinned.checked.prog.funcNamed Rows.doorSchoolsUptoRow.func = some 9 := by kernel_rfl
theorem facts : joinedFacts Tryz.pinned.checked.prog 9 Tryz.f9 (Rows.OpenSpec.upto Rows.doorSchoolsSpec).bare Rows.doorSchoolsUptoRow = true := by kernel_rfl
theorem inst : Tryz.f9.isInstance Tryz.pinned.checked.prog Rows.doorSchoolsUptoRow.origin Rows.doorSchoolsUptoRow.targs := of_decide_eq_true (by kernel_rfl)
theorem wraps : Tryz.f9.isWrapper Tryz.pinned.checked.prog Rows.doorSchoolsUptoRow.wrapper Rows.doorSchoolsUptoRow.mainSum := by
  unfold Func.isWrapper; first | (rw [if_pos (by decide +kernel)]; kernel_rfl) | (rw [if_neg (by decide +kernel)]; exact ⟨rfl, rfl⟩)
theorem proved : Rows.DoorSchoolsUptoSaid :=
  OpenClaim.holds_of_cond 9 Tryz.f9 rfl rfl rfl rfl rfl rfl rfl ⟨rfl, rfl, rfl, rfl, rfl⟩ rfl rfl rfl rfl rfl named Tryz.func9 facts inst wraps (fun os started H enc _ F => lifted os started H enc F)
end Go.Proofs.YtfgmckfomckliaaGreat.doorSchools
