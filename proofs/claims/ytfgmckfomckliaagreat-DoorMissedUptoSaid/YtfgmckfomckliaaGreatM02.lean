/-
  Part of the proof of DoorMissed. Conditions: those that stand in each theorem.
-/
import Derived.Test.YtfgmckfomckliaaGreatM01
set_option linter.unusedSimpArgs false
set_option linter.unusedVariables false
set_option maxRecDepth 100000
namespace Go.Proofs.YtfgmckfomckliaaGreat
open Ab Go
noncomputable section
theorem set_self {τ : Type} (d : τ) (l : List τ) (i : Nat) (h : i < l.length) : l.set i (l.getD i d) = l := by
  apply List.ext_getElem?
  intro j
  by_cases e : i = j
  · subst e; rw [List.getElem?_set_self h, List.getD_eq_getElem?_getD, List.getElem?_eq_getElem h]; rfl
  · rw [List.getElem?_set_ne e]
theorem miss_zero {b : Book} {d : Int} (hd : 0 ≤ d ∧ d < b.days.length) : missingR b d 0 = b := by
  have h1 : ∀ c : Count, missC 0 c = c := fun c => by unfold missC; rw [Int.add_zero]
  have h2 : ∀ D : Day, missD 0 D = D := fun D => by
    unfold missD
    have : D.rooms.map (missC 0) = D.rooms := by
      rw [List.map_congr_left (g := id) (fun c _ => h1 c), List.map_id]
    rw [h1, this]
  unfold missingR
  rw [h2]
  have := set_self zDay b.days d.toNat (by omega)
  unfold dayOf
  rw [this]
theorem first_err {b : Book} {d : Int} (ha : askedR b d = 0) : ((firstT b d).2.2 = 0 ∧ explainsR b d [] = true ∧ firstT b d = (bestD (agreeD b d), ((agreeD b d).length : Int), 0) ∧ 0 < (agreeD b d).length) ∨ ((firstT b d).2.2 = 8 ∧ explainsR b d [] = false ∧ firstT b d = (zTruth, 0, 8) ∧ (agreeD b d).length = 0) := by
  rcases first_how b d with ⟨f, h1, h2, h3⟩ | ⟨_, h0, h1⟩
  · obtain ⟨rfl, h4⟩ := h3 ha
    refine .inr ⟨by rw [h1], ?_, h1, h4⟩
    cases hx : explainsR b d [] with
    | false => rfl
    | true => have := explains_nil.1 hx; omega
  · exact .inl ⟨by rw [h1], explains_nil.2 h0, h1, h0⟩
theorem firstI_least {p : Nat → Bool} : ∀ {n k i : Nat}, firstI p k ((List.range' k n)) = some i → p i = true ∧ k ≤ i ∧ i < k + n ∧ ∀ j, k ≤ j → j < i → p j = false
  | 0, k, i, h => by cases h
  | n + 1, k, i, h => by
    rw [List.range'_succ] at h
    simp only [firstI] at h
    by_cases hx : p k = true
    · rw [if_pos hx] at h; cases h
      exact ⟨hx, Nat.le_refl _, by omega, fun j h1 h2 => by omega⟩
    · rw [if_neg hx] at h
      obtain ⟨h1, h2, h3, h4⟩ := firstI_least h
      refine ⟨h1, by omega, by omega, fun j h5 h6 => ?_⟩
      rcases Nat.eq_or_lt_of_le h5 with e | e
      · subst e; exact Bool.eq_false_iff.2 hx
      · exact h4 j (by omega) h6
theorem missed_how {b : Book} {d : Int} (ha : askedR b d = 0) : (∃ m : Nat, m < 61 ∧ missedR b d = ((m : Int), 0) ∧ explainsR (missingR b d m) d [] = true ∧ ∀ j : Nat, j < m → explainsR (missingR b d j) d [] = false) ∨
    (missedR b d = (0, 9) ∧ ∀ j : Nat, j < 61 → explainsR (missingR b d j) d [] = false) := by
  unfold missedR
  rw [if_neg (fun q => q ha)]
  cases hf : firstI (fun (m : Nat) => explainsR (missingR b d m) d []) 0 (List.range 61) with
  | some m =>
    rw [List.range_eq_range'] at hf
    obtain ⟨h1, -, h3, h4⟩ := firstI_least hf
    exact .inl ⟨m, by omega, rfl, h1, fun j hj => h4 j (Nat.zero_le _) hj⟩
  | none =>
    refine .inr ⟨rfl, fun j hj => ?_⟩
    have := any_of_none hf
    rw [List.any_eq_false] at this
    exact Bool.eq_false_iff.2 (this j (List.mem_range.2 hj))
theorem noDays {b : Book} (h : ¬ (validR b = true ∧ 0 < b.days.length)) : validR b = false ∨ (validR b = true ∧ b.days.length = 0) := by
  cases hv : validR b with
  | false => exact .inl rfl
  | true => exact .inr ⟨rfl, by have : ¬ 0 < b.days.length := fun q => h ⟨hv, q⟩; omega⟩
inductive P10
  | e
inductive R10
  | r0 (r0 : Bool)
noncomputable def T10 (b : Book) (w : Int) : P10 → Tr P10 R10
  | .e => let c2 := w.tmod (b.days.length : Int); let c4 : Tr P10 R10 := .call 31 [.agg (cC b), iI 0] (.tuple [iI ((missedR b 0).1), iI ((missedR b 0).2)]) true true (.br ((missedR b 0).2 != (0 : Int)) (.call 21 [] (.bool true) true true (.out (.r0 true))) (.out (.r0 false))); let c5 : Tr P10 R10 := .lit true (.lit true (.lit true (.lit true (.out (.r0 false))))); let c6 := missedR b c2; let c1 : Tr P10 R10 := .br (c6.2 != (0 : Int)) (.call 50 [.agg (cC b), iI c2, iI 60] (.agg [iI ((missingR b c2 60).price), tRoom.lst ((missingR b c2 60).rooms), tDay.lst ((missingR b c2 60).days)]) true true (.call 47 [.agg [iI ((missingR b c2 60).price), tRoom.lst ((missingR b c2 60).rooms), tDay.lst ((missingR b c2 60).days)], iI c2, .nils] (.bool (explainsR (missingR b c2 60) c2 ([]))) true true (.br (!(explainsR (missingR b c2 60) c2 ([]))) (.call 21 [] (.bool true) true true (.out (.r0 true))) (.out (.r0 false))))) (.call 50 [.agg (cC b), iI c2, iI (c6.1)] (.agg [iI ((missingR b c2 (c6.1)).price), tRoom.lst ((missingR b c2 (c6.1)).rooms), tDay.lst ((missingR b c2 (c6.1)).days)]) true true (.call 47 [.agg [iI ((missingR b c2 (c6.1)).price), tRoom.lst ((missingR b c2 (c6.1)).rooms), tDay.lst ((missingR b c2 (c6.1)).days)], iI c2, .nils] (.bool (explainsR (missingR b c2 (c6.1)) c2 ([]))) true true (.br (explainsR (missingR b c2 (c6.1)) c2 ([])) (.br (c6.1 == (0 : Int)) (.lit true (.lit true (.call 21 [] (.bool true) true true (.out (.r0 true))))) (.need (inR .i64 (c6.1 - (1 : Int))) (.call 50 [.agg (cC b), iI c2, iI (c6.1 - (1 : Int))] (.agg [iI ((missingR b c2 (c6.1 - (1 : Int))).price), tRoom.lst ((missingR b c2 (c6.1 - (1 : Int))).rooms), tDay.lst ((missingR b c2 (c6.1 - (1 : Int))).days)]) true true (.call 47 [.agg [iI ((missingR b c2 (c6.1 - (1 : Int))).price), tRoom.lst ((missingR b c2 (c6.1 - (1 : Int))).rooms), tDay.lst ((missingR b c2 (c6.1 - (1 : Int))).days)], iI c2, .nils] (.bool (explainsR (missingR b c2 (c6.1 - (1 : Int))) c2 ([]))) true true (.lit true (.br (!(explainsR (missingR b c2 (c6.1 - (1 : Int))) c2 ([]))) (.call 21 [] (.bool true) true true (.out (.r0 true))) (.out (.r0 false)))))))) (.lit false (.lit false (.out (.r0 false))))))); let c7 := firstT b c2; let c3 : Tr P10 R10 := .br (decide (c6.1 < (0 : Int))) (.lit true (.lit true (.lit true (.out (.r0 false))))) (.br (decide (c6.1 > (60 : Int))) (.lit true (.lit true (.out (.r0 false)))) (.br (c6.2 == (0 : Int)) (.lit false (.br (!((c6.1 == (0 : Int)) == (c7.2.2 == (0 : Int)))) (.out (.r0 false)) c1)) (.lit false (.br (!(false == (c7.2.2 == (0 : Int)))) (.out (.r0 false)) c1)))); (.call 36 [.agg (cC b)] (.bool (validR b)) true true (.br (!(validR b)) (.lit true c4) (.br ((b.days.length : Int) == (0 : Int)) c4 (.need (inR .i64 w) (.need (decide ((b.days.length : Int) ≠ 0)) (.call 31 [.agg (cC b), iI c2] (.tuple [iI (c6.1), iI (c6.2)]) true true (.call 22 [.agg (cC b), iI c2] (.tuple [.agg [iI (c7.1.adults), iI (c7.1.children), tint.lst (c7.1.rooms)], iI (c7.2.1), iI (c7.2.2)]) true true (.br (c6.2 != (0 : Int)) (.br (c6.2 != (9 : Int)) (.lit true (.lit true c5)) (.lit true (.br (c6.1 != (0 : Int)) c5 c3))) (.lit false (.lit false c3))))))))))
noncomputable def g10 (b : Book) (w : Int) : P10 → List Item × St
  | .e => bd Tryz.f10 [.agg (cC b), .int .u8 w] 112
noncomputable def n10 : R10 → Exit × St
  | .r0 r0 => (.ret, ⟨mk 114 [(4, .bool r0)], [], []⟩)
noncomputable def v10 : R10 → V
  | .r0 r0 => .bool r0
theorem s10 (b : Book) (w : Int) : Sm 0 (g10 b w) (T10 b w) (n10)
  | .e => ⟨400, by kernel_rfl⟩
theorem q10 : ∀ r, bodyQ Tryz.prog Tryz.f10 (· = v10 r) (n10 r).1 (n10 r).2
  | .r0 r0 => bq (.bool r0) (by kernel_rfl)
theorem w10 (b : Book) (w : Int) {post : V → Prop} (h : WQ (T10 b w) v10 post .e) : PC 10 [.agg (cC b), .int .u8 w] post :=
  PCalls.wq Tryz.func10 (s10 b w) q10 h
set_option maxHeartbeats 4000000 in
theorem c10 (b : Book) (w : Int) (hw : 0 ≤ w ∧ w ≤ 255) (hs : SmB b) : PC 10 [.agg (tBook.cells b), .int .u8 w] (· = .bool true) := by
  have hcv : inR .i64 w = true := inR64 (by omega) (by omega)
  by_cases hg : validR b = true ∧ 0 < b.days.length
  · obtain ⟨hv, hl⟩ := hg
    have hok := valid_ok hv
    have hz : ¬ (b.days.length : Int) = 0 := by omega
    have hd := which_in hw.1 hl
    generalize hdd : w.tmod (b.days.length : Int) = d at *
    have ha := asked_in hv hd
    have ht := tight (asked_chk ha)
    have k50 := fun (m : Int) hm => c50 b d m hok hd hm
    have k47 := fun (m : Int) (hm : 0 ≤ m ∧ m ≤ 60) => c47n (missingR b d m) d (miss_ok hok ht hd hm) (by rw [miss_len]; exact hd)
    have h0 := miss_zero hd
    have k31 := c31 b d hs
    have k22 := c22 b d hs
    rcases missed_how ha with ⟨m, hm, e, h1, h2⟩ | ⟨e, h1⟩
    · cases m with
      | zero =>
        have e' : missedR b d = (0, 0) := e
        have h1' : explainsR (missingR b d 0) d [] = true := h1
        have hf : (firstT b d).2.2 = 0 := by
          rcases first_err ha with q | q
          · exact q.1
          · rw [h0] at h1'; rw [q.2.1] at h1'; cases h1'
        have k0 := k50 0 (by omega)
        have k1 := k47 0 (by omega)
        have e1 : (missedR b d).1 = 0 := by rw [e']
        have e2 : (missedR b d).2 = 0 := by rw [e']
        rw [e1, e2] at k31
        rw [hf] at k22
        clear h1 e e' h2
        refine w10 b w (WP.step ?_)
        simp only [T10, Go, Ends', v10, Tr.sure, SS, hz, hdd, e1, e2, hf]
        repeat' with_reducible first | intro _ | apply And.intro
        all_goals first | exact (c36 b) | exact k31 | exact k22 | exact k0 | exact k1 | exact c21 | (simp [hv, hcv, h1', Go, Ends', v10, -List.getD_eq_getElem?_getD, *]; done) | (simp_all [hv, hcv, h1', Go, Ends', v10, -List.getD_eq_getElem?_getD]; done)
      | succ m =>
        have h3 : explainsR (missingR b d (m : Int)) d [] = false := h2 m (by omega)
        have hf : (firstT b d).2.2 = 8 := by
          rcases first_err ha with q | q
          · have := h2 0 (by omega)
            rw [show ((0 : Nat) : Int) = 0 from rfl, h0, q.2.1] at this; cases this
          · exact q.1
        have hms : (((m + 1 : Nat) : Int)) = (m : Int) + 1 := by omega
        rw [hms] at e h1
        have k0 := k50 ((m : Int) + 1) (by omega)
        have k1 := k47 ((m : Int) + 1) (by omega)
        have k2 := k50 (m : Int) (by omega)
        have k3 := k47 (m : Int) (by omega)
        have hx : (m : Int) + 1 - 1 = m := by omega
        have hy : ¬ (m : Int) + 1 = 0 := by omega
        have hy2 : ¬ (m : Int) + 1 < 0 := by omega
        have hy3 : ¬ (60 : Int) < (m : Int) + 1 := by omega
        have r1 : inR .i64 ((m : Int) + 1 - 1) = true := inR64 (by omega) (by omega)
        rw [← hx] at k2 k3 h3
        have e1 : (missedR b d).1 = (m : Int) + 1 := by rw [e]
        have e2 : (missedR b d).2 = 0 := by rw [e]
        rw [e1, e2] at k31
        rw [hf] at k22
        clear e hx hms
        generalize (m : Int) + 1 = M at *
        clear h2
        have hyb : (M == 0) = false := beq_eq_false_iff_ne.2 hy
        refine w10 b w (WP.step ?_)
        simp only [T10, Go, Ends', v10, Tr.sure, SS, hz, hdd, e1, e2, hf, hyb, hy, hy2, hy3]
        repeat' with_reducible first | intro _ | apply And.intro
        all_goals first | exact (c36 b) | exact k31 | exact k22 | exact k0 | exact k1 | exact k2 | exact k3 | exact c21 | (simp [hv, hcv, r1, h1, h3, Go, Ends', v10, -List.getD_eq_getElem?_getD, *]; done) | (simp_all [hv, hcv, r1, h1, h3, Go, Ends', v10, -List.getD_eq_getElem?_getD]; done)
    · have hf : (firstT b d).2.2 = 8 := by
        rcases first_err ha with q | q
        · have := h1 0 (by omega)
          rw [show ((0 : Nat) : Int) = 0 from rfl, h0, q.2.1] at this; cases this
        · exact q.1
      have h3 : explainsR (missingR b d 60) d [] = false := h1 60 (by omega)
      have k0 := k50 60 (by omega)
      have k1 := k47 60 (by omega)
      have e1 : (missedR b d).1 = 0 := by rw [e]
      have e2 : (missedR b d).2 = 9 := by rw [e]
      rw [e1, e2] at k31
      rw [hf] at k22
      clear e h1
      refine w10 b w (WP.step ?_)
      simp only [T10, Go, Ends', v10, Tr.sure, SS, hz, hdd, e1, e2, hf]
      repeat' with_reducible first | intro _ | apply And.intro
      all_goals first | exact (c36 b) | exact k31 | exact k22 | exact k0 | exact k1 | exact c21 | (simp [hv, hcv, h3, Go, Ends', v10, -List.getD_eq_getElem?_getD, *]; done) | (simp_all [hv, hcv, h3, Go, Ends', v10, -List.getD_eq_getElem?_getD]; done)
  · have hn := asked_no hg
    have e : missedR b 0 = (0, askedR b 0) := by unfold missedR; rw [if_pos hn]
    rcases noDays hg with hv | ⟨hv, hl⟩
    · refine w10 b w (WP.step ?_)
      simp only [T10, Go, Ends', v10, Tr.sure, SS]
      repeat' with_reducible first | intro _ | apply And.intro
      all_goals first | exact (c36 b) | exact (c31 b _ hs) | exact c21 | (simp [hv, e, hn, Go, Ends', v10, -List.getD_eq_getElem?_getD, *]; done) | (simp_all [hv, e, hn, Go, Ends', v10, -List.getD_eq_getElem?_getD]; done)
    · refine w10 b w (WP.step ?_)
      simp only [T10, Go, Ends', v10, Tr.sure, SS, hl]
      repeat' with_reducible first | intro _ | apply And.intro
      all_goals first | exact (c36 b) | exact (c31 b _ hs) | exact c21 | (simp_all [hv, e, hn, hl, Go, Ends', v10, -List.getD_eq_getElem?_getD]; done)
end
end Go.Proofs.YtfgmckfomckliaaGreat
