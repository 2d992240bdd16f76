/-
  Part of the proof of DoorTrue. Conditions: those that stand in each theorem.
-/
import Derived.Test.YtfgmckfomckliaaGreatT01
set_option linter.unusedSimpArgs false
set_option linter.unusedVariables false
set_option maxRecDepth 100000
namespace Go.Proofs.YtfgmckfomckliaaGreat
open Ab Go
noncomputable section
inductive P38
  | e
  | l0 (x0_11 : Int) (a0_5 : List Count)
inductive R38
  | r0 (r0_0 : Int) (r0_1 : List Room) (r0_2 : List Day)
noncomputable def T38 (b : Book) (d : Int) (t : Truth) (x : List Int) : P38 → Tr P38 R38
  | .e => let c1 := b.days.getD (d).toNat tDay.zero; let c2 := rowsOf tDay b.days; let c3 := rowsOf tCount (c1.rooms); let c4 := c1.door.miss + (1 : Int); let c5 := t.adults + t.children; let c6 := (0 + b.days.length) ≤ (0 + b.days.length); (.need ((decide (0 = 0) && decide (0 + b.days.length ≤ 4294967296)) && true) (.scal (fun r => (List.range 5).all fun j => (c2 r j).scalar) (.telb 3 5 (0 + b.days.length) (appC 0 (litC 5 0 []) c2) c2 (.need ((decide (0 ≤ d) && decide (d < ((0 + b.days.length) : Int))) && decide c6) (.need (decide ((d).toNat < (0 + b.days.length)) && decide (0 + 5 ≤ 5)) (.front [(7, 66, [.agg [iI b.price, tRoom.lst b.rooms, .list 5 (0 + b.days.length) c2], iI d], iI (pupilsD b d))] [] ((true && (true && (true && (true && ((inR .i64 c5) && (true && (true && (true && true)))))))) && ((((decide c6) && true) && true) && true)) true (.need (inR .i64 (c5 + (pupilsD b d))) (.front [(2, 90, [tu16.lst x, iI 5], iI (turnR x 5))] [] ((true && (true && (true && (true && (true && (true && ((inR .i64 c4) && ((decide (c4 ≠ 0)) && ((inR .i64 ((c5 + (pupilsD b d)) - ((turnR x 5).tmod c4))) && (true && true)))))))))) && true) true (.need ((decide (0 = 0) && decide (0 + c1.rooms.length ≤ 4294967296)) && true) (.scal (fun r => (List.range 2).all fun j => (c3 r j).scalar) (.telb 5 2 (0 + c1.rooms.length) (appC 0 (litC 2 0 []) c3) c3 (.go (.l0 0 (c1.rooms))))))))))))))
  | .l0 x0_11 a0_5 => let c1 := b.days.getD (d).toNat tDay.zero; let c2 := max 0 (((t.adults + t.children) + (pupilsD b d)) - ((turnR x 5).tmod (c1.door.miss + (1 : Int)))); let c5 := (0 + c1.rooms.length) ≤ (0 + c1.rooms.length); let c6 := (0 + b.days.length) ≤ (0 + b.days.length); let c7 := a0_5.getD (x0_11).toNat tCount.zero; let c8 := (decide (0 ≤ x0_11) && decide (x0_11 < ((0 + c1.rooms.length) : Int))) && decide c5; let c10 := c1.door.miss; let c11 := payR b d t; let c4 := b.days.set ((d).toNat) (⟨c1.schools, (⟨c2, c1.door.miss⟩ : Count), a0_5, c11⟩ : Day); let c12 := c1.schools; let c13 := ([tSchool.lst c12, iI c2, iI c10, tCount.lst a0_5, iI c11] : List V); let c14 := (x0_11).toNat < (0 + c1.rooms.length); let c15 := (decide c6) && true; let c16 := rowsOf tCount a0_5; let c17 := (6 : Int) + x0_11; let c3 := (t.rooms.getD (x0_11).toNat tint.zero) - ((turnR x c17).tmod (c7.miss + (1 : Int))); let c9 := ([iI (max 0 c3)] : List V); let c18 := (⟨(max 0 c3), c7.miss⟩ : Count); let c19 := a0_5.set ((x0_11).toNat) c18; let c20 := rowsOf tDay c4; (.br (decide (x0_11 < ((0 + c1.rooms.length) : Int))) (.front [(11, 90, [tu16.lst x, iI c17], iI (turnR x c17))] [] ((true && (true && (true && (true && (true && (true && ((decide (0 ≤ x0_11) && decide (x0_11 < (t.rooms.length : Int))) && (true && (true && (true && ((inR .i64 c17) && (true && (true && (true && (true && (c8 && (true && ((decide c14 && decide (1 < 2)) && ((inR .i64 (c7.miss + (1 : Int))) && ((decide ((c7.miss + (1 : Int)) ≠ 0)) && ((inR .i64 c3) && (true && true)))))))))))))))))))))) && true) true (.need c8 (.need ((decide c14 && decide (0 + c9.length ≤ 2)) && underL 0 c9) (.telb 5 2 (0 + c1.rooms.length) (fun r' j => if r' = (x0_11).toNat ∧ 0 ≤ j ∧ j < 0 + c9.length then c9.getD (j - 0) uU else c16 r' j) (rowsOf tCount c19) (.need (inR .i64 (x0_11 + (1 : Int))) (.go (.l0 (x0_11 + (1 : Int)) c19))))))) (.call 43 [.agg [iI b.price, tRoom.lst b.rooms, .list 5 (0 + b.days.length) (rowsOf tDay b.days)], iI d, .agg [iI t.adults, iI t.children, tint.lst t.rooms]] (iI c11) (c15 && true) true (.wait 1 (.frz 5 (((decide c5) && true) && (((decide c5) && true) && true)) (.vle 50 (.list 2 (0 + c1.rooms.length) c16) (tCount.lst a0_5) (.telc 4 [tSchool.lst c12, iI c2, iI c10, .list 2 (0 + c1.rooms.length) c16, iI c11] [tSchool.lst c12, iI c2, iI c10, tCount.lst a0_5, iI c11] (.need ((decide (0 ≤ d) && decide (d < ((0 + b.days.length) : Int))) && decide c6) (.need ((decide ((d).toNat < (0 + b.days.length)) && decide (0 + c13.length ≤ 5)) && underL 0 c13) (.telb 3 5 (0 + b.days.length) (fun r' j => if r' = (d).toNat ∧ 0 ≤ j ∧ j < 0 + c13.length then c13.getD (j - 0) uU else (rowsOf tDay b.days) r' j) c20 (.wait 1 (.frz 3 (c15 && (c15 && true)) (.vle 85 (.list 5 (0 + b.days.length) c20) (tDay.lst c4) (.telc 0 [iI b.price, tRoom.lst b.rooms, .list 5 (0 + b.days.length) c20] [iI b.price, tRoom.lst b.rooms, tDay.lst c4] (.out (.r0 b.price b.rooms c4)))))))))))))))
noncomputable def g38 (b : Book) (d : Int) (t : Truth) (x : List Int) : P38 → List Item × St
  | .e => bd Tryz.f38 [.agg (cC b), iI d, .agg [iI t.adults, iI t.children, tint.lst t.rooms], tu16.lst x] 86
  | .l0 x0_11 a0_5 => (cutOf Tryz.f38 0, ⟨mk 90 [(1, iI d), (3, tu16.lst x), (4, .ref 0 0 0), (6, .ref 1 0 0), (8, .ref 2 0 0), (9, .ref 4 0 0), (11, iI x0_11)], [.cells [iI b.price, tRoom.lst b.rooms, .row 3 (0 + b.days.length)], .cells [iI t.adults, iI t.children, tint.lst t.rooms], .cells [iI 0, .nils, .nils], .rows 67 5 (0 + b.days.length) (rowsOf tDay b.days), .cells [tSchool.lst ((b.days.getD (d).toNat tDay.zero).schools), iI (max 0 (((t.adults + t.children) + (pupilsD b d)) - ((turnR x 5).tmod ((b.days.getD (d).toNat tDay.zero).door.miss + (1 : Int))))), iI ((b.days.getD (d).toNat tDay.zero).door.miss), .row 5 (0 + (b.days.getD (d).toNat tDay.zero).rooms.length), iI ((b.days.getD (d).toNat tDay.zero).taken)], .rows 64 2 (0 + (b.days.getD (d).toNat tDay.zero).rooms.length) (rowsOf tCount a0_5)], []⟩)
noncomputable def n38 : R38 → Exit × St
  | .r0 r0_0 r0_1 r0_2 => (.ret, ⟨mk 90 [(8, .ref 2 0 0)], [.gone, .gone, .cells [iI r0_0, tRoom.lst r0_1, tDay.lst r0_2]], []⟩)
noncomputable def v38 : R38 → V
  | .r0 r0_0 r0_1 r0_2 => .agg [iI r0_0, tRoom.lst r0_1, tDay.lst r0_2]
theorem s38 (b : Book) (d : Int) (t : Truth) (x : List Int) : Sm 0 (g38 b d t x) (T38 b d t x) (n38)
  | .e => ⟨400, by kernel_rfl⟩
  | .l0 _ _ => ⟨400, by kernel_rfl⟩
theorem q38 : ∀ r, bodyQ Tryz.prog Tryz.f38 (· = v38 r) (n38 r).1 (n38 r).2
  | .r0 r0_0 r0_1 r0_2 => bq (.agg [iI r0_0, tRoom.lst r0_1, tDay.lst r0_2]) (by kernel_rfl)
theorem w38 (b : Book) (d : Int) (t : Truth) (x : List Int) {post : V → Prop} (h : WQ (T38 b d t x) v38 post .e) : PC 38 [.agg (cC b), iI d, .agg [iI t.adults, iI t.children, tint.lst t.rooms], tu16.lst x] post :=
  PCalls.wq Tryz.func38 (s38 b d t x) q38 h
def toldC (t : Truth) (x : List Int) (i : Nat) (c : Count) : Count := ⟨max 0 (t.rooms.getD i 0 - (turnR x (6 + (i : Int))).tmod (c.miss + 1)), c.miss⟩
def toldN (t : Truth) (x : List Int) (l : List Count) : Nat → List Count
  | 0 => l
  | i + 1 => (toldN t x l i).set i (toldC t x i (l.getD i zCount))
def toldD (b : Book) (d : Int) (t : Truth) (x : List Int) (D : Day) : Day := ⟨D.schools, ⟨max 0 (t.adults + t.children + pupilsD b d - (turnR x 5).tmod (D.door.miss + 1)), D.door.miss⟩, toldN t x D.rooms D.rooms.length, payR b d t⟩
def toldR (b : Book) (d : Int) (t : Truth) (x : List Int) : Book := ⟨b.price, b.rooms, b.days.set d.toNat (toldD b d t x (dayOf b d))⟩
theorem toldN_how (t : Truth) (x : List Int) (l : List Count) : ∀ n, n ≤ l.length → (toldN t x l n).length = l.length ∧ (∀ k, k < n → (toldN t x l n).getD k zCount = toldC t x k (l.getD k zCount)) ∧ ∀ k, n ≤ k → (toldN t x l n).getD k zCount = l.getD k zCount
  | 0, _ => ⟨rfl, fun k hk => absurd hk (Nat.not_lt_zero _), fun _ _ => rfl⟩
  | n + 1, hn => by
    obtain ⟨h1, h2, h3⟩ := toldN_how t x l n (by omega)
    refine ⟨by rw [toldN, List.length_set]; exact h1, fun k hk => ?_, fun k hk => ?_⟩
    · rw [toldN]
      by_cases e : n = k
      · subst e; rw [List.getD_eq_getElem?_getD, List.getElem?_set_self (by omega)]; rfl
      · rw [List.getD_eq_getElem?_getD, List.getElem?_set_ne e, ← List.getD_eq_getElem?_getD]; exact h2 k (by omega)
    · rw [toldN, List.getD_eq_getElem?_getD, List.getElem?_set_ne (by omega), ← List.getD_eq_getElem?_getD]; exact h3 k (by omega)
theorem part_set0 (l : List Count) (i : Nat) (v : Int) {n r j : Nat} (hr : r < n) (hj : j < 2) (hn : n = l.length) :
    VLe (if r = i ∧ 0 ≤ j ∧ j < 0 + ([V.int .i64 v] : List V).length then ([V.int .i64 v] : List V).getD (j - 0) uU else rowsOf tCount l r j) (rowsOf tCount (l.set i (⟨v, (l.getD i zCount).miss⟩ : Count)) r j) := by
  by_cases h : r = i
  · subst h
    simp only [rowsOf]
    have e : (l.set r (⟨v, (l.getD r zCount).miss⟩ : Count)).getD r tCount.zero = ⟨v, (l.getD r zCount).miss⟩ := by
      rw [List.getD_eq_getElem?_getD, List.getElem?_set_self (by omega)]; rfl
    rw [e]
    rcases show j = 0 ∨ j = 1 by omega with rfl | rfl
    · rw [if_pos ⟨True.intro, Nat.le_refl _, by show 0 < 0 + 1; omega⟩]; exact VLe.refl _
    · rw [if_neg (fun q => by have : 1 < 0 + 1 := q.2.2; omega)]; exact VLe.refl _
  · rw [if_neg (fun q => h q.1)]
    simp only [rowsOf, List.getD_eq_getElem?_getD, List.getElem?_set_ne (Ne.symm h)]
    exact VLe.refl _
set_option maxHeartbeats 4000000 in
theorem c38 (b : Book) (d : Int) (t : Truth) (x : List Int) (h : OkBook b) (hd : 0 ≤ d ∧ d < b.days.length) (ht : Fine b d t) (hx : U16 x) : PC 38 [.agg (tBook.cells b), iI d, .agg (tTruth.cells t), tu16.lst x] (· = .agg (tBook.cells (toldR b d t x))) := by
  have hday := h.day _ (getD_mem zDay b.days d.toNat (by omega))
  have h3 := h.nr
  have h4 := h.nd
  have hdo := hday.door
  have hmany := hday.many
  have hroom := hday.room
  have hpu : 0 ≤ pupilsD b d ∧ pupilsD b d ≤ 60 := pupils_in (b := b) (d := d) hday
  have k66 := c66 b d h hd
  have k43 := c43 b d t h hd ht
  have k90 := fun n hn => c90 x n hx hn
  have k5 := k90 5 (by omega)
  obtain ⟨ha, hc, hall, hlen, hrm⟩ := ht
  have hT : toldR b d t x = ⟨b.price, b.rooms, b.days.set d.toNat (toldD b d t x (b.days.getD d.toNat zDay))⟩ := rfl
  rw [hT]
  have m5 := mod_in (turn_in hx (n := 5) (by omega)).1 (n := (b.days.getD d.toNat zDay).door.miss + 1) (by omega)
  have r1 : inR .i64 (t.adults + t.children) = true := inR64 (by omega) (by omega)
  have r2 : inR .i64 (t.adults + t.children + pupilsD b d) = true := inR64 (by omega) (by omega)
  have r3 : inR .i64 ((b.days.getD d.toNat zDay).door.miss + 1) = true := inR64 (by omega) (by omega)
  have n3 : ¬ (b.days.getD d.toNat zDay).door.miss + 1 = 0 := by omega
  have r4 : inR .i64 (t.adults + t.children + pupilsD b d - (turnR x 5).tmod ((b.days.getD d.toNat zDay).door.miss + 1)) = true := inR64 (by omega) (by omega)
  have hsc : ∀ r, ((List.range 5).all fun j => (rowsOf tDay b.days r j).scalar) = true := fun r => rfl
  have hsc2 : ∀ (l : List Count) r, ((List.range 2).all fun j => (rowsOf tCount l r j).scalar) = true := fun l r => rfl
  have happ : ∀ r j, appC 0 (litC 5 0 []) (rowsOf tDay b.days) r j = rowsOf tDay b.days r j := fun r j => by unfold appC; rw [if_neg (Nat.not_lt_zero r), Nat.sub_zero]
  have happ2 : ∀ (l : List Count) r j, appC 0 (litC 2 0 []) (rowsOf tCount l) r j = rowsOf tCount l r j := fun l r j => by unfold appC; rw [if_neg (Nat.not_lt_zero r), Nat.sub_zero]
  have v1 : ∀ r j, VLe (appC 0 (litC 5 0 []) (rowsOf tDay b.days) r j) (rowsOf tDay b.days r j) := fun r j => by rw [happ]; exact VLe.refl _
  have v2 : ∀ (l : List Count) r j, VLe (appC 0 (litC 2 0 []) (rowsOf tCount l) r j) (rowsOf tCount l r j) := fun l r j => by rw [happ2]; exact VLe.refl _
  have hmain : WP Tryz.prog ⟨none, 0⟩ (T38 b d t x) (Ends' fun r => v38 r = .agg (tBook.cells ⟨b.price, b.rooms, b.days.set d.toNat (toldD b d t x (b.days.getD d.toNat zDay))⟩)) (.l0 0 (b.days.getD d.toNat zDay).rooms) := by
    generalize hD : b.days.getD d.toNat zDay = D at *
    refine WP.run (fun i => .l0 (i : Int) (toldN t x D.rooms i)) rfl D.rooms.length (fun i hi => ?_) ?_
    · have hr : inR .i64 ((i : Int) + 1) = true := inR64 (by omega) (by omega)
      have hi' : (i : Int) < D.rooms.length := by omega
      have hi0 : (i : Int) < ((0 + D.rooms.length : Nat) : Int) := by omega
      have hit : (i : Int) < t.rooms.length := by omega
      obtain ⟨q1, -, q3⟩ := toldN_how t x D.rooms i (by omega)
      have hgt := q3 i (Nat.le_refl _)
      have hst : (toldN t x D.rooms i).set i (toldC t x i (D.rooms.getD i zCount)) = toldN t x D.rooms (i + 1) := rfl
      have hci := hroom _ (getD_mem zCount D.rooms i hi)
      have hti := hrm i (by omega)
      have k6 := k90 (6 + (i : Int)) (by omega)
      have m6 := mod_in (turn_in hx (n := 6 + (i : Int)) (by omega)).1 (n := (D.rooms.getD i zCount).miss + 1) (by omega)
      have r5 : inR .i64 (6 + (i : Int)) = true := inR64 (by omega) (by omega)
      have r6 : inR .i64 ((D.rooms.getD i zCount).miss + 1) = true := inR64 (by omega) (by omega)
      have n6 : ¬ (D.rooms.getD i zCount).miss + 1 = 0 := by omega
      have r7 : inR .i64 (t.rooms.getD i 0 - (turnR x (6 + (i : Int))).tmod ((D.rooms.getD i zCount).miss + 1)) = true := inR64 (by omega) (by omega)
      have hmc : (⟨max 0 (t.rooms.getD i 0 - (turnR x (6 + (i : Int))).tmod ((D.rooms.getD i zCount).miss + 1)), (D.rooms.getD i zCount).miss⟩ : Count) = toldC t x i (D.rooms.getD i zCount) := rfl
      have hln : D.rooms.length = (toldN t x D.rooms i).length := q1.symm
      have hps := fun r j (hr : r < D.rooms.length) (hj : j < 2) => part_set0 (toldN t x D.rooms i) i (max 0 (t.rooms.getD i 0 - (turnR x (6 + (i : Int))).tmod ((D.rooms.getD i zCount).miss + 1))) hr hj hln
      rw [hgt, hmc, hst] at hps
      have hu : ∀ v, underL 0 ([iI v] : List V) = true := fun v => rfl
      generalize toldN t x D.rooms (i + 1) = B2 at *
      generalize toldN t x D.rooms i = B at *
      clear q1 q3 hT k90
      refine WP.once ?_
      simp only [T38, Tr.sure, SS, hi', hit, hD, z1, z5, z8, hgt, hmc, hst, Nat.zero_add]
      repeat' with_reducible first | intro _ | apply And.intro
      all_goals first | exact k6 | exact (by with_reducible exact hu _) | (simp [hr, r5, r6, n6, r7, hst, hmc, Go, Ends', v38, -List.getD_eq_getElem?_getD, *]; done) | (simp_all [hr, r5, r6, n6, r7, hst, hmc, Go, Ends', v38, -List.getD_eq_getElem?_getD]; done)
    · have q1 := (toldN_how t x D.rooms D.rooms.length (Nat.le_refl _)).1
      have hmd : toldD b d t x D = ⟨D.schools, ⟨max 0 (t.adults + t.children + pupilsD b d - (turnR x 5).tmod (D.door.miss + 1)), D.door.miss⟩, toldN t x D.rooms D.rooms.length, payR b d t⟩ := rfl
      rw [hmd]
      generalize hB : toldN t x D.rooms D.rooms.length = B at *
      generalize hsn : max 0 (t.adults + t.children + pupilsD b d - (turnR x 5).tmod (D.door.miss + 1)) = sn at *
      have w1 : VLe (.list 2 D.rooms.length (rowsOf tCount B)) (tCount.lst B) := VLe.encN tCount B q1.symm
      have w2 := fun j => VLe.at w1 [tSchool.lst D.schools, iI sn, iI D.door.miss] [iI (payR b d t)] j
      have hu : underL 0 ([tSchool.lst D.schools, iI sn, iI D.door.miss, tCount.lst B, iI (payR b d t)] : List V) = true := rfl
      have w3 := tel_set tDay b.days d.toNat ⟨D.schools, ⟨sn, D.door.miss⟩, B, payR b d t⟩ (n := b.days.length) (w := 5) ([tSchool.lst D.schools, iI sn, iI D.door.miss, tCount.lst B, iI (payR b d t)] : List V) rfl rfl rfl
      simp only [Nat.zero_add] at w3
      have hdl : b.days.length = (b.days.set d.toNat ⟨D.schools, ⟨sn, D.door.miss⟩, B, payR b d t⟩).length := by simp
      have w4 : VLe (.list 5 b.days.length (rowsOf tDay (b.days.set d.toNat ⟨D.schools, ⟨sn, D.door.miss⟩, B, payR b d t⟩))) (tDay.lst (b.days.set d.toNat ⟨D.schools, ⟨sn, D.door.miss⟩, B, payR b d t⟩)) := VLe.encN tDay _ hdl
      have w5 := fun j => VLe.at w4 [iI b.price, tRoom.lst b.rooms] [] j
      clear hdl hmd hT k90
      refine WP.step ?_
      simp only [T38, Go, Ends', v38, Tr.sure, SS, Int.lt_irrefl, hD, z8, Nat.zero_add, hsn, hd]
      repeat' with_reducible first | intro _ | apply And.intro
      all_goals first | exact k43 | exact w1 | exact (by with_reducible exact hu) | exact (by with_reducible exact w3 _ _ ‹_› ‹_›) | exact w4 | (simp [tBook, Go, Ends', v38, -List.getD_eq_getElem?_getD, *]; done) | (simp_all [tBook, Go, Ends', v38, -List.getD_eq_getElem?_getD]; done)
  refine w38 b d t x (WP.step ?_)
  simp only [T38, Go, Ends', v38, Tr.sure, SS, z8, Nat.zero_add]
  repeat' with_reducible first | intro _ | apply And.intro
  all_goals first | exact k66 | exact k5 | exact (by with_reducible exact v1 _ _) | exact (by with_reducible exact v2 _ _ _) | exact (by with_reducible exact hsc _) | exact (by with_reducible exact hsc2 _ _) | exact hmain | exact (show b.days.length ≤ 4294967296 by omega) | exact (show (b.days.getD d.toNat zDay).rooms.length ≤ 4294967296 by omega) | (simp [r1, r2, r3, n3, r4, hd, Go, Ends', v38, -List.getD_eq_getElem?_getD, *]; done)
end
noncomputable section
theorem less_irr : ∀ a, less a a = false
  | [] => rfl
  | x :: a => by simp [less, less_irr a]
theorem less_tr : ∀ a b c, less a b = true → less b c = true → less a c = true
  | [], [], _, h, _ => by simp [less] at h
  | [], _ :: _, [], _, h => by simp [less] at h
  | [], _ :: _, _ :: _, _, _ => rfl
  | _ :: _, [], _, h, _ => by simp [less] at h
  | _ :: _, _ :: _, [], _, h => by simp [less] at h
  | x :: a, y :: b, z :: c, h1, h2 => by
    simp only [less] at h1 h2 ⊢
    by_cases e1 : x = y
    · subst e1
      rw [if_pos rfl] at h1
      by_cases e2 : x = z
      · rw [if_pos e2] at h2 ⊢; exact less_tr a b c h1 h2
      · rw [if_neg e2] at h2 ⊢; exact h2
    · rw [if_neg e1] at h1
      have h1 := of_decide_eq_true h1
      by_cases e2 : y = z
      · subst e2; rw [if_neg e1]; exact decide_eq_true h1
      · rw [if_neg e2] at h2
        have h2 := of_decide_eq_true h2
        rw [if_neg (by omega)]; exact decide_eq_true (by omega)
theorem less_tot : ∀ a b, a = b ∨ less a b = true ∨ less b a = true
  | [], [] => .inl rfl
  | [], _ :: _ => .inr (.inl rfl)
  | _ :: _, [] => .inr (.inr rfl)
  | x :: a, y :: b => by
    simp only [less]
    by_cases e : x = y
    · subst e
      rcases less_tot a b with h | h | h
      · exact .inl (by rw [h])
      · exact .inr (.inl (by rw [if_pos rfl]; exact h))
      · exact .inr (.inr (by rw [if_pos rfl]; exact h))
    · rcases Int.lt_or_gt_of_ne e with h | h
      · exact .inr (.inl (by rw [if_neg e]; exact decide_eq_true h))
      · exact .inr (.inr (by rw [if_neg (Ne.symm e)]; exact decide_eq_true h))
theorem best_least {all : List Truth} {t : Truth} (ht : t ∈ all) : less (keyR t) (keyR (bestD all)) = false := by
  have step : ∀ (l : List Truth) (m : Truth), (less (keyR m) (keyR (l.foldl bestF m)) = false) ∧ ∀ u ∈ l, less (keyR u) (keyR (l.foldl bestF m)) = false := by
    intro l
    induction l with
    | nil => exact fun m => ⟨less_irr _, fun u hu => absurd hu List.not_mem_nil⟩
    | cons v l ih =>
      intro m
      rw [List.foldl_cons]
      obtain ⟨h1, h2⟩ := ih (bestF m v)
      generalize l.foldl bestF (bestF m v) = r at *
      have hk : less (keyR m) (keyR (bestF m v)) = false ∧ less (keyR v) (keyR (bestF m v)) = false := by
        unfold bestF
        by_cases hv : less (keyR v) (keyR m) = true
        · rw [if_pos hv]
          refine ⟨?_, less_irr _⟩
          cases hm : less (keyR m) (keyR v) with
          | false => rfl
          | true => have := less_tr _ _ _ hv hm; rw [less_irr] at this; cases this
        · rw [if_neg hv]; exact ⟨less_irr _, Bool.eq_false_iff.2 hv⟩
      have neg : ∀ a b c, less a b = false → less b c = false → less a c = false := fun a b c q1 q2 => by
        cases q3 : less a c with
        | false => rfl
        | true =>
          rcases less_tot a b with e | e | e
          · subst e; rw [q2] at q3; cases q3
          · rw [q1] at e; cases e
          · have := less_tr _ _ _ e q3; rw [q2] at this; cases this
      refine ⟨neg _ _ _ hk.1 h1, fun u hu => ?_⟩
      rcases List.mem_cons.1 hu with e | e
      · subst e; exact neg _ _ _ hk.2 h1
      · exact h2 u e
  unfold bestD bestS
  cases all with
  | nil => exact absurd ht List.not_mem_nil
  | cons m l =>
    have e : ((m :: l).drop 1).take ((m :: l).length - 1) = l := by simp
    rw [e]
    have hs := step l m
    rcases List.mem_cons.1 ht with q | q
    · subst q; exact hs.1
    · exact hs.2 t q
theorem truth_fine {b : Book} {d : Int} (h : OkBook b) (hd : OkDay b (dayOf b d)) {x : List Int} (hx : U16 x) : Fine b d (truthT b d x) := by
  have ho := own_in hd hx
  have hp := pupils_in hd
  have e1 : (truthT b d x).adults + (truthT b d x).children = ownT b d x := by show adT b d x + (ownT b d x - adT b d x) = _; omega
  refine ⟨⟨ho.2.1, by show adT b d x ≤ 60; omega⟩, ⟨by show 0 ≤ ownT b d x - adT b d x; omega, by show ownT b d x - adT b d x ≤ 60; omega⟩, by rw [e1]; exact ho.1.2, by simp [truthT], fun i hi => ?_⟩
  have hr := room_in h hd hx hi
  rw [e1]
  have e2 : (truthT b d x).rooms.getD i 0 = roomT b d x i := by
    show ((List.range b.rooms.length).map (roomT b d x)).getD i 0 = _
    rw [List.getD_eq_getElem?_getD, List.getElem?_map, List.getElem?_range hi]; rfl
  rw [e2]; exact hr
theorem extra_le {b : Book} (h : OkBook b) {l : List Int} (h1 : l.length = b.rooms.length) (h2 : ∀ n ∈ l, 0 ≤ n ∧ n ≤ 60) : ∀ i, i ≤ l.length → extraTo b l i ≤ 1200 * (i : Int)
  | 0, _ => by simp [extraTo, natF]
  | i + 1, hi => by
    have h3 := extra_le h h1 h2 i (by omega)
    have h4 := h2 _ (getD_mem 0 l i (by omega))
    have h5 := (h.room _ (getD_mem zRoom b.rooms i (by omega))).1
    rw [extra_next]
    have h6 : l.getD i 0 * (b.rooms.getD i zRoom).more ≤ 60 * 20 := Int.mul_le_mul h4.2 h5.2 h5.1 (by omega)
    omega
theorem pay_tight {b : Book} {d : Int} (h : OkBook b) (hd : OkDay b (dayOf b d)) {t : Truth} (ht : Fine b d t) : 0 ≤ payR b d t ∧ payR b d t ≤ 7200 := by
  have hp := half_in h
  have h1 := half_mul h ht.a
  have h2 := half_mul h ht.c
  have h3 := feesD_in h hd
  have h4 := extraR_in h ht.len (fine_rooms ht)
  have h5 := extra_le h ht.len (fine_rooms ht) t.rooms.length (Nat.le_refl _)
  have hnr := h.nr
  have hl := ht.len
  have h5' : extraR b t.rooms ≤ 1200 * (t.rooms.length : Int) := h5
  obtain ⟨Q, q1, q2, q3, q4⟩ := fees_how (b := b) hd.school _ (Nat.le_refl _)
  have e1 : feesD b d = b.price.tdiv 2 * (pupilsD b d - Q) := q1
  have hall := ht.all
  have m1 : b.price.tdiv 2 * (pupilsD b d - Q) ≤ b.price.tdiv 2 * pupilsD b d := Int.mul_le_mul_of_nonneg_left (by omega) (by omega)
  have m2 : b.price * t.adults = b.price.tdiv 2 * t.adults + b.price.tdiv 2 * t.adults := by
    have : b.price * t.adults = 2 * (b.price.tdiv 2 * t.adults) := by rw [← Int.mul_assoc, hp.2.2]
    omega
  have m3 : b.price.tdiv 2 * (t.adults + t.children + pupilsD b d) ≤ b.price.tdiv 2 * 60 := Int.mul_le_mul_of_nonneg_left hall (by omega)
  rw [Int.mul_add, Int.mul_add] at m3
  unfold payR
  omega
theorem told_day {b : Book} {d : Int} (hd : 0 ≤ d ∧ d < b.days.length) (t : Truth) (x : List Int) : dayOf (toldR b d t x) d = toldD b d t x (dayOf b d) := by
  unfold dayOf toldR
  rw [List.getD_eq_getElem?_getD, List.getElem?_set_self (by omega)]; rfl
theorem seen_in {all m miss : Int} (h1 : 0 ≤ all ∧ all ≤ 60) (h2 : 0 ≤ m ∧ m < miss + 1) : 0 ≤ max 0 (all - m) ∧ max 0 (all - m) ≤ 60 ∧ max 0 (all - m) ≤ all ∧ all ≤ max 0 (all - m) + miss := by omega
theorem told_room {b : Book} {d : Int} (h : OkBook b) (hd : OkDay b (dayOf b d)) {t : Truth} (ht : Fine b d t) {x : List Int} (hx : U16 x) {i : Nat} (hi : i < b.rooms.length) :
    (toldN t x (dayOf b d).rooms (dayOf b d).rooms.length).getD i zCount = toldC t x i ((dayOf b d).rooms.getD i zCount) ∧ 0 ≤ (toldC t x i ((dayOf b d).rooms.getD i zCount)).seen ∧ (toldC t x i ((dayOf b d).rooms.getD i zCount)).seen ≤ 60 ∧
    (toldC t x i ((dayOf b d).rooms.getD i zCount)).seen ≤ t.rooms.getD i 0 ∧ t.rooms.getD i 0 ≤ (toldC t x i ((dayOf b d).rooms.getD i zCount)).seen + ((dayOf b d).rooms.getD i zCount).miss := by
  have hi' : i < (dayOf b d).rooms.length := by rw [hd.many]; exact hi
  have hc := hd.room _ (getD_mem zCount _ i hi')
  have hr := ht.room i hi
  have hal := ht.all
  have m6 := mod_in (turn_in hx (n := 6 + (i : Int)) (by omega)).1 (n := ((dayOf b d).rooms.getD i zCount).miss + 1) (by omega)
  have hs := seen_in (all := t.rooms.getD i 0) (miss := ((dayOf b d).rooms.getD i zCount).miss) ⟨hr.1, by omega⟩ m6
  exact ⟨(toldN_how t x _ _ (Nat.le_refl _)).2.1 i hi', hs.1, hs.2.1, hs.2.2.1, hs.2.2.2⟩
theorem told_door {b : Book} {d : Int} (hd : OkDay b (dayOf b d)) {t : Truth} (ht : Fine b d t) {x : List Int} (hx : U16 x) :
    0 ≤ (toldD b d t x (dayOf b d)).door.seen ∧ (toldD b d t x (dayOf b d)).door.seen ≤ 60 ∧ (toldD b d t x (dayOf b d)).door.seen ≤ t.adults + t.children + pupilsD b d ∧ t.adults + t.children + pupilsD b d ≤ (toldD b d t x (dayOf b d)).door.seen + (dayOf b d).door.miss := by
  have hp := pupils_in hd
  have hdo := hd.door
  have ha := ht.a; have hc := ht.c; have hal := ht.all
  have m5 := mod_in (turn_in hx (n := 5) (by omega)).1 (n := (dayOf b d).door.miss + 1) (by omega)
  exact seen_in (all := t.adults + t.children + pupilsD b d) (miss := (dayOf b d).door.miss) ⟨by omega, by omega⟩ m5
theorem told_agree {b : Book} {d : Int} (h : OkBook b) (hd : 0 ≤ d ∧ d < b.days.length) {t : Truth} (ht : Fine b d t) {x : List Int} (hx : U16 x) : t ∈ agreeD (toldR b d t x) d := by
  have hday : OkDay b (dayOf b d) := h.day _ (getD_mem zDay b.days d.toNat (by omega))
  have hD := told_day hd t x
  have hp := half_in h
  have hpu := pupils_in hday
  have ha := ht.a; have hc := ht.c; have hal := ht.all
  obtain ⟨s1, s2, s3, s4⟩ := told_door hday ht hx
  have ep : pupilsD (toldR b d t x) d = pupilsD b d := by unfold pupilsD; rw [hD]; rfl
  have ef : feesD (toldR b d t x) d = feesD b d := by unfold feesD; rw [hD]; rfl
  have et : (dayOf (toldR b d t x) d).taken = payR b d t := by rw [hD]; rfl
  have edo : doorS (toldR b d t x) d = ⟨(toldD b d t x (dayOf b d)).door.seen, min 60 ((toldD b d t x (dayOf b d)).door.seen + (dayOf b d).door.miss)⟩ := by unfold doorS between; rw [hD, if_neg (by decide)]; rfl
  refine mem_agree.2 ⟨t.adults + t.children + pupilsD b d, ⟨?_, ?_⟩, t.rooms, ?_, ?_⟩
  · unfold firstN; rw [edo, ep]
    show max (toldD b d t x (dayOf b d)).door.seen (pupilsD b d) ≤ _
    omega
  · rw [edo]
    show _ ≤ min 60 ((toldD b d t x (dayOf b d)).door.seen + (dayOf b d).door.miss)
    omega
  · refine (mem_roomsN _ _).2 ⟨ht.len, fun k hk => ?_⟩
    have hk' : k < b.rooms.length := hk
    obtain ⟨r0, r1, r2, r3, r4⟩ := told_room h hday ht hx hk'
    have hr := ht.room k hk'
    have esp : spanAt (toldR b d t x) (dayOf (toldR b d t x) d) (t.adults + t.children + pupilsD b d) [] k = ⟨(toldC t x k ((dayOf b d).rooms.getD k zCount)).seen, min (min (t.adults + t.children + pupilsD b d) (b.rooms.getD k zRoom).full) ((toldC t x k ((dayOf b d).rooms.getD k zCount)).seen + ((dayOf b d).rooms.getD k zCount).miss)⟩ := by
      have e1 : (dayOf (toldR b d t x) d).rooms.getD k zCount = toldC t x k ((dayOf b d).rooms.getD k zCount) := by rw [hD]; exact r0
      have e2 : hasN [] (k : Int) = false := rfl
      unfold spanAt between; rw [e1, e2, if_neg (by decide)]; rfl
    rw [esp]
    exact ⟨r3, by show t.rooms.getD k 0 ≤ min (min (t.adults + t.children + pupilsD b d) (b.rooms.getD k zRoom).full) ((toldC t x k ((dayOf b d).rooms.getD k zCount)).seen + ((dayOf b d).rooms.getD k zCount).miss); omega⟩
  · have el : leftR (toldR b d t x) d (t.adults + t.children + pupilsD b d) t.rooms = b.price.tdiv 2 * t.adults := by
      unfold leftR
      rw [et, ef, ep]
      have e1 : extraR (toldR b d t x) t.rooms = extraR b t.rooms := rfl
      have e2 : (toldR b d t x).price = b.price := rfl
      rw [e1, e2]
      have m2 : b.price * t.adults = b.price.tdiv 2 * t.adults + b.price.tdiv 2 * t.adults := by
        have : b.price * t.adults = 2 * (b.price.tdiv 2 * t.adults) := by rw [← Int.mul_assoc, hp.2.2]
        omega
      have m3 : b.price.tdiv 2 * (t.adults + t.children + pupilsD b d - pupilsD b d) = b.price.tdiv 2 * t.adults + b.price.tdiv 2 * t.children := by rw [← Int.mul_add]; congr 1; omega
      rw [m3]
      unfold payR
      omega
    have e2 : (toldR b d t x).price = b.price := rfl
    have h0 : 0 ≤ b.price.tdiv 2 * t.adults := (half_mul h ha).1
    have hq : (b.price.tdiv 2 * t.adults).tdiv (b.price.tdiv 2) = t.adults := Int.mul_tdiv_cancel_left _ (by omega)
    have hm : (b.price.tdiv 2 * t.adults).tmod (b.price.tdiv 2) = 0 := Int.mul_tmod_right _ _
    unfold agreeAt
    rw [el, e2, ep, hq, hm, if_pos ⟨h0, rfl, by omega⟩]
    have e3 : t.adults + t.children + pupilsD b d - pupilsD b d - t.adults = t.children := by omega
    rw [e3]
    exact List.mem_cons_self
end
noncomputable section
theorem firstE_all {τ : Type} {of : Nat → τ → Int} : ∀ {l : List τ} {i : Nat}, (∀ x ∈ l, ∀ j, of j x = 0) → firstE of i l = none
  | [], _, _ => rfl
  | x :: l, i, h => by
    simp only [firstE]
    rw [if_pos (h x List.mem_cons_self i)]
    exact firstE_all fun y hy => h y (List.mem_cons_of_mem _ hy)
theorem check_days {b : Book} (hv : validR b = true) {l : List Day} (hl : l.length = b.days.length) (h : ∀ D ∈ l, dayErr b D = 0) : validR ⟨b.price, b.rooms, l⟩ = true := by
  have h0 : (bookCheck b).2.2 = 0 := by simpa [validR] using hv
  unfold validR
  simp only [beq_iff_eq]
  simp only [bookCheck] at h0 ⊢
  split at h0
  · cases h0
  rename_i g1
  rw [if_neg g1]
  split at h0
  · cases h0
  rename_i g2
  rw [if_neg g2]
  split at h0
  · rename_i g3; exact absurd h0 g3
  rename_i g3
  rw [if_neg g3]
  split at h0
  · cases h0
  rename_i g4
  rw [hl, if_neg g4]
  have e := firstE_all (of := fun (_ : Nat) D => dayErr ⟨b.price, b.rooms, l⟩ D) (i := 0) (l := l) fun D hD _ => h D hD
  rw [e]
theorem days_fine {b : Book} (hv : validR b = true) : ∀ D ∈ b.days, dayErr b D = 0 := fun D hD => by
  have h0 : (bookCheck b).2.2 = 0 := by simpa [validR] using hv
  simp only [bookCheck] at h0
  split at h0
  · cases h0
  split at h0
  · cases h0
  split at h0
  · rename_i g3; exact absurd h0 g3
  split at h0
  · cases h0
  split at h0
  · rename_i he; exact absurd h0 (firstE_ne he)
  rename_i he
  obtain ⟨j, hj⟩ := firstE_none he D hD
  exact hj
theorem told_check {b : Book} {d : Int} (hv : validR b = true) (hd : 0 ≤ d ∧ d < b.days.length) {t : Truth} (ht : Fine b d t) {x : List Int} (hx : U16 x) : validR (toldR b d t x) = true := by
  have h := valid_ok hv
  have hmem : dayOf b d ∈ b.days := getD_mem zDay b.days d.toNat (by omega)
  have hday : OkDay b (dayOf b d) := h.day _ hmem
  have hf := days_fine hv
  refine check_days hv (by simp) fun D hD => ?_
  rcases List.mem_or_eq_of_mem_set hD with q | q
  · exact hf D q
  · subst q
    have h0 := hf _ hmem
    have hti := tightDay h0
    obtain ⟨s1, s2, -, -⟩ := told_door hday ht hx
    have hpay := pay_tight h hday ht
    have hdo := hday.door
    have hlen : (toldD b d t x (dayOf b d)).rooms.length = (dayOf b d).rooms.length := (toldN_how t x _ _ (Nat.le_refl _)).1
    have c1 : countOk (toldD b d t x (dayOf b d)).door = true := countOk_iff.2 ⟨⟨s1, s2⟩, hdo.2.1, hti.1⟩
    have c2 : within (toldD b d t x (dayOf b d)).taken 0 10000 = true := within_iff.2 ⟨hpay.1, by show payR b d t ≤ 10000; omega⟩
    have c3 : (toldD b d t x (dayOf b d)).rooms.all countOk = true := by
      rw [List.all_eq_true]
      intro c hc
      obtain ⟨i, hi, rfl⟩ := List.getElem_of_mem hc
      have hi2 : i < b.rooms.length := by have := hday.many; omega
      have hi3 : i < (dayOf b d).rooms.length := by omega
      obtain ⟨r0, r1, r2, -, -⟩ := told_room h hday ht hx hi2
      have e : (toldD b d t x (dayOf b d)).rooms[i] = toldC t x i ((dayOf b d).rooms.getD i zCount) := by
        rw [← r0]
        show (toldN t x (dayOf b d).rooms (dayOf b d).rooms.length)[i] = _
        rw [List.getD_eq_getElem?_getD, List.getElem?_eq_getElem (by exact hi)]; rfl
      rw [e]
      have hm := getD_mem zCount (dayOf b d).rooms i hi3
      have hr := hday.room _ hm
      exact countOk_iff.2 ⟨⟨r1, r2⟩, hr.2.1, hti.2 ((dayOf b d).rooms.getD i zCount) hm⟩
    have hsch : (toldD b d t x (dayOf b d)).schools = (dayOf b d).schools := rfl
    unfold dayErr at h0 ⊢
    split at h0
    · rename_i g; exact absurd h0 g
    rename_i g1
    rw [hsch, if_neg g1, hlen]
    split at h0
    · cases h0
    rename_i g2
    rw [if_neg g2, c1, c2, c3]; rfl
theorem inside_span {l : List Truth} {f : Truth → Int} {at_ : Int} {t : Truth} (ht : t ∈ l) (hf : ∀ t, (keyR t).getD at_.toNat 0 = f t) : insideR (f t) (spanR l at_) = true := by
  have h0 := List.length_pos_of_mem ht
  rw [← spT_span f at_ h0 hf, spT_foldS]
  have hm : f t ∈ l.map f := List.mem_map.2 ⟨t, ht, rfl⟩
  have := (foldS_in (List.ne_nil_of_mem hm)).2.2 _ hm
  unfold insideR within
  rw [Bool.and_eq_true, decide_eq_true_eq, decide_eq_true_eq]
  exact this
inductive P6
  | e
  | l0 (x0_25 : Int)
inductive R6
  | r0 (r0 : Bool)
noncomputable def T6 (b : Book) (w : Int) (x : List Int) : P6 → Tr P6 R6
  | .e => let c2 := w.tmod (b.days.length : Int); let c5 := truthT b c2 x; let c1 := toldR b c2 c5 x; let c3 := visR c1 c2; let c6 : Tr P6 R6 := .call 22 [.agg (cC b), iI 0] (.tuple [.agg [iI ((firstT b 0).1.adults), iI ((firstT b 0).1.children), tint.lst ((firstT b 0).1.rooms)], iI ((firstT b 0).2.1), iI ((firstT b 0).2.2)]) true true (.br ((firstT b 0).2.2 != (0 : Int)) (.call 21 [] (.bool true) true true (.out (.r0 true))) (.out (.r0 false))); let c9 : List V := [iI (c1.price), tRoom.lst (c1.rooms), tDay.lst (c1.days)]; let c10 : Tr P6 R6 := .lit true (.out (.r0 false)); let c11 := (c3.2.2 != (0 : Int)) == false; let c13 := (missedR c1 c2).2 != (0 : Int); let c14 := insideR (c5.adults) (c3.1); let c16 := insideR (c5.children) (c3.2.1); let c17 := (missedR c1 c2).1 != (0 : Int); let c18 : List V := [iI (c5.adults), .agg [iI (c3.1.lo), iI (c3.1.hi)]]; let c19 : List V := [iI (c5.children), .agg [iI (c3.2.1.lo), iI (c3.2.1.hi)]]; let c21 := firstT c1 c2; let c4 := (c21.2.2 != (0 : Int)) == false; let c15 := decide (c21.2.1 < (1 : Int)); let c22 := decide (0 ≤ c2) && decide (c2 < ((c1.days.length) : Int)); let c23 := c13 == false; let c24 : List V := [iI (c5.adults), iI (c5.children), tint.lst (c5.rooms)]; let c25 := couldR c1 c2; let c7 := insideR (((c1.days).getD (c2).toNat tDay.zero).taken) (c25.1); let c8 := (c25.2 != (0 : Int)) == false; let c20 : List V := [iI (((c1.days).getD (c2).toNat tDay.zero).taken), .agg [iI (c25.1.lo), iI (c25.1.hi)]]; let c26 := c17 == false; let c27 : List V := [.agg c9, iI c2]; let c28 := (wrongR c1).1; let c29 := c15 == false; let c30 := (!c14) == false; let c31 := (wrongR c1).2 != (0 : Int); let c12 := c31 == false; (.call 36 [.agg (cC b)] (.bool (validR b)) true true (.br (!(validR b)) (.lit true c6) (.br ((b.days.length : Int) == (0 : Int)) c6 (.need (inR .i64 w) (.need (decide ((b.days.length : Int) ≠ 0)) (.call 37 [.agg (cC b), iI c2, tu16.lst x] (.agg c24) true true (.call 38 [.agg (cC b), iI c2, .agg c24, tu16.lst x] (.agg c9) true true (.call 22 c27 (.tuple [.agg [iI (c21.1.adults), iI (c21.1.children), tint.lst (c21.1.rooms)], iI (c21.2.1), iI (c21.2.2)]) true true (.call 25 c27 (.tuple [.agg [iI (c3.1.lo), iI (c3.1.hi)], .agg [iI (c3.2.1.lo), iI (c3.2.1.hi)], iI (c3.2.2)]) true true (.call 19 c27 (.tuple [.agg [iI (c25.1.lo), iI (c25.1.hi)], iI (c25.2)]) true true (.call 33 [.agg c9] (.tuple [tEntry.lst c28, iI ((wrongR c1).2)]) true true (.call 31 c27 (.tuple [iI ((missedR c1 c2).1), iI ((missedR c1 c2).2)]) true true (.br (c21.2.2 != (0 : Int)) (.front [] [(2, true)] ((((c21.2.2 != (0 : Int)) == true) && true) && true) true c10) (.br (c3.2.2 != (0 : Int)) (.front [] [(2, false), (6, true)] ((c4 && (((c3.2.2 != (0 : Int)) == true) && true)) && true) true c10) (.br (c25.2 != (0 : Int)) (.front [] [(2, false), (6, false), (10, true)] ((c4 && (c11 && (((c25.2 != (0 : Int)) == true) && true))) && true) true c10) (.br c31 (.front [] [(2, false), (6, false), (10, false), (14, true)] ((c4 && (c11 && (c8 && ((c31 == true) && true)))) && true) true c10) (.br c13 (.front [] [(2, false), (6, false), (10, false), (14, false), (18, true)] ((c4 && (c11 && (c8 && (c12 && ((c13 == true) && true))))) && true) true c10) (.br c17 (.front [] [(2, false), (6, false), (10, false), (14, false), (18, false), (22, true)] ((c4 && (c11 && (c8 && (c12 && (c23 && ((c17 == true) && true)))))) && true) true c10) (.br c15 (.front [] [(2, false), (6, false), (10, false), (14, false), (18, false), (22, false), (26, true)] ((c4 && (c11 && (c8 && (c12 && (c23 && (c26 && ((c15 == true) && true))))))) && true) true c10) (.br (!c14) (.front [(30, 39, c18, .bool c14)] [(2, false), (6, false), (10, false), (14, false), (18, false), (22, false), (26, false), (33, true)] ((c4 && (c11 && (c8 && (c12 && (c23 && (c26 && (c29 && (((!c14) == true) && true)))))))) && true) true c10) (.br (!c16) (.front [(30, 39, c18, .bool c14), (37, 39, c19, .bool c16)] [(2, false), (6, false), (10, false), (14, false), (18, false), (22, false), (26, false), (33, false), (40, true)] ((c4 && (c11 && (c8 && (c12 && (c23 && (c26 && (c29 && (c30 && (((!c16) == true) && true))))))))) && true) true c10) (.br (!c7) (.front [(30, 39, c18, .bool c14), (37, 39, c19, .bool c16), (48, 39, c20, .bool c7)] [(2, false), (6, false), (10, false), (14, false), (18, false), (22, false), (26, false), (33, false), (40, false), (51, true)] ((c4 && (c11 && (c8 && (c12 && (c23 && (c26 && (c29 && (c30 && (((!c16) == false) && (c22 && (((!c7) == true) && true))))))))))) && true) true c10) (.front [(30, 39, c18, .bool c14), (37, 39, c19, .bool c16), (48, 39, c20, .bool c7), (54, 40, [tEntry.lst c28, iI c2], tint.lst (ofDay c2 c28))] [(2, false), (6, false), (10, false), (14, false), (18, false), (22, false), (26, false), (33, false), (40, false), (51, false)] ((c4 && (c11 && (c8 && (c12 && (c23 && (c26 && (c29 && (c30 && (((!c16) == false) && (c22 && (((!c7) == false) && true))))))))))) && true) true (.br (decide ((((ofDay c2 c28).length) : Int) > (0 : Int))) (.out (.r0 false)) (.go (.l0 0))))))))))))))))))))))))))
  | .l0 x0_25 => let c1 := w.tmod (b.days.length : Int); let c3 := truthT b c1 x; let c2 := toldR b c1 c3 x; let c4 := firstT c2 c1; let c5 := roomR c2 c1 x0_25; let c6 : List V := [iI (c2.price), tRoom.lst (c2.rooms), tDay.lst (c2.days)]; let c7 := (c3.rooms).getD (x0_25).toNat tint.zero; let c8 : List V := [iI (c4.1.adults), iI (c4.1.children)]; let c9 : List V := [iI (c4.1.adults), iI (c4.1.children), tint.lst (c4.1.rooms)]; let c10 : List V := [iI (c3.adults), iI (c3.children), tint.lst (c3.rooms)]; let c11 := appC 2 (litC 1 2 c8) (rowsOf tint (c4.1.rooms)); let c12 := c5.2 != (0 : Int); let c13 : List V := [iI (c3.adults), iI (c3.children)]; let c14 := appC 2 (litC 1 2 c13) (rowsOf tint (c3.rooms)); let c15 : List V := [iI (c5.1.lo), iI (c5.1.hi)]; (.br (decide (x0_25 < (b.rooms.length : Int))) (.call 27 [.agg c6, iI c1, iI x0_25] (.tuple [.agg c15, iI (c5.2)]) true true (.br c12 (.front [] [(2, true)] (((c12 == true) && true) && true) true (.lit true (.out (.r0 false)))) (.front [(9, 39, [iI c7, .agg c15], .bool (insideR c7 (c5.1)))] [(2, false)] (((c12 == false) && ((decide (0 ≤ x0_25) && decide (x0_25 < ((c3.rooms.length) : Int))) && true)) && true) true (.br (!(insideR c7 (c5.1))) (.out (.r0 false)) (.need (inR .i64 (x0_25 + (1 : Int))) (.go (.l0 (x0_25 + (1 : Int))))))))) (.wait 4 (.drop ⟨[uU, uU, uU, uU, uU, uU, uU, uU, uU, uU, uU, .nil, uU, .nil, uU, uU, uU, uU, uU, uU, uU, uU, uU, uU, uU, uU, uU, uU, .nil, uU, uU, uU, uU, uU, uU, uU, uU, uU, uU, uU, uU, uU, uU, uU, uU, uU, uU, uU, uU, uU, uU, uU, uU, uU, uU, uU, uU, uU, uU, uU, uU, uU, uU, uU, uU, uU, uU, uU, uU, uU, uU, uU, uU, uU, uU, uU, uU, uU, uU, uU, uU, uU, uU, uU, uU, uU, uU, uU, uU, uU, uU, uU, uU, uU, uU, uU, uU, uU, uU, uU, uU, uU, uU, uU, uU, uU, uU, uU, uU, uU, uU, uU, uU, uU, uU, uU, uU, uU, uU, uU, uU, uU, uU, uU, uU, uU, uU, uU, uU, uU, uU, uU, uU, uU, uU, uU, uU, uU, uU, uU, uU, uU, uU, uU, uU, uU, uU, uU, uU, uU, uU, uU, uU, uU, uU, uU, uU, uU, uU, uU, uU, uU, uU, uU, uU, uU, uU, uU, uU, uU, uU, uU, uU, uU, uU, uU, uU, uU, uU, uU, uU, uU, uU, uU, uU, uU, uU, uU, uU, uU, uU, uU, uU, uU, uU, uU, uU, uU, uU, uU, uU], [.void, .void, .void, .void, .void], []⟩ (.over (regionOf Tryz.f6 21) ⟨[uU, uU, uU, uU, uU, uU, uU, uU, uU, uU, uU, .ref 1 0 0, uU, .ref 3 0 0, uU, uU, uU, uU, uU, uU, uU, uU, uU, uU, uU, uU, uU, uU, .row 4 2, uU, uU, uU, uU, uU, uU, uU, uU, uU, uU, uU, uU, uU, uU, uU, uU, uU, uU, uU, uU, uU, uU, uU, uU, uU, uU, uU, uU, uU, uU, uU, uU, uU, uU, uU, uU, uU, uU, uU, uU, uU, uU, uU, uU, uU, uU, uU, uU, uU, uU, uU, uU, uU, uU, uU, uU, uU, uU, uU, uU, uU, uU, uU, uU, uU, uU, uU, uU, uU, uU, uU, uU, uU, uU, uU, uU, uU, uU, uU, uU, uU, uU, uU, uU, uU, uU, uU, uU, uU, uU, uU, uU, uU, uU, uU, uU, uU, uU, uU, uU, uU, uU, uU, uU, uU, uU, uU, uU, uU, uU, uU, uU, uU, uU, uU, uU, uU, uU, uU, uU, uU, uU, uU, uU, uU, uU, uU, uU, uU, uU, uU, uU, uU, uU, uU, uU, uU, uU, uU, uU, uU, uU, uU, uU, uU, uU, uU, uU, uU, uU, uU, uU, uU, uU, uU, uU, uU, uU, uU, uU, uU, uU, uU, uU, uU, uU, uU, uU, uU, uU, uU, uU], [.cells (cC b), .cells c10, .cells c6, .cells c9, .rows 3 1 2 (litC 1 2 c8)], []⟩ .normal ⟨[uU, uU, uU, uU, uU, uU, .bool true, uU, uU, uU, uU, .ref 1 0 0, uU, .ref 3 0 0, uU, uU, uU, uU, uU, uU, uU, uU, uU, uU, uU, uU, uU, uU, uU, uU, uU, uU, uU, uU, uU, uU, uU, uU, uU, uU, uU, uU, uU, uU, uU, uU, uU, uU, uU, uU, uU, uU, uU, uU, uU, uU, uU, uU, uU, uU, uU, uU, uU, uU, uU, uU, uU, uU, uU, uU, uU, uU, uU, uU, uU, uU, uU, uU, uU, uU, uU, uU, uU, uU, uU, uU, uU, uU, uU, uU, uU, uU, uU, uU, uU, uU, uU, uU, uU, uU, uU, uU, uU, uU, uU, uU, uU, uU, uU, uU, uU, uU, uU, uU, uU, uU, uU, uU, uU, uU, uU, uU, uU, uU, uU, uU, uU, uU, uU, uU, uU, uU, uU, uU, uU, uU, uU, uU, uU, uU, uU, uU, uU, uU, uU, uU, uU, uU, uU, uU, uU, uU, uU, uU, uU, uU, uU, uU, uU, uU, uU, uU, uU, uU, uU, uU, uU, uU, uU, uU, uU, uU, uU, uU, uU, uU, uU, uU, uU, uU, uU, uU, uU, uU, .ref 1 0 0, iI (c3.adults), .ref 1 0 1, iI (c3.children), uU, .ref 1 0 2, tint.lst (c3.rooms), .row 5 (2 + c3.rooms.length), uU, .ref 3 0 2, tint.lst (c4.1.rooms), .row 4 (2 + c4.1.rooms.length), .bool false, .bool true, .bool true, .bool true, .bool true], [.cells (cC b), .cells c10, .cells c6, .cells c9, .rows 3 1 (2 + c4.1.rooms.length) c11, .rows 3 1 (2 + c3.rooms.length) c14], []⟩ true (.telb 4 1 (2 + c4.1.rooms.length) c11 (rowsOf tint (([c4.1.adults, c4.1.children] : List Int) ++ c4.1.rooms)) (.telb 5 1 (2 + c3.rooms.length) c14 (rowsOf tint (([c3.adults, c3.children] : List Int) ++ c3.rooms)) (.out (.r0 true))))))))
noncomputable def g6 (b : Book) (w : Int) (x : List Int) : P6 → List Item × St
  | .e => bd Tryz.f6 [.agg (cC b), .int .u8 w, tu16.lst x] 198
  | .l0 x0_25 => (cutOf Tryz.f6 0, ⟨mk 201 [(3, .ref 0 0 0), (10, iI (w.tmod (b.days.length : Int))), (11, .ref 1 0 0), (12, .ref 2 0 0), (13, .ref 3 0 0), (25, iI x0_25)], [.cells (cC b), .cells [iI ((truthT b (w.tmod (b.days.length : Int)) x).adults), iI ((truthT b (w.tmod (b.days.length : Int)) x).children), tint.lst ((truthT b (w.tmod (b.days.length : Int)) x).rooms)], .cells [iI ((toldR b (w.tmod (b.days.length : Int)) (truthT b (w.tmod (b.days.length : Int)) x) x).price), tRoom.lst ((toldR b (w.tmod (b.days.length : Int)) (truthT b (w.tmod (b.days.length : Int)) x) x).rooms), tDay.lst ((toldR b (w.tmod (b.days.length : Int)) (truthT b (w.tmod (b.days.length : Int)) x) x).days)], .cells [iI ((firstT (toldR b (w.tmod (b.days.length : Int)) (truthT b (w.tmod (b.days.length : Int)) x) x) (w.tmod (b.days.length : Int))).1.adults), iI ((firstT (toldR b (w.tmod (b.days.length : Int)) (truthT b (w.tmod (b.days.length : Int)) x) x) (w.tmod (b.days.length : Int))).1.children), tint.lst ((firstT (toldR b (w.tmod (b.days.length : Int)) (truthT b (w.tmod (b.days.length : Int)) x) x) (w.tmod (b.days.length : Int))).1.rooms)]], []⟩)
noncomputable def n6 : R6 → Exit × St
  | .r0 r0 => (.ret, ⟨mk 201 [(6, .bool r0)], [], []⟩)
noncomputable def v6 : R6 → V
  | .r0 r0 => .bool r0
theorem s6 (b : Book) (w : Int) (x : List Int) : Sm 0 (g6 b w x) (T6 b w x) (n6)
  | .e => ⟨400, by kernel_rfl⟩
  | .l0 _ => ⟨400, by kernel_rfl⟩
theorem q6 : ∀ r, bodyQ Tryz.prog Tryz.f6 (· = v6 r) (n6 r).1 (n6 r).2
  | .r0 r0 => bq (.bool r0) (by kernel_rfl)
theorem w6 (b : Book) (w : Int) (x : List Int) {post : V → Prop} (h : WQ (T6 b w x) v6 post .e) : PC 6 [.agg (cC b), .int .u8 w, tu16.lst x] post :=
  PCalls.wq Tryz.func6 (s6 b w x) q6 h
def o6 : Array Oper := (regOf 21 (Tryz.f6.body.getD .skip)).getD #[]
@[reducible] noncomputable def st6 (b : Book) (c : Book) (t : Truth) (u : Truth) (c0 c1 c2 c3 c4 c5 c6 c7 c8 c9 c10 : Bool) : St := ⟨[uU, uU, uU, uU, uU, uU, uU, uU, uU, uU, uU, .ref 1 0 0, uU, .ref 3 0 0, uU, uU, uU, uU, uU, uU, uU, uU, uU, uU, uU, uU, uU, uU, .row 4 2, uU, uU, uU, uU, uU, uU, uU, uU, uU, uU, uU, uU, uU, uU, uU, uU, uU, uU, uU, uU, uU, uU, uU, uU, uU, uU, uU, uU, uU, uU, uU, uU, uU, uU, uU, uU, uU, uU, uU, uU, uU, uU, uU, uU, uU, uU, uU, uU, uU, uU, uU, uU, uU, uU, uU, uU, uU, uU, uU, uU, uU, uU, uU, uU, uU, uU, uU, uU, uU, uU, uU, uU, uU, uU, uU, uU, uU, uU, uU, uU, uU, uU, uU, uU, uU, uU, uU, uU, uU, uU, uU, uU, uU, uU, uU, uU, uU, uU, uU, uU, uU, uU, uU, uU, uU, uU, uU, uU, uU, uU, uU, uU, uU, uU, uU, uU, uU, uU, uU, uU, uU, uU, uU, uU, uU, uU, uU, uU, uU, uU, uU, uU, uU, uU, uU, uU, uU, uU, uU, uU, uU, uU, uU, uU, uU, uU, uU, uU, uU, uU, uU, uU, uU, uU, uU, bif c0 then .ref 1 0 0 else uU, bif c1 then iI (t.adults) else uU, bif c2 then .ref 1 0 1 else uU, bif c3 then iI (t.children) else uU, bif c7 then uU else (bif c4 then .row 5 2 else uU), bif c5 then .ref 1 0 2 else uU, bif c6 then tint.lst (t.rooms) else uU, bif c7 then .row 5 (2 + t.rooms.length) else uU, bif c8 then .row 4 2 else uU, bif c9 then .ref 3 0 2 else uU, bif c10 then tint.lst (u.rooms) else uU, uU, uU, uU, uU, uU, uU], [.cells (cC b), .cells [iI (t.adults), iI (t.children), tint.lst (t.rooms)], .cells [iI (c.price), tRoom.lst (c.rooms), tDay.lst (c.days)], .cells [iI (u.adults), iI (u.children), tint.lst (u.rooms)], .rows 3 1 2 (litC 1 2 [iI (u.adults), iI (u.children)])] ++ (bif c4 then [bif c7 then .rows 3 1 (2 + t.rooms.length) (appC 2 (litC 1 2 [iI (t.adults), iI (t.children)]) (rowsOf tint (t.rooms))) else .rows 3 1 2 (litC 1 2 [iI (t.adults), iI (t.children)])] else []), []⟩
theorem sp6_0 (b : Book) (c : Book) (t : Truth) (u : Truth) (hap : ((decide (2 = 2) && decide (2 + t.rooms.length ≤ 4294967296)) && true) = true) (c1 c2 c3 c4 c5 c6 c7 c8 c9 c10 : Bool) : AStep Tryz.prog ⟨none, 0⟩ o6 0 (st6 b c t u false c1 c2 c3 c4 c5 c6 c7 c8 c9 c10) (st6 b c t u true c1 c2 c3 c4 c5 c6 c7 c8 c9 c10) :=
  AStep.of_ops (AOps.run [0] [] _ (st6 b c t u true c1 c2 c3 c4 c5 c6 c7 c8 c9 c10) true (by kernel_rfl) (fun j hj => absurd hj (List.not_mem_nil)) (AOps.nil ⟨rfl, rfl⟩))
theorem sp6_1 (b : Book) (c : Book) (t : Truth) (u : Truth) (hap : ((decide (2 = 2) && decide (2 + t.rooms.length ≤ 4294967296)) && true) = true) (c2 c3 c4 c5 c6 c7 c8 c9 c10 : Bool) : AStep Tryz.prog ⟨none, 0⟩ o6 1 (st6 b c t u true false c2 c3 c4 c5 c6 c7 c8 c9 c10) (st6 b c t u true true c2 c3 c4 c5 c6 c7 c8 c9 c10) :=
  AStep.of_ops (AOps.run [1] [] _ (st6 b c t u true true c2 c3 c4 c5 c6 c7 c8 c9 c10) true (by kernel_rfl) (fun j hj => absurd hj (List.not_mem_nil)) (AOps.nil ⟨rfl, rfl⟩))
theorem sp6_2 (b : Book) (c : Book) (t : Truth) (u : Truth) (hap : ((decide (2 = 2) && decide (2 + t.rooms.length ≤ 4294967296)) && true) = true) (c0 c1 c3 c4 c5 c6 c7 c8 c9 c10 : Bool) : AStep Tryz.prog ⟨none, 0⟩ o6 2 (st6 b c t u c0 c1 false c3 c4 c5 c6 c7 c8 c9 c10) (st6 b c t u c0 c1 true c3 c4 c5 c6 c7 c8 c9 c10) :=
  AStep.of_ops (AOps.run [2] [] _ (st6 b c t u c0 c1 true c3 c4 c5 c6 c7 c8 c9 c10) true (by kernel_rfl) (fun j hj => absurd hj (List.not_mem_nil)) (AOps.nil ⟨rfl, rfl⟩))
theorem sp6_3 (b : Book) (c : Book) (t : Truth) (u : Truth) (hap : ((decide (2 = 2) && decide (2 + t.rooms.length ≤ 4294967296)) && true) = true) (c0 c1 c4 c5 c6 c7 c8 c9 c10 : Bool) : AStep Tryz.prog ⟨none, 0⟩ o6 3 (st6 b c t u c0 c1 true false c4 c5 c6 c7 c8 c9 c10) (st6 b c t u c0 c1 true true c4 c5 c6 c7 c8 c9 c10) :=
  AStep.of_ops (AOps.run [3] [] _ (st6 b c t u c0 c1 true true c4 c5 c6 c7 c8 c9 c10) true (by kernel_rfl) (fun j hj => absurd hj (List.not_mem_nil)) (AOps.nil ⟨rfl, rfl⟩))
theorem sp6_4 (b : Book) (c : Book) (t : Truth) (u : Truth) (hap : ((decide (2 = 2) && decide (2 + t.rooms.length ≤ 4294967296)) && true) = true) (c0 c2 c5 c6 c8 c9 c10 : Bool) : AStep Tryz.prog ⟨none, 0⟩ o6 4 (st6 b c t u c0 true c2 true false c5 c6 false c8 c9 c10) (st6 b c t u c0 true c2 true true c5 c6 false c8 c9 c10) :=
  AStep.of_ops (AOps.run [4] [] _ (st6 b c t u c0 true c2 true true c5 c6 false c8 c9 c10) true (by kernel_rfl) (fun j hj => absurd hj (List.not_mem_nil)) (AOps.nil ⟨rfl, rfl⟩))
theorem sp6_5 (b : Book) (c : Book) (t : Truth) (u : Truth) (hap : ((decide (2 = 2) && decide (2 + t.rooms.length ≤ 4294967296)) && true) = true) (c0 c1 c2 c3 c4 c6 c7 c8 c9 c10 : Bool) : AStep Tryz.prog ⟨none, 0⟩ o6 5 (st6 b c t u c0 c1 c2 c3 c4 false c6 c7 c8 c9 c10) (st6 b c t u c0 c1 c2 c3 c4 true c6 c7 c8 c9 c10) :=
  AStep.of_ops (AOps.run [5] [] _ (st6 b c t u c0 c1 c2 c3 c4 true c6 c7 c8 c9 c10) true (by kernel_rfl) (fun j hj => absurd hj (List.not_mem_nil)) (AOps.nil ⟨rfl, rfl⟩))
theorem sp6_6 (b : Book) (c : Book) (t : Truth) (u : Truth) (hap : ((decide (2 = 2) && decide (2 + t.rooms.length ≤ 4294967296)) && true) = true) (c0 c1 c2 c3 c4 c7 c8 c9 c10 : Bool) : AStep Tryz.prog ⟨none, 0⟩ o6 6 (st6 b c t u c0 c1 c2 c3 c4 true false c7 c8 c9 c10) (st6 b c t u c0 c1 c2 c3 c4 true true c7 c8 c9 c10) :=
  AStep.of_ops (AOps.run [6] [] _ (st6 b c t u c0 c1 c2 c3 c4 true true c7 c8 c9 c10) true (by kernel_rfl) (fun j hj => absurd hj (List.not_mem_nil)) (AOps.nil ⟨rfl, rfl⟩))
theorem sp6_7 (b : Book) (c : Book) (t : Truth) (u : Truth) (hap : ((decide (2 = 2) && decide (2 + t.rooms.length ≤ 4294967296)) && true) = true) (c0 c1 c2 c3 c5 c8 c9 c10 : Bool) : AStep Tryz.prog ⟨none, 0⟩ o6 7 (st6 b c t u c0 c1 c2 c3 true c5 true false c8 c9 c10) (st6 b c t u c0 c1 c2 c3 true c5 true true c8 c9 c10) :=
  AStep.of_ops (AOps.append (o := o6.getD 7 default) (t := 40) (s := .tmp 188) (x := .tmp 190) (p := fun r => (List.range 1).all fun j => (rowsOf tint t.rooms r j).scalar) (v := .row 5 (2 + t.rooms.length)) (S1 := { killS 5 (st6 b c t u c0 c1 c2 c3 true c5 true false c8 c9 c10) with h := (killS 5 (st6 b c t u c0 c1 c2 c3 true c5 true false c8 c9 c10)).h.set 5 (.rows 3 1 (2 + t.rooms.length) (appC 2 (litC 1 2 [iI (t.adults), iI (t.children)]) (rowsOf tint (t.rooms)))) }) (by kernel_rfl) (by kernel_rfl) (by kernel_rfl) (by kernel_rfl) hap (fun _ => rfl) (AOps.nil ⟨rfl, by cases c0 <;> cases c1 <;> cases c2 <;> cases c3 <;> cases c5 <;> cases c8 <;> cases c9 <;> cases c10 <;> kernel_rfl⟩))
theorem sp6_8 (b : Book) (c : Book) (t : Truth) (u : Truth) (hap : ((decide (2 = 2) && decide (2 + t.rooms.length ≤ 4294967296)) && true) = true) (c0 c1 c2 c3 c4 c5 c6 c7 c9 c10 : Bool) : AStep Tryz.prog ⟨none, 0⟩ o6 8 (st6 b c t u c0 c1 c2 c3 c4 c5 c6 c7 false c9 c10) (st6 b c t u c0 c1 c2 c3 c4 c5 c6 c7 true c9 c10) :=
  AStep.of_ops (AOps.run [8] [] _ (st6 b c t u c0 c1 c2 c3 c4 c5 c6 c7 true c9 c10) true (by kernel_rfl) (fun j hj => absurd hj (List.not_mem_nil)) (AOps.nil ⟨rfl, rfl⟩))
theorem sp6_9 (b : Book) (c : Book) (t : Truth) (u : Truth) (hap : ((decide (2 = 2) && decide (2 + t.rooms.length ≤ 4294967296)) && true) = true) (c0 c1 c2 c3 c4 c5 c6 c7 c8 c10 : Bool) : AStep Tryz.prog ⟨none, 0⟩ o6 9 (st6 b c t u c0 c1 c2 c3 c4 c5 c6 c7 c8 false c10) (st6 b c t u c0 c1 c2 c3 c4 c5 c6 c7 c8 true c10) :=
  AStep.of_ops (AOps.run [9] [] _ (st6 b c t u c0 c1 c2 c3 c4 c5 c6 c7 c8 true c10) true (by kernel_rfl) (fun j hj => absurd hj (List.not_mem_nil)) (AOps.nil ⟨rfl, rfl⟩))
theorem sp6_10 (b : Book) (c : Book) (t : Truth) (u : Truth) (hap : ((decide (2 = 2) && decide (2 + t.rooms.length ≤ 4294967296)) && true) = true) (c0 c1 c2 c3 c4 c5 c6 c7 c8 : Bool) : AStep Tryz.prog ⟨none, 0⟩ o6 10 (st6 b c t u c0 c1 c2 c3 c4 c5 c6 c7 c8 true false) (st6 b c t u c0 c1 c2 c3 c4 c5 c6 c7 c8 true true) :=
  AStep.of_ops (AOps.run [10] [] _ (st6 b c t u c0 c1 c2 c3 c4 c5 c6 c7 c8 true true) true (by kernel_rfl) (fun j hj => absurd hj (List.not_mem_nil)) (AOps.nil ⟨rfl, rfl⟩))
theorem fr6 (b : Book) (c : Book) (t : Truth) (u : Truth) (hap : ((decide (2 = 2) && decide (2 + t.rooms.length ≤ 4294967296)) && true) = true) {Q : Exit → St → Prop} (hl : AOps Tryz.prog ⟨none, 0⟩ o6 [11, 12, 13, 14, 15, 16, 17] (st6 b c t u true true true true true true true true true true true) Q) : AWP Tryz.prog ⟨none, 0⟩ (regionOf Tryz.f6 21) (st6 b c t u false false false false false false false false false false false) Q := by
  have z_sz : o6.size = 18 := by kernel_rfl
  refine AWP.region_anyC (ops := o6) 11 mx (by kernel_rfl) (by omega) (fun j_ z_1 z_2 => ?_) (fun l_ => st6 b c t u (l_.getD 0 false) (l_.getD 1 false) (l_.getD 2 false) (l_.getD 3 false) (l_.getD 4 false) (l_.getD 5 false) (l_.getD 6 false) (l_.getD 7 false) (l_.getD 8 false) (l_.getD 9 false) (l_.getD 10 false)) (fun β_ G_ K_ a_ w_ r_ => ⟨β_, Homes.le_refl _, ?_⟩) (fun l_ i_ z_l z_i z_li z_j z_c z_r => ?_) (fun l_ z_l z_1 z_2 => ?_)
  · rcases show j_ = 11 ∨ j_ = 12 ∨ j_ = 13 ∨ j_ = 14 ∨ j_ = 15 ∨ j_ = 16 ∨ j_ = 17 by omega with rfl | rfl | rfl | rfl | rfl | rfl | rfl
    all_goals kernel_rfl
  · rw [z_sz]; exact r_
  · have z_lt : i_ < l_.size := by omega
    simp only [gset z_lt]
    rcases show i_ = 0 ∨ i_ = 1 ∨ i_ = 2 ∨ i_ = 3 ∨ i_ = 4 ∨ i_ = 5 ∨ i_ = 6 ∨ i_ = 7 ∨ i_ = 8 ∨ i_ = 9 ∨ i_ = 10 by omega with rfl | rfl | rfl | rfl | rfl | rfl | rfl | rfl | rfl | rfl | rfl
    · simp only [Nat.reduceEqDiff, if_true, if_false, reduceIte, z_li]
      exact sp6_0 b c t u hap _ _ _ _ _ _ _ _ _ _
    · have z_g0 := dep_ready (ops := o6) (i := 1) (j := 0) (by kernel_rfl) z_r
      simp only [Nat.reduceEqDiff, if_true, if_false, reduceIte, z_li, z_g0]
      exact sp6_1 b c t u hap _ _ _ _ _ _ _ _ _
    · simp only [Nat.reduceEqDiff, if_true, if_false, reduceIte, z_li]
      exact sp6_2 b c t u hap _ _ _ _ _ _ _ _ _ _
    · have z_g2 := dep_ready (ops := o6) (i := 3) (j := 2) (by kernel_rfl) z_r
      simp only [Nat.reduceEqDiff, if_true, if_false, reduceIte, z_li, z_g2]
      exact sp6_3 b c t u hap _ _ _ _ _ _ _ _ _
    · have z_g1 := dep_ready (ops := o6) (i := 4) (j := 1) (by kernel_rfl) z_r
      have z_g3 := dep_ready (ops := o6) (i := 4) (j := 3) (by kernel_rfl) z_r
      have z_g7 := dep_not (ops := o6) (i := 7) (j := 4) (by kernel_rfl) z_c z_li
      simp only [Nat.reduceEqDiff, if_true, if_false, reduceIte, z_li, z_g1, z_g3, z_g7]
      exact sp6_4 b c t u hap _ _ _ _ _ _ _
    · simp only [Nat.reduceEqDiff, if_true, if_false, reduceIte, z_li]
      exact sp6_5 b c t u hap _ _ _ _ _ _ _ _ _ _
    · have z_g5 := dep_ready (ops := o6) (i := 6) (j := 5) (by kernel_rfl) z_r
      simp only [Nat.reduceEqDiff, if_true, if_false, reduceIte, z_li, z_g5]
      exact sp6_6 b c t u hap _ _ _ _ _ _ _ _ _
    · have z_g4 := dep_ready (ops := o6) (i := 7) (j := 4) (by kernel_rfl) z_r
      have z_g6 := dep_ready (ops := o6) (i := 7) (j := 6) (by kernel_rfl) z_r
      simp only [Nat.reduceEqDiff, if_true, if_false, reduceIte, z_li, z_g4, z_g6]
      exact sp6_7 b c t u hap _ _ _ _ _ _ _ _
    · simp only [Nat.reduceEqDiff, if_true, if_false, reduceIte, z_li]
      exact sp6_8 b c t u hap _ _ _ _ _ _ _ _ _ _
    · simp only [Nat.reduceEqDiff, if_true, if_false, reduceIte, z_li]
      exact sp6_9 b c t u hap _ _ _ _ _ _ _ _ _ _
    · have z_g9 := dep_ready (ops := o6) (i := 10) (j := 9) (by kernel_rfl) z_r
      simp only [Nat.reduceEqDiff, if_true, if_false, reduceIte, z_li, z_g9]
      exact sp6_10 b c t u hap _ _ _ _ _ _ _ _ _
  · simp only [z_1 0 (by omega), z_1 1 (by omega), z_1 2 (by omega), z_1 3 (by omega), z_1 4 (by omega), z_1 5 (by omega), z_1 6 (by omega), z_1 7 (by omega), z_1 8 (by omega), z_1 9 (by omega), z_1 10 (by omega)]
    rw [z_sz]
    exact hl
theorem list_le {w n : Nat} {c c' : Nat → Nat → V} (h : ∀ r j, r < n → j < w → VLe (c r j) (c' r j)) : VLe (.list w n c) (.list w n c') := fun G β x hx => by
  cases hx with
  | list0 => exact .list0
  | list h1 h2 h3 h4 h5 =>
    exact .list h1 h2 h3 h4 fun r j hr hj => h r j hr hj _ _ _ (h5 r j hr hj)
theorem key_row (t : Truth) : VLe (.list 1 (2 + t.rooms.length) (appC 2 (litC 1 2 [iI t.adults, iI t.children]) (rowsOf tint t.rooms))) (tint.lst (keyR t)) := fun G β x hx =>
  len2 t.adults t.children t.rooms _ _ _ (list_le (fun r j _ hj => tel_cat2 t.adults t.children t.rooms r j hj) _ _ _ hx)
theorem c41k {t u : Truth} (h : less (keyR t) (keyR u) = false) : PC 41 [.list 1 (2 + t.rooms.length) (appC 2 (litC 1 2 [iI t.adults, iI t.children]) (rowsOf tint t.rooms)), .list 1 (2 + u.rooms.length) (appC 2 (litC 1 2 [iI u.adults, iI u.children]) (rowsOf tint u.rooms))] (· = .bool false) := by
  have h1 := PCalls.arg (pre := []) (c41 (keyR t) (keyR u)) (key_row t)
  rw [h] at h1
  exact PCalls.arg (pre := [.list 1 (2 + t.rooms.length) (appC 2 (litC 1 2 [iI t.adults, iI t.children]) (rowsOf tint t.rooms))]) h1 (key_row u)
theorem ov6 (b c : Book) (t u : Truth) (ht : t.rooms.length ≤ 1000) (hu : u.rooms.length ≤ 1000) (hless : less (keyR t) (keyR u) = false) : AWP Tryz.prog ⟨none, 0⟩ (regionOf Tryz.f6 21) ⟨[uU, uU, uU, uU, uU, uU, uU, uU, uU, uU, uU, .ref 1 0 0, uU, .ref 3 0 0, uU, uU, uU, uU, uU, uU, uU, uU, uU, uU, uU, uU, uU, uU, .row 4 2, uU, uU, uU, uU, uU, uU, uU, uU, uU, uU, uU, uU, uU, uU, uU, uU, uU, uU, uU, uU, uU, uU, uU, uU, uU, uU, uU, uU, uU, uU, uU, uU, uU, uU, uU, uU, uU, uU, uU, uU, uU, uU, uU, uU, uU, uU, uU, uU, uU, uU, uU, uU, uU, uU, uU, uU, uU, uU, uU, uU, uU, uU, uU, uU, uU, uU, uU, uU, uU, uU, uU, uU, uU, uU, uU, uU, uU, uU, uU, uU, uU, uU, uU, uU, uU, uU, uU, uU, uU, uU, uU, uU, uU, uU, uU, uU, uU, uU, uU, uU, uU, uU, uU, uU, uU, uU, uU, uU, uU, uU, uU, uU, uU, uU, uU, uU, uU, uU, uU, uU, uU, uU, uU, uU, uU, uU, uU, uU, uU, uU, uU, uU, uU, uU, uU, uU, uU, uU, uU, uU, uU, uU, uU, uU, uU, uU, uU, uU, uU, uU, uU, uU, uU, uU, uU, uU, uU, uU, uU, uU, uU, uU, uU, uU, uU, uU, uU, uU, uU, uU, uU, uU], [.cells (cC b), .cells [iI (t.adults), iI (t.children), tint.lst (t.rooms)], .cells [iI (c.price), tRoom.lst (c.rooms), tDay.lst (c.days)], .cells [iI (u.adults), iI (u.children), tint.lst (u.rooms)], .rows 3 1 2 (litC 1 2 [iI (u.adults), iI (u.children)])], []⟩ (fun e T => e = .normal ∧ T = ⟨[uU, uU, uU, uU, uU, uU, .bool true, uU, uU, uU, uU, .ref 1 0 0, uU, .ref 3 0 0, uU, uU, uU, uU, uU, uU, uU, uU, uU, uU, uU, uU, uU, uU, uU, uU, uU, uU, uU, uU, uU, uU, uU, uU, uU, uU, uU, uU, uU, uU, uU, uU, uU, uU, uU, uU, uU, uU, uU, uU, uU, uU, uU, uU, uU, uU, uU, uU, uU, uU, uU, uU, uU, uU, uU, uU, uU, uU, uU, uU, uU, uU, uU, uU, uU, uU, uU, uU, uU, uU, uU, uU, uU, uU, uU, uU, uU, uU, uU, uU, uU, uU, uU, uU, uU, uU, uU, uU, uU, uU, uU, uU, uU, uU, uU, uU, uU, uU, uU, uU, uU, uU, uU, uU, uU, uU, uU, uU, uU, uU, uU, uU, uU, uU, uU, uU, uU, uU, uU, uU, uU, uU, uU, uU, uU, uU, uU, uU, uU, uU, uU, uU, uU, uU, uU, uU, uU, uU, uU, uU, uU, uU, uU, uU, uU, uU, uU, uU, uU, uU, uU, uU, uU, uU, uU, uU, uU, uU, uU, uU, uU, uU, uU, uU, uU, uU, uU, uU, uU, uU, .ref 1 0 0, iI (t.adults), .ref 1 0 1, iI (t.children), uU, .ref 1 0 2, tint.lst (t.rooms), .row 5 (2 + t.rooms.length), uU, .ref 3 0 2, tint.lst (u.rooms), .row 4 (2 + u.rooms.length), .bool false, .bool true, .bool true, .bool true, .bool true], [.cells (cC b), .cells [iI (t.adults), iI (t.children), tint.lst (t.rooms)], .cells [iI (c.price), tRoom.lst (c.rooms), tDay.lst (c.days)], .cells [iI (u.adults), iI (u.children), tint.lst (u.rooms)], .rows 3 1 (2 + u.rooms.length) (appC 2 (litC 1 2 [iI (u.adults), iI (u.children)]) (rowsOf tint (u.rooms))), .rows 3 1 (2 + t.rooms.length) (appC 2 (litC 1 2 [iI (t.adults), iI (t.children)]) (rowsOf tint (t.rooms)))], []⟩) := by
  have hap : ((decide (2 = 2) && decide (2 + t.rooms.length ≤ 4294967296)) && true) = true := by simp; omega
  have hau : ((decide (2 = 2) && decide (2 + u.rooms.length ≤ 4294967296)) && true) = true := by simp; omega
  refine fr6 b c t u hap ?_
  refine AOps.append (o := o6.getD 11 default) (t := 40) (s := .tmp 192) (x := .tmp 194) (ob := (decide (2 = 2) && decide (2 + u.rooms.length ≤ 4294967296)) && true) (p := fun r => (List.range 1).all fun j => (rowsOf tint u.rooms r j).scalar) (v := .row 4 (2 + u.rooms.length)) (S1 := ⟨[uU, uU, uU, uU, uU, uU, uU, uU, uU, uU, uU, .ref 1 0 0, uU, .ref 3 0 0, uU, uU, uU, uU, uU, uU, uU, uU, uU, uU, uU, uU, uU, uU, uU, uU, uU, uU, uU, uU, uU, uU, uU, uU, uU, uU, uU, uU, uU, uU, uU, uU, uU, uU, uU, uU, uU, uU, uU, uU, uU, uU, uU, uU, uU, uU, uU, uU, uU, uU, uU, uU, uU, uU, uU, uU, uU, uU, uU, uU, uU, uU, uU, uU, uU, uU, uU, uU, uU, uU, uU, uU, uU, uU, uU, uU, uU, uU, uU, uU, uU, uU, uU, uU, uU, uU, uU, uU, uU, uU, uU, uU, uU, uU, uU, uU, uU, uU, uU, uU, uU, uU, uU, uU, uU, uU, uU, uU, uU, uU, uU, uU, uU, uU, uU, uU, uU, uU, uU, uU, uU, uU, uU, uU, uU, uU, uU, uU, uU, uU, uU, uU, uU, uU, uU, uU, uU, uU, uU, uU, uU, uU, uU, uU, uU, uU, uU, uU, uU, uU, uU, uU, uU, uU, uU, uU, uU, uU, uU, uU, uU, uU, uU, uU, uU, uU, uU, uU, uU, uU, .ref 1 0 0, iI (t.adults), .ref 1 0 1, iI (t.children), uU, .ref 1 0 2, tint.lst (t.rooms), .row 5 (2 + t.rooms.length), uU, .ref 3 0 2, tint.lst (u.rooms), uU, uU, uU, uU, uU, uU], [.cells (cC b), .cells [iI (t.adults), iI (t.children), tint.lst (t.rooms)], .cells [iI (c.price), tRoom.lst (c.rooms), tDay.lst (c.days)], .cells [iI (u.adults), iI (u.children), tint.lst (u.rooms)], .rows 3 1 (2 + u.rooms.length) (appC 2 (litC 1 2 [iI (u.adults), iI (u.children)]) (rowsOf tint (u.rooms))), .rows 3 1 (2 + t.rooms.length) (appC 2 (litC 1 2 [iI (t.adults), iI (t.children)]) (rowsOf tint (t.rooms)))], []⟩) (by kernel_rfl) (by kernel_rfl) (by kernel_rfl) (by kernel_rfl) hau (fun _ => rfl) ?_
  refine (show AOps Tryz.prog ⟨none, 0⟩ o6 [12, 13, 14, 15, 16, 17] ⟨[uU, uU, uU, uU, uU, uU, uU, uU, uU, uU, uU, .ref 1 0 0, uU, .ref 3 0 0, uU, uU, uU, uU, uU, uU, uU, uU, uU, uU, uU, uU, uU, uU, uU, uU, uU, uU, uU, uU, uU, uU, uU, uU, uU, uU, uU, uU, uU, uU, uU, uU, uU, uU, uU, uU, uU, uU, uU, uU, uU, uU, uU, uU, uU, uU, uU, uU, uU, uU, uU, uU, uU, uU, uU, uU, uU, uU, uU, uU, uU, uU, uU, uU, uU, uU, uU, uU, uU, uU, uU, uU, uU, uU, uU, uU, uU, uU, uU, uU, uU, uU, uU, uU, uU, uU, uU, uU, uU, uU, uU, uU, uU, uU, uU, uU, uU, uU, uU, uU, uU, uU, uU, uU, uU, uU, uU, uU, uU, uU, uU, uU, uU, uU, uU, uU, uU, uU, uU, uU, uU, uU, uU, uU, uU, uU, uU, uU, uU, uU, uU, uU, uU, uU, uU, uU, uU, uU, uU, uU, uU, uU, uU, uU, uU, uU, uU, uU, uU, uU, uU, uU, uU, uU, uU, uU, uU, uU, uU, uU, uU, uU, uU, uU, uU, uU, uU, uU, uU, uU, .ref 1 0 0, iI (t.adults), .ref 1 0 1, iI (t.children), uU, .ref 1 0 2, tint.lst (t.rooms), .row 5 (2 + t.rooms.length), uU, .ref 3 0 2, tint.lst (u.rooms), .row 4 (2 + u.rooms.length), uU, uU, uU, uU, uU], [.cells (cC b), .cells [iI (t.adults), iI (t.children), tint.lst (t.rooms)], .cells [iI (c.price), tRoom.lst (c.rooms), tDay.lst (c.days)], .cells [iI (u.adults), iI (u.children), tint.lst (u.rooms)], .rows 3 1 (2 + u.rooms.length) (appC 2 (litC 1 2 [iI (u.adults), iI (u.children)]) (rowsOf tint (u.rooms))), .rows 3 1 (2 + t.rooms.length) (appC 2 (litC 1 2 [iI (t.adults), iI (t.children)]) (rowsOf tint (t.rooms)))], []⟩ _ from ?_)
  refine AOps.call_snap (o := o6.getD 12 default) (fo := .func 41) (args := #[.tmp 191, .tmp 195]) (ts := #[40, 40]) (g := 41) (first := []) (caps := []) (us := [.list 1 (2 + t.rooms.length) (appC 2 (litC 1 2 [iI t.adults, iI t.children]) (rowsOf tint t.rooms)), .list 1 (2 + u.rooms.length) (appC 2 (litC 1 2 [iI u.adults, iI u.children]) (rowsOf tint u.rooms))]) (by kernel_rfl) (by kernel_rfl) (by kernel_rfl) (by kernel_rfl) (by kernel_rfl)
    (fun j hj => ?_) (c41k hless) (.inr fun v hv => by subst hv; rfl) fun v hv => ?_
  · match j, hj with
    | 0, _ => exact Snap.row (m := 2 + t.rooms.length) rfl (Nat.le_refl _)
    | 1, _ => exact Snap.row (m := 2 + u.rooms.length) rfl (Nat.le_refl _)
  subst hv
  refine (show AOps Tryz.prog ⟨none, 0⟩ o6 [13, 14, 15, 16, 17] ⟨[uU, uU, uU, uU, uU, uU, uU, uU, uU, uU, uU, .ref 1 0 0, uU, .ref 3 0 0, uU, uU, uU, uU, uU, uU, uU, uU, uU, uU, uU, uU, uU, uU, uU, uU, uU, uU, uU, uU, uU, uU, uU, uU, uU, uU, uU, uU, uU, uU, uU, uU, uU, uU, uU, uU, uU, uU, uU, uU, uU, uU, uU, uU, uU, uU, uU, uU, uU, uU, uU, uU, uU, uU, uU, uU, uU, uU, uU, uU, uU, uU, uU, uU, uU, uU, uU, uU, uU, uU, uU, uU, uU, uU, uU, uU, uU, uU, uU, uU, uU, uU, uU, uU, uU, uU, uU, uU, uU, uU, uU, uU, uU, uU, uU, uU, uU, uU, uU, uU, uU, uU, uU, uU, uU, uU, uU, uU, uU, uU, uU, uU, uU, uU, uU, uU, uU, uU, uU, uU, uU, uU, uU, uU, uU, uU, uU, uU, uU, uU, uU, uU, uU, uU, uU, uU, uU, uU, uU, uU, uU, uU, uU, uU, uU, uU, uU, uU, uU, uU, uU, uU, uU, uU, uU, uU, uU, uU, uU, uU, uU, uU, uU, uU, uU, uU, uU, uU, uU, uU, .ref 1 0 0, iI (t.adults), .ref 1 0 1, iI (t.children), uU, .ref 1 0 2, tint.lst (t.rooms), .row 5 (2 + t.rooms.length), uU, .ref 3 0 2, tint.lst (u.rooms), .row 4 (2 + u.rooms.length), .bool false, uU, uU, uU, uU], [.cells (cC b), .cells [iI (t.adults), iI (t.children), tint.lst (t.rooms)], .cells [iI (c.price), tRoom.lst (c.rooms), tDay.lst (c.days)], .cells [iI (u.adults), iI (u.children), tint.lst (u.rooms)], .rows 3 1 (2 + u.rooms.length) (appC 2 (litC 1 2 [iI (u.adults), iI (u.children)]) (rowsOf tint (u.rooms))), .rows 3 1 (2 + t.rooms.length) (appC 2 (litC 1 2 [iI (t.adults), iI (t.children)]) (rowsOf tint (t.rooms)))], []⟩ _ from ?_)
  refine AOps.run [13, 14] [15, 16, 17] _ ⟨[uU, uU, uU, uU, uU, uU, uU, uU, uU, uU, uU, .ref 1 0 0, uU, .ref 3 0 0, uU, uU, uU, uU, uU, uU, uU, uU, uU, uU, uU, uU, uU, uU, uU, uU, uU, uU, uU, uU, uU, uU, uU, uU, uU, uU, uU, uU, uU, uU, uU, uU, uU, uU, uU, uU, uU, uU, uU, uU, uU, uU, uU, uU, uU, uU, uU, uU, uU, uU, uU, uU, uU, uU, uU, uU, uU, uU, uU, uU, uU, uU, uU, uU, uU, uU, uU, uU, uU, uU, uU, uU, uU, uU, uU, uU, uU, uU, uU, uU, uU, uU, uU, uU, uU, uU, uU, uU, uU, uU, uU, uU, uU, uU, uU, uU, uU, uU, uU, uU, uU, uU, uU, uU, uU, uU, uU, uU, uU, uU, uU, uU, uU, uU, uU, uU, uU, uU, uU, uU, uU, uU, uU, uU, uU, uU, uU, uU, uU, uU, uU, uU, uU, uU, uU, uU, uU, uU, uU, uU, uU, uU, uU, uU, uU, uU, uU, uU, uU, uU, uU, uU, uU, uU, uU, uU, uU, uU, uU, uU, uU, uU, uU, uU, uU, uU, uU, uU, uU, uU, .ref 1 0 0, iI (t.adults), .ref 1 0 1, iI (t.children), uU, .ref 1 0 2, tint.lst (t.rooms), .row 5 (2 + t.rooms.length), uU, .ref 3 0 2, tint.lst (u.rooms), .row 4 (2 + u.rooms.length), .bool false, .bool true, .bool true, uU, uU], [.cells (cC b), .cells [iI (t.adults), iI (t.children), tint.lst (t.rooms)], .cells [iI (c.price), tRoom.lst (c.rooms), tDay.lst (c.days)], .cells [iI (u.adults), iI (u.children), tint.lst (u.rooms)], .rows 3 1 (2 + u.rooms.length) (appC 2 (litC 1 2 [iI (u.adults), iI (u.children)]) (rowsOf tint (u.rooms))), .rows 3 1 (2 + t.rooms.length) (appC 2 (litC 1 2 [iI (t.adults), iI (t.children)]) (rowsOf tint (t.rooms)))], []⟩ true (by kernel_rfl) (fun j hj => absurd hj List.not_mem_nil) ?_
  refine AOps.call_snap (o := o6.getD 15 default) (fo := .func 21) (args := #[]) (ts := #[]) (g := 21) (first := []) (caps := []) (us := []) (by kernel_rfl) (by kernel_rfl) (by kernel_rfl) (by kernel_rfl) (by kernel_rfl)
    (fun j hj => absurd hj (Nat.not_lt_zero _)) c21 (.inl ⟨rfl, rfl⟩) fun v hv => ?_
  subst hv
  exact AOps.run [16, 17] [] _ ⟨[uU, uU, uU, uU, uU, uU, .bool true, uU, uU, uU, uU, .ref 1 0 0, uU, .ref 3 0 0, uU, uU, uU, uU, uU, uU, uU, uU, uU, uU, uU, uU, uU, uU, uU, uU, uU, uU, uU, uU, uU, uU, uU, uU, uU, uU, uU, uU, uU, uU, uU, uU, uU, uU, uU, uU, uU, uU, uU, uU, uU, uU, uU, uU, uU, uU, uU, uU, uU, uU, uU, uU, uU, uU, uU, uU, uU, uU, uU, uU, uU, uU, uU, uU, uU, uU, uU, uU, uU, uU, uU, uU, uU, uU, uU, uU, uU, uU, uU, uU, uU, uU, uU, uU, uU, uU, uU, uU, uU, uU, uU, uU, uU, uU, uU, uU, uU, uU, uU, uU, uU, uU, uU, uU, uU, uU, uU, uU, uU, uU, uU, uU, uU, uU, uU, uU, uU, uU, uU, uU, uU, uU, uU, uU, uU, uU, uU, uU, uU, uU, uU, uU, uU, uU, uU, uU, uU, uU, uU, uU, uU, uU, uU, uU, uU, uU, uU, uU, uU, uU, uU, uU, uU, uU, uU, uU, uU, uU, uU, uU, uU, uU, uU, uU, uU, uU, uU, uU, uU, uU, .ref 1 0 0, iI (t.adults), .ref 1 0 1, iI (t.children), uU, .ref 1 0 2, tint.lst (t.rooms), .row 5 (2 + t.rooms.length), uU, .ref 3 0 2, tint.lst (u.rooms), .row 4 (2 + u.rooms.length), .bool false, .bool true, .bool true, .bool true, .bool true], [.cells (cC b), .cells [iI (t.adults), iI (t.children), tint.lst (t.rooms)], .cells [iI (c.price), tRoom.lst (c.rooms), tDay.lst (c.days)], .cells [iI (u.adults), iI (u.children), tint.lst (u.rooms)], .rows 3 1 (2 + u.rooms.length) (appC 2 (litC 1 2 [iI (u.adults), iI (u.children)]) (rowsOf tint (u.rooms))), .rows 3 1 (2 + t.rooms.length) (appC 2 (litC 1 2 [iI (t.adults), iI (t.children)]) (rowsOf tint (t.rooms)))], []⟩ true (by kernel_rfl) (fun j hj => absurd hj List.not_mem_nil) (AOps.nil ⟨rfl, rfl⟩)
end
noncomputable section
theorem true_how {c : Book} {d : Int} (ha : askedR c d = 0) {t : Truth} (ht : t ∈ agreeD c d) :
    (firstT c d).2.2 = 0 ∧ (visR c d).2.2 = 0 ∧ (couldR c d).2 = 0 ∧ (missedR c d).1 = 0 ∧ (missedR c d).2 = 0 ∧ 1 ≤ (firstT c d).2.1 ∧ insideR t.adults (visR c d).1 = true ∧ insideR t.children (visR c d).2.1 = true ∧
    insideR (dayOf c d).taken (couldR c d).1 = true ∧ less (keyR t) (keyR (firstT c d).1) = false ∧ explainsR c d [] = true := by
  obtain ⟨h, hd1, hd2, hday⟩ := asked_ok ha
  have h0 := List.length_pos_of_mem ht
  have hx : explainsR c d [] = true := explains_nil.2 h0
  obtain ⟨g1, g2⟩ := taken_in ha ht
  have hf : (firstT c d).2.2 = 0 ∧ firstT c d = (bestD (agreeD c d), ((agreeD c d).length : Int), 0) := by
    rcases first_err ha with ⟨q1, -, q2, -⟩ | ⟨-, -, -, q⟩
    · exact ⟨q1, q2⟩
    · omega
  have hm : missedR c d = (0, 0) := by
    rcases missed_how ha with ⟨m, hm, e, h1, h2⟩ | ⟨e, h1⟩
    · cases m with
      | zero => exact e
      | succ m =>
        have := h2 0 (by omega)
        rw [show ((0 : Nat) : Int) = 0 from rfl, miss_zero ⟨hd1, hd2⟩, hx] at this; cases this
    · have := h1 0 (by omega)
      rw [show ((0 : Nat) : Int) = 0 from rfl, miss_zero ⟨hd1, hd2⟩, hx] at this; cases this
  have hv := (vis_ok ha).2 h0
  refine ⟨hf.1, by rw [hv], g1, by rw [hm], by rw [hm], by rw [hf.2]; show (1 : Int) ≤ ((agreeD c d).length : Int); omega, ?_, ?_, g2, ?_, hx⟩
  · rw [hv]; exact inside_span (f := fun t => t.adults) ht keyR_0
  · rw [hv]; exact inside_span (f := fun t => t.children) ht keyR_1
  · rw [hf.2]; exact best_least ht
theorem w6_0 (b : Book) (w : Int) (x : List Int) (hnr : b.rooms.length ≤ 3) {d : Int} {t : Truth} {c : Book} (hdd : w.tmod (b.days.length : Int) = d) (hT : truthT b d x = t) (hC : toldR b d t x = c) (hsc : SmB c) (hr : c.rooms.length = b.rooms.length)
    (ha : askedR c d = 0) (ht : t ∈ agreeD c d) (hlen : t.rooms.length = b.rooms.length) : WP Tryz.prog ⟨none, 0⟩ (T6 b w x) (Ends' fun r => v6 r = .bool true) (.l0 0) := by
  have h0 := List.length_pos_of_mem ht
  have hls := (true_how ha ht).2.2.2.2.2.2.2.2.2.1
  have k6 := ov6 b c t (firstT c d).1 (by omega) (first_len c d) hls
  refine WP.run (fun i => .l0 (i : Int)) rfl b.rooms.length (fun i hi => ?_) ?_
  · have hri : inR .i64 ((i : Int) + 1) = true := inR64 (by omega) (by omega)
    have hi' : (i : Int) < b.rooms.length := by omega
    have hi2 : (i : Int) < t.rooms.length := by omega
    have e1 := room_ok ha h0 (show i < c.rooms.length by omega)
    have hin := inside_span (f := roomG i) (at_ := 2 + (i : Int)) ht (fun t => roomG_key i t)
    have hrg : roomG i t = t.rooms.getD i 0 := rfl
    rw [hrg] at hin
    have k1 := c27 c d (i : Int) hsc
    rw [e1] at k1
    have a1 : (roomR c d (i : Int)).1 = spanR (agreeD c d) (2 + (i : Int)) := by rw [e1]
    have a2 : (roomR c d (i : Int)).2 = 0 := by rw [e1]
    clear e1 k6 hls hrg
    generalize hv : t.rooms.getD i 0 = v at *
    refine WP.once ?_
    simp only [T6, Tr.sure, SS, hdd, hT, hC, hi', hi2, z1, hv, a1, a2]
    repeat' with_reducible first | intro _ | apply And.intro
    all_goals first | exact k1 | exact (c39 _ _) | (simp [hri, hin, Go, Ends', v6, -List.getD_eq_getElem?_getD, *]; done) | (simp_all [hri, hin, Go, Ends', v6, -List.getD_eq_getElem?_getD]; done)
  · refine WP.step ?_
    simp only [T6, Go, Ends', v6, Tr.sure, SS, Int.lt_irrefl, hdd, hT, hC]
    repeat' with_reducible first | intro _ | apply And.intro
    all_goals first | exact k6 | exact (by with_reducible exact tel_cat2 _ _ _ _ _ ‹_›)
set_option maxHeartbeats 8000000 in
theorem c6 (b : Book) (w : Int) (x : List Int) (hw : 0 ≤ w ∧ w ≤ 255) (hx : U16 x) (hs : SmB b) : PC 6 [.agg (tBook.cells b), .int .u8 w, tu16.lst x] (· = .bool true) := by
  have hcv : inR .i64 w = true := inR64 (by omega) (by omega)
  by_cases hg : validR b = true ∧ 0 < b.days.length
  · obtain ⟨hv, hl⟩ := hg
    have hok := valid_ok hv
    have hz : ¬ (b.days.length : Int) = 0 := by omega
    have hzb : ((b.days.length : Int) == 0) = false := beq_eq_false_iff_ne.2 hz
    have hd := which_in hw.1 hl
    obtain ⟨d, hdd⟩ : ∃ d, w.tmod (b.days.length : Int) = d := ⟨_, rfl⟩
    rw [hdd] at hd
    have hday : OkDay b (dayOf b d) := hok.day _ (getD_mem zDay b.days d.toNat (by omega))
    have hf := truth_fine hok hday hx
    have k37 := c37 b d x hok hd hx
    have k38 := c38 b d (truthT b d x) x hok hd hf hx
    have hvc := told_check hv hd hf hx
    have hag := told_agree hok hd hf hx
    have hcl : (toldR b d (truthT b d x) x).days.length = b.days.length := by simp [toldR]
    have hcr : (toldR b d (truthT b d x) x).rooms.length = b.rooms.length := rfl
    obtain ⟨t, hT⟩ : ∃ t, truthT b d x = t := ⟨_, rfl⟩
    rw [hT] at hf k37 k38 hvc hag hcl hcr
    obtain ⟨c, hC⟩ : ∃ c, toldR b d t x = c := ⟨_, rfl⟩
    rw [hC] at k38 hvc hag hcl hcr
    have hokc := valid_ok hvc
    have hsc := SmB.of_ok hokc
    have ha := asked_in hvc (d := d) (by rw [hcl]; exact hd)
    have hdayc : OkDay c (dayOf c d) := hokc.day _ (getD_mem zDay c.days d.toNat (by omega))
    have hmain := w6_0 b w x hok.nr hdd hT hC hsc hcr ha hag hf.len
    obtain ⟨f1, f2, f3, f4, f5, f6, f7, f8, f9, -, f11⟩ := true_how ha hag
    have k22 := c22 c d hsc
    have k25 := c25 c d hsc
    have k19 := c19 c d hsc
    have k33 := c33 c hsc
    have k31 := c31 c d hsc
    have ew := wrong_ok hvc
    have ew1 : (wrongR c).1 = wrongAll c c.days.length := by rw [ew]
    have ew2 : (wrongR c).2 = 0 := by rw [ew]
    have hoff : offR c d = [] := List.length_eq_zero_iff.1 ((off_nil hokc hdayc).2 f11)
    have hof : ofDay d (wrongAll c c.days.length) = [] := by
      have := ofDay_wrong c c.days.length d.toNat
      rw [Int.toNat_of_nonneg hd.1, if_pos (by omega), hoff] at this; exact this
    have hwl := wrong_len hokc c.days.length
    have k40 := c40 (wrongAll c c.days.length) d (by have := hokc.nd; omega)
    rw [hof] at k40
    rw [ew] at k33
    rw [f1] at k22
    rw [f2] at k25
    rw [f3] at k19
    rw [f4, f5] at k31
    have hdo : c.days.getD d.toNat zDay = dayOf c d := rfl
    have hn1 : ¬ (firstT c d).2.1 < 1 := by omega
    have hdl : d < (c.days.length : Int) := by omega
    generalize wrongAll c c.days.length = WC at *
    clear hwl ew hoff hag ha hdayc hday
    refine w6 b w x (WP.step ?_)
    simp only [T6, Go, Ends', v6, Tr.sure, SS, hzb, hz, hdd, hT, hC, f1, f2, f3, f4, f5, ew1, ew2, hof, z8, hdo, hn1]
    repeat' with_reducible first | intro _ | apply And.intro
    all_goals first | exact (c36 b) | exact k37 | exact k38 | exact k22 | exact k25 | exact k19 | exact k33 | exact k31 | exact k40 | exact (c39 _ _) | exact hmain | (simp [hv, hcv, f7, f8, f9, hd, hdl, Go, Ends', v6, -List.getD_eq_getElem?_getD, *]; done) | (simp_all [hv, hcv, f7, f8, f9, hd, hdl, Go, Ends', v6, -List.getD_eq_getElem?_getD]; done)
  · have hn := asked_no hg
    have hf : (firstT b 0).2.2 = askedR b 0 := by
      unfold firstT explainedR; rw [if_pos hn, if_pos hn]
    have k22 := c22 b 0 hs
    rw [hf] at k22
    generalize askedR b 0 = e at *
    rcases noDays hg with hv | ⟨hv, hl⟩
    · refine w6 b w x (WP.step ?_)
      simp only [T6, Go, Ends', v6, Tr.sure, SS, hf]
      repeat' with_reducible first | intro _ | apply And.intro
      all_goals first | exact (c36 b) | exact k22 | exact c21 | (simp [hv, hn, Go, Ends', v6, -List.getD_eq_getElem?_getD, *]; done) | (simp_all [hv, hn, Go, Ends', v6, -List.getD_eq_getElem?_getD]; done)
    · refine w6 b w x (WP.step ?_)
      simp only [T6, Go, Ends', v6, Tr.sure, SS, hl, hf]
      repeat' with_reducible first | intro _ | apply And.intro
      all_goals first | exact (c36 b) | exact k22 | exact c21 | (simp_all [hv, hn, hl, Go, Ends', v6, -List.getD_eq_getElem?_getD]; done)
end
end Go.Proofs.YtfgmckfomckliaaGreat
