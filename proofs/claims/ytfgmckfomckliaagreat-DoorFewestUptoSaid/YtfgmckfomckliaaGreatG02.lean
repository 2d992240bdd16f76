/-
  Part of the proof of DoorFewest. Conditions: those that stand in each theorem.
-/
import Derived.Test.YtfgmckfomckliaaGreatG01
set_option linter.unusedSimpArgs false
set_option linter.unusedVariables false
set_option maxRecDepth 100000
namespace Go.Proofs.YtfgmckfomckliaaGreat
open Ab Go
noncomputable section
def offsN (n : Nat) : List (List Int) := (allP ((n + 2 : Nat) : Int) (n + 2)).map (offN n) ++ [entriesN n]
def bitE (w : Int) (i : Nat) : Bool := (w.fdiv (2 ^ (min i 64))).tmod 2 == 1
def otherTo (n : Nat) (w : Int) (k : Nat) : List Int := ((List.range k).filter (bitE w)).map fun i => (entriesN n).getD i 0
def okOff (n : Nat) (o : List Int) : Bool := o.all (fun x => hasN (entriesN n) x) && decide (o.Pairwise (· < ·)) && decide (o.length ≤ 5)
def ordOff (n : Nat) : Bool := decide ((offsN n).Pairwise fun x y => fewer y x = false) && (offsN n).all (fun x => !fewer x x)
theorem offs_ok : ∀ n : Nat, n < 4 → ∀ o ∈ offsN n, okOff n o = true := by decide +kernel
theorem offs_ord : ∀ n : Nat, n < 4 → ordOff n = true := by decide +kernel
theorem offs_head : ∀ n : Nat, n < 4 → (offsN n).head? = some [] := by decide +kernel
theorem other_in : ∀ n : Nat, n < 4 → ∀ w : Nat, w < 256 → otherTo n (w : Int) (n + 2) ∈ offsN n := by decide +kernel
theorem find_min {α : Type} {p : α → Bool} {r : α → α → Prop} : ∀ {L : List α}, L.Pairwise r → ∀ {x : α}, L.find? p = some x → p x = true ∧ x ∈ L ∧ ∀ y ∈ L, p y = true → x = y ∨ r x y
  | [], _, x, h => by cases h
  | a :: L, hp, x, h => by
    rw [List.pairwise_cons] at hp
    by_cases ha : p a = true
    · rw [List.find?_cons_of_pos ha] at h
      cases h
      refine ⟨ha, List.mem_cons_self, fun y hy _ => ?_⟩
      rcases List.mem_cons.1 hy with q | q
      · exact .inl q.symm
      · exact .inr (hp.1 y q)
    · rw [List.find?_cons_of_neg ha] at h
      obtain ⟨h1, h2, h3⟩ := find_min hp.2 h
      refine ⟨h1, List.mem_cons_of_mem _ h2, fun y hy hpy => ?_⟩
      rcases List.mem_cons.1 hy with q | q
      · subst q; exact absurd hpy ha
      · exact h3 y q hpy
theorem explains_all {b : Book} {d : Int} (h : OkBook b) (hd : OkDay b (dayOf b d)) : explainsR b d (entriesR b) = true := by
  have hnr := h.nr
  have hpu := pupils_in hd
  have has : ∀ x, x ∈ entriesR b → hasN (entriesR b) x = true := fun x hx => hasN_iff.2 hx
  have h1 : hasN (entriesR b) (-1) = true := has _ (by simp [entriesR])
  have h3 : hasN (entriesR b) 3 = true := has _ (by simp [entriesR])
  have hr : ∀ i : Nat, i < b.rooms.length → hasN (entriesR b) (i : Int) = true := fun i hi => has _ (by
    unfold entriesR
    exact List.mem_append_left _ (List.mem_cons_of_mem _ (List.mem_map.2 ⟨i, List.mem_range.2 hi, rfl⟩)))
  have hdo : doorO b d (entriesR b) = ⟨0, 60⟩ := by unfold doorO between; rw [if_pos h1]
  unfold explainsR
  rw [List.any_eq_true]
  refine ⟨60, mem_rangeI.2 ⟨?_, ?_⟩, ?_⟩
  · unfold firstO; rw [hdo]; show max 0 (pupilsD b d) ≤ 60; omega
  · rw [hdo]; exact Int.le_refl _
  · unfold explAt
    rw [h3, Bool.and_true, Bool.or_eq_true]
    refine .inl (decide_eq_true ?_)
    have hm : extraR b (List.replicate b.rooms.length 0) ∈ extrasR b d 60 (entriesR b) := mem_extras.2 ⟨_, (mem_roomsN _ _).2 ⟨by simp, fun k hk => ?_⟩, rfl⟩
    · exact List.length_pos_of_mem hm
    · have hf := (h.room _ (getD_mem zRoom b.rooms k hk)).2
      have e0 : (List.replicate b.rooms.length (0 : Int)).getD k 0 = 0 := by
        rw [List.getD_eq_getElem?_getD, List.getElem?_replicate, if_pos hk]; rfl
      have e1 : spanAt b (dayOf b d) 60 (entriesR b) k = ⟨0, min 60 (b.rooms.getD k zRoom).full⟩ := by unfold spanAt between; rw [if_pos (hr k hk)]
      rw [e0, e1]
      exact ⟨Int.le_refl _, by show 0 ≤ min 60 (b.rooms.getD k zRoom).full; omega⟩
theorem off_find {b : Book} {d : Int} (h : OkBook b) (hd : OkDay b (dayOf b d)) : (offsN b.rooms.length).find? (explainsR b d) = some (offR b d) := by
  unfold offsN
  rw [List.find?_append, List.find?_map]
  have hk : (entriesR b).length = b.rooms.length + 2 := entries_len b
  have e : offR b d = match (allP ((b.rooms.length + 2 : Nat) : Int) (b.rooms.length + 2)).find? (explainsR b d ∘ offN b.rooms.length) with
    | some l => offN b.rooms.length l
    | none => entriesN b.rooms.length := by
    unfold offR; rw [hk]; rfl
  rw [e]
  cases hf : (allP ((b.rooms.length + 2 : Nat) : Int) (b.rooms.length + 2)).find? (explainsR b d ∘ offN b.rooms.length) with
  | some l => rfl
  | none =>
    have := explains_all h hd
    rw [entriesR_eq] at this
    simp [this]
theorem off_how {b : Book} {d : Int} (h : OkBook b) (hd : OkDay b (dayOf b d)) : explainsR b d (offR b d) = true ∧ offR b d ∈ offsN b.rooms.length ∧ ∀ o ∈ offsN b.rooms.length, explainsR b d o = true → fewer o (offR b d) = false := by
  have ho := offs_ord b.rooms.length (by have := h.nr; omega)
  unfold ordOff at ho
  rw [Bool.and_eq_true, decide_eq_true_eq, List.all_eq_true] at ho
  obtain ⟨h1, h2, h3⟩ := find_min ho.1 (off_find h hd)
  refine ⟨h1, h2, fun o hm hp => ?_⟩
  rcases h3 o hm hp with e | e
  · rw [← e]; have := ho.2 _ h2; simpa using this
  · exact e
theorem off_nil {b : Book} {d : Int} (h : OkBook b) (hd : OkDay b (dayOf b d)) : (offR b d).length = 0 ↔ explainsR b d [] = true := by
  constructor
  · intro h0
    have := (off_how h hd).1
    rwa [List.length_eq_zero_iff.1 h0] at this
  · intro hx
    have hh := offs_head b.rooms.length (by have := h.nr; omega)
    have hf := off_find h hd
    cases hL : offsN b.rooms.length with
    | nil => rw [hL] at hh; cases hh
    | cons a L =>
      rw [hL] at hh hf
      obtain rfl : a = [] := by simpa using hh
      rw [List.find?_cons_of_pos hx] at hf
      rw [← Option.some.inj hf]; rfl
theorem less_pair {a b c d : Int} : less [a, b] [c, d] = true ↔ a < c ∨ (a = c ∧ b < d) := by
  unfold less
  by_cases h : a = c
  · rw [if_pos h]
    unfold less
    by_cases h2 : b = d
    · rw [if_pos h2]; subst h; subst h2; simp [less]
    · rw [if_neg h2]; simp only [decide_eq_true_eq]; subst h; constructor
      · exact fun q => .inr ⟨rfl, q⟩
      · rintro (q | q)
        · omega
        · exact q.2
  · rw [if_neg h]; simp only [decide_eq_true_eq]; constructor
    · exact .inl
    · rintro (q | q)
      · exact q
      · exact absurd q.1 h
theorem ofDay_app (d : Int) (l m : List Entry) : ofDay d (l ++ m) = ofDay d l ++ ofDay d m := by unfold ofDay; rw [List.filter_append, List.map_append]
theorem ofDay_ent (d e : Int) (l : List Int) : ofDay d (entE e l) = if e = d then l else [] := by
  unfold ofDay entE
  rw [List.filter_map]
  by_cases h : e = d
  · subst h; rw [if_pos rfl]
    have : l.filter ((fun e_1 : Entry => e_1.day == e) ∘ fun o => (⟨e, o⟩ : Entry)) = l := List.filter_eq_self.2 fun x _ => by simp
    rw [this, List.map_map]
    exact List.map_id _
  · rw [if_neg h]
    have : l.filter ((fun e_1 : Entry => e_1.day == d) ∘ fun o => (⟨e, o⟩ : Entry)) = [] := List.filter_eq_nil_iff.2 fun x _ => by simpa using h
    rw [this]; rfl
theorem wrongAll_next (b : Book) (n : Nat) : wrongAll b (n + 1) = wrongAll b n ++ entE (n : Int) (offR b n) := by
  unfold wrongAll; rw [List.range_succ, List.flatMap_append]; simp
theorem ofDay_wrong (b : Book) : ∀ (n d : Nat), ofDay (d : Int) (wrongAll b n) = if d < n then offR b d else []
  | 0, d => rfl
  | n + 1, d => by
    rw [wrongAll_next, ofDay_app, ofDay_wrong b n d, ofDay_ent]
    by_cases h1 : d < n
    · rw [if_pos h1, if_neg (by omega), if_pos (by omega), List.append_nil]
    · rw [if_neg h1]
      by_cases h2 : n = d
      · subst h2; rw [if_pos rfl, if_pos (by omega), List.nil_append]
      · rw [if_neg (by omega), if_neg (by omega)]; rfl
theorem wrong_len {b : Book} (h : OkBook b) : ∀ n : Nat, (wrongAll b n).length ≤ 5 * n
  | 0 => Nat.le_refl _
  | n + 1 => by
    have h1 := wrong_len h n
    have h2 := off_len b n h
    rw [wrongAll_next, List.length_append]
    unfold entE; rw [List.length_map]; omega
theorem off_list {b : Book} {d : Int} (h : OkBook b) (hd : OkDay b (dayOf b d)) : (∀ x ∈ offR b d, hasN (entriesR b) x = true) ∧ (offR b d).Pairwise (· < ·) := by
  have := offs_ok b.rooms.length (by have := h.nr; omega) _ (off_how h hd).2.1
  unfold okOff at this
  rw [Bool.and_eq_true, Bool.and_eq_true, List.all_eq_true, decide_eq_true_eq] at this
  exact ⟨this.1.1, this.1.2⟩
theorem wrong_asc {b : Book} (h : OkBook b) : ∀ n : Nat, n ≤ b.days.length → (∀ e ∈ wrongAll b n, (0 ≤ e.day ∧ e.day < n) ∧ hasN (entriesR b) e.of = true) ∧ (wrongAll b n).Pairwise fun e f => less [e.day, e.of] [f.day, f.of] = true
  | 0, _ => ⟨fun e he => absurd he List.not_mem_nil, List.Pairwise.nil⟩
  | n + 1, hn => by
    obtain ⟨h1, h2⟩ := wrong_asc h n (by omega)
    have hd : OkDay b (dayOf b n) := h.day _ (getD_mem zDay b.days (n : Int).toNat (by omega))
    obtain ⟨h3, h4⟩ := off_list h hd
    rw [wrongAll_next]
    refine ⟨fun e he => ?_, ?_⟩
    · rcases List.mem_append.1 he with q | q
      · have := h1 e q; exact ⟨⟨this.1.1, by omega⟩, this.2⟩
      · obtain ⟨o, ho, rfl⟩ := List.mem_map.1 q
        exact ⟨⟨by show (0 : Int) ≤ (n : Int); omega, by show (n : Int) < ((n + 1 : Nat) : Int); omega⟩, h3 o ho⟩
    · rw [List.pairwise_append]
      refine ⟨h2, ?_, fun e he f hf => ?_⟩
      · unfold entE
        rw [List.pairwise_map]
        exact h4.imp fun q => less_pair.2 (.inr ⟨rfl, q⟩)
      · obtain ⟨o, ho, rfl⟩ := List.mem_map.1 hf
        exact less_pair.2 (.inl (h1 e he).1.2)
theorem asc_wrong {b : Book} (h : OkBook b) : Asc b (wrongAll b b.days.length) := by
  obtain ⟨h1, h2⟩ := wrong_asc h b.days.length (Nat.le_refl _)
  have mem : ∀ i : Nat, i < (wrongAll b b.days.length).length → (wrongAll b b.days.length).getD i zEntry ∈ wrongAll b b.days.length := fun i hi => getD_mem zEntry _ i hi
  refine ⟨fun i hi => (h1 _ (mem i hi)).1, fun i hi => (h1 _ (mem i hi)).2, fun i hi => ?_⟩
  have := List.pairwise_iff_getElem.1 h2 i (i + 1) (by omega) hi (by omega)
  rw [List.getD_eq_getElem?_getD, List.getElem?_eq_getElem (by omega), List.getD_eq_getElem?_getD, List.getElem?_eq_getElem hi]
  exact this
theorem wrong_ok {b : Book} (hv : validR b = true) : wrongR b = (wrongAll b b.days.length, 0) := by
  have h0 : (bookCheck b).2.2 = 0 := by simpa [validR] using hv
  unfold wrongR; rw [if_neg (by rw [h0]; simp)]
theorem wrong_no {b : Book} (hv : validR b = false) : wrongR b = ([], (bookCheck b).2.2) ∧ (bookCheck b).2.2 ≠ 0 := by
  have h0 : (bookCheck b).2.2 ≠ 0 := by simpa [validR] using hv
  unfold wrongR; rw [if_pos h0]; exact ⟨rfl, h0⟩
end
noncomputable section
inductive P8
  | e
  | l0 (x0_9 : Int)
  | l1 (x1_13 : Int) (a1_1 : List Int)
inductive R8
  | r0 (r0 : Bool)
noncomputable def T8 (b : Book) (w : Int) (bits : Int) : P8 → Tr P8 R8
  | .e => let c1 : Tr P8 R8 := .br ((((wrongR b).1.length) : Int) == (0 : Int)) (.call 21 [] (.bool true) true true (.out (.r0 true))) (.out (.r0 false)); let c2 := (wrongR b).2 != (0 : Int); (.call 33 [.agg (cC b)] (.tuple [tEntry.lst ((wrongR b).1), iI ((wrongR b).2)]) true true (.call 36 [.agg (cC b)] (.bool (validR b)) true true (.br (!(validR b)) (.br c2 c1 (.lit false (.out (.r0 false)))) (.br c2 (.lit true (.out (.r0 false))) (.call 46 [.agg (cC b), tEntry.lst ((wrongR b).1)] (.bool true) true true (.lit false (.br ((b.days.length : Int) == (0 : Int)) c1 (.go (.l0 0)))))))))
  | .l0 x0_9 => let c1 := ofDay x0_9 ((wrongR b).1); (.br (decide (x0_9 < (b.days.length : Int))) (.front [(4, 40, [tEntry.lst ((wrongR b).1), iI x0_9], tint.lst c1)] [] true true (.call 47 [.agg (cC b), iI x0_9, tint.lst c1] (.bool (explainsR b x0_9 c1)) true true (.br (!(explainsR b x0_9 c1)) (.out (.r0 false)) (.need (inR .i64 (x0_9 + (1 : Int))) (.go (.l0 (x0_9 + (1 : Int)))))))) (.need (inR .i64 w) (.need (decide ((b.days.length : Int) ≠ 0)) (.wait 2 (.own 11 3 1 (.call 48 [.agg (cC b)] (tint.lst (entriesR b)) true true (.go (.l1 0 ([])))))))))
  | .l1 x1_13 a1_1 => let c1 := w.tmod (b.days.length : Int); let c2 := ofDay c1 ((wrongR b).1); let c3 : Tr P8 R8 := .call 21 [] (.bool true) true true (.out (.r0 true)); let c4 := firstT b c1; let c5 := x1_13 + (1 : Int); let c6 := (decide (a1_1.length ≤ a1_1.length)) && true; let c7 := x1_13 < (((entriesR b).length) : Int); let c8 := explainsR b c1 a1_1.reverse; (.br (decide c7) (.need (inR .i64 bits) (.need (decide (0 ≤ x1_13)) (.need (decide ((2 : Int) ≠ 0)) (.br (((bits.fdiv (2 ^ (min (x1_13).toNat 64))).tmod (2 : Int)) == (1 : Int)) (.need (decide (0 ≤ x1_13) && decide c7) (.need ((decide (a1_1.length = a1_1.length) && decide (a1_1.length + 1 ≤ 4294967296)) && decide (1 ≤ 1)) (.scal (fun _ => true) (.need (inR .i64 c5) (.go (.l1 c5 (((entriesR b).getD (x1_13).toNat tint.zero) :: a1_1))))))) (.need (inR .i64 c5) (.go (.l1 c5 a1_1))))))) (.call 22 [.agg (cC b), iI c1] (.tuple [.agg [iI (c4.1.adults), iI (c4.1.children), tint.lst (c4.1.rooms)], iI (c4.2.1), iI (c4.2.2)]) true true (.call 40 [tEntry.lst ((wrongR b).1), iI c1] (tint.lst c2) true true (.br (!((c4.2.2 == (0 : Int)) == (((c2.length) : Int) == (0 : Int)))) (.out (.r0 false)) (.call 47 [.agg (cC b), iI c1, .list 1 a1_1.length (rowsRev tint a1_1)] (.bool c8) c6 true (.br (!c8) (.lit true c3) (.call 40 [tEntry.lst ((wrongR b).1), iI c1] (tint.lst c2) true true (.call 49 [.list 1 a1_1.length (rowsRev tint a1_1), tint.lst c2] (.bool (fewer a1_1.reverse c2)) c6 true (.br (!(fewer a1_1.reverse c2)) c3 (.out (.r0 false)))))))))))
noncomputable def g8 (b : Book) (w : Int) (bits : Int) : P8 → List Item × St
  | .e => bd Tryz.f8 [.agg (cC b), .int .u8 w, .int .u8 bits] 122
  | .l0 x0_9 => (cutOf Tryz.f8 0, ⟨mk 125 [(1, .int .u8 w), (2, .int .u8 bits), (3, .ref 0 0 0), (7, tEntry.lst ((wrongR b).1)), (9, iI x0_9)], [.cells (cC b)], []⟩)
  | .l1 x1_13 a1_1 => (cutOf Tryz.f8 1, ⟨mk 125 [(2, .int .u8 bits), (3, .ref 0 0 0), (7, tEntry.lst ((wrongR b).1)), (10, iI (w.tmod (b.days.length : Int))), (11, .row 1 a1_1.length), (12, tint.lst (entriesR b)), (13, iI x1_13)], [.cells (cC b), .rows 3 1 a1_1.length (rowsRev tint a1_1)], []⟩)
noncomputable def n8 : R8 → Exit × St
  | .r0 r0 => (.ret, ⟨mk 125 [(6, .bool r0)], [], []⟩)
noncomputable def v8 : R8 → V
  | .r0 r0 => .bool r0
theorem s8 (b : Book) (w : Int) (bits : Int) : Sm 0 (g8 b w bits) (T8 b w bits) (n8)
  | .e => ⟨400, by kernel_rfl⟩
  | .l0 _ => ⟨400, by kernel_rfl⟩
  | .l1 _ _ => ⟨400, by kernel_rfl⟩
theorem q8 : ∀ r, bodyQ Tryz.prog Tryz.f8 (· = v8 r) (n8 r).1 (n8 r).2
  | .r0 r0 => bq (.bool r0) (by kernel_rfl)
theorem w8 (b : Book) (w : Int) (bits : Int) {post : V → Prop} (h : WQ (T8 b w bits) v8 post .e) : PC 8 [.agg (cC b), .int .u8 w, .int .u8 bits] post :=
  PCalls.wq Tryz.func8 (s8 b w bits) q8 h
theorem otherTo_next (n : Nat) (w : Int) (k : Nat) : (otherTo n w (k + 1)).reverse = if bitE w k = true then (entriesN n).getD k 0 :: (otherTo n w k).reverse else (otherTo n w k).reverse := by
  unfold otherTo
  rw [List.range_succ, List.filter_append, List.map_append, List.reverse_append]
  cases h : bitE w k
  · simp [List.filter, h]
  · simp [List.filter, h]
theorem otherTo_len (n : Nat) (w : Int) (k : Nat) : (otherTo n w k).length ≤ k := by
  unfold otherTo
  have := List.length_filter_le (bitE w) (List.range k)
  rw [List.length_range] at this
  rw [List.length_map]; exact this
theorem c47r (b : Book) (d : Int) (l : List Int) (h : OkBook b) (hd : 0 ≤ d ∧ d < b.days.length) : PC 47 [.agg (tBook.cells b), iI d, .list 1 l.length (rowsRev tint l)] (· = .bool (explainsR b d l.reverse)) :=
  PCalls.arg (pre := [.agg (tBook.cells b), iI d]) (c47 b d l.reverse h hd) (VLe.rev tint l)
theorem c49r (l m : List Int) : PC 49 [.list 1 l.length (rowsRev tint l), tint.lst m] (· = .bool (fewer l.reverse m)) :=
  PCalls.arg (pre := []) (c49 l.reverse m) (VLe.rev tint l)
theorem w8_1 (b : Book) (w bits : Int) (hw : 0 ≤ w ∧ w ≤ 255) (hbi : 0 ≤ bits ∧ bits ≤ 255) (hs : SmB b) (hv : validR b = true) (hl : 0 < b.days.length) : WP Tryz.prog ⟨none, 0⟩ (T8 b w bits) (Ends' fun r => v8 r = .bool true) (.l1 0 []) := by
  have hok := valid_ok hv
  have hnr := hok.nr
  have hd := which_in hw.1 hl
  have e1 : (wrongR b).1 = wrongAll b b.days.length := by rw [wrong_ok hv]
  have hlen : (entriesR b).length = b.rooms.length + 2 := entries_len b
  refine WP.run (fun i => .l1 (i : Int) (otherTo b.rooms.length bits i).reverse) rfl (b.rooms.length + 2) (fun i hi => ?_) ?_
  · have hr : inR .i64 ((i : Int) + 1) = true := inR64 (by omega) (by omega)
    have hr2 : inR .i64 bits = true := inR64 (by omega) (by omega)
    have hi' : (i : Int) < (entriesR b).length := by omega
    have hle : (otherTo b.rooms.length bits i).reverse.length + 1 ≤ 4294967296 := by have := otherTo_len b.rooms.length bits i; rw [List.length_reverse]; omega
    have hn := otherTo_next b.rooms.length bits i
    have hee : (entriesR b).getD i 0 = (entriesN b.rooms.length).getD i 0 := rfl
    rw [← hee] at hn
    generalize hx : (entriesR b).getD i 0 = x at *
    generalize (otherTo b.rooms.length bits (i + 1)).reverse = B at *
    generalize (otherTo b.rooms.length bits i).reverse = A at *
    clear hlen hee
    refine WP.once ?_
    simp only [T8, Tr.sure, SS, hi', z1, hx]
    repeat' with_reducible first | intro _ | apply And.intro
    all_goals simp [hr, hr2, hle, hn, bitE, Go, Ends', v8, -List.getD_eq_getElem?_getD, *]
  · have hno : ¬ ((b.rooms.length + 2 : Nat) : Int) < (entriesR b).length := by omega
    generalize hdd : w.tmod (b.days.length : Int) = d at *
    have hday := hok.day _ (getD_mem zDay b.days d.toNat (by omega))
    have ha := asked_in hv hd
    have hof : ofDay d (wrongAll b b.days.length) = offR b d := by
      have := ofDay_wrong b b.days.length d.toNat
      rw [Int.toNat_of_nonneg hd.1, if_pos (by omega)] at this; exact this
    have k40 := c40 (wrongAll b b.days.length) d (by have := wrong_len hok b.days.length; have := hok.nd; omega)
    rw [hof] at k40
    have k22 := c22 b d hs
    have hoth := other_in b.rooms.length (by omega) bits.toNat (by omega)
    rw [Int.toNat_of_nonneg hbi.1] at hoth
    have hleast := (off_how hok hday).2.2 _ hoth
    have hno2 : (otherTo b.rooms.length bits (b.rooms.length + 2)).reverse.length ≤ 1000 := by have := otherTo_len b.rooms.length bits (b.rooms.length + 2); rw [List.length_reverse]; omega
    have k47 := c47r b d (otherTo b.rooms.length bits (b.rooms.length + 2)).reverse hok hd
    have k49 := c49r (otherTo b.rooms.length bits (b.rooms.length + 2)).reverse (offR b d)
    rw [List.reverse_reverse] at k47 k49
    have hnil := off_nil hok hday
    have hrr : (otherTo b.rooms.length bits (b.rooms.length + 2)).reverse.reverse = otherTo b.rooms.length bits (b.rooms.length + 2) := List.reverse_reverse _
    generalize otherTo b.rooms.length bits (b.rooms.length + 2) = X at *
    rcases first_err ha with ⟨f0, f1, -, -⟩ | ⟨f0, f1, -, -⟩
    · have h0 : ((offR b d).length : Int) = 0 := by have := hnil.2 f1; omega
      rw [f0] at k22
      cases hx : explainsR b d X with
      | true =>
        have hle := hleast hx
        clear hleast hnil hlen
        refine WP.step ?_
        simp only [T8, Go, Ends', v8, Tr.sure, SS, hno, hdd, e1, hof, hrr, f0, h0]
        repeat' with_reducible first | intro _ | apply And.intro
        all_goals first | exact k40 | exact k22 | exact k47 | exact k49 | exact c21 | (simp [hx, hle, Go, Ends', v8, -List.getD_eq_getElem?_getD, *]; done) | (simp_all [hx, hle, Go, Ends', v8, -List.getD_eq_getElem?_getD]; done)
      | false =>
        clear hleast hnil hlen
        refine WP.step ?_
        simp only [T8, Go, Ends', v8, Tr.sure, SS, hno, hdd, e1, hof, hrr, f0, h0]
        repeat' with_reducible first | intro _ | apply And.intro
        all_goals first | exact k40 | exact k22 | exact k47 | exact k49 | exact c21 | (simp [hx, Go, Ends', v8, -List.getD_eq_getElem?_getD, *]; done) | (simp_all [hx, Go, Ends', v8, -List.getD_eq_getElem?_getD]; done)
    · have h0 : ¬ ((offR b d).length : Int) = 0 := fun q => by
        have := hnil.1 (by omega)
        rw [f1] at this; cases this
      have h0b : (((offR b d).length : Int) == 0) = false := beq_eq_false_iff_ne.2 h0
      rw [f0] at k22
      cases hx : explainsR b d X with
      | true =>
        have hle := hleast hx
        clear hleast hnil hlen
        refine WP.step ?_
        simp only [T8, Go, Ends', v8, Tr.sure, SS, hno, hdd, e1, hof, hrr, f0, h0b]
        repeat' with_reducible first | intro _ | apply And.intro
        all_goals first | exact k40 | exact k22 | exact k47 | exact k49 | exact c21 | (simp [hx, hle, Go, Ends', v8, -List.getD_eq_getElem?_getD, *]; done) | (simp_all [hx, hle, Go, Ends', v8, -List.getD_eq_getElem?_getD]; done)
      | false =>
        clear hleast hnil hlen
        refine WP.step ?_
        simp only [T8, Go, Ends', v8, Tr.sure, SS, hno, hdd, e1, hof, hrr, f0, h0b]
        repeat' with_reducible first | intro _ | apply And.intro
        all_goals first | exact k40 | exact k22 | exact k47 | exact k49 | exact c21 | (simp [hx, Go, Ends', v8, -List.getD_eq_getElem?_getD, *]; done) | (simp_all [hx, Go, Ends', v8, -List.getD_eq_getElem?_getD]; done)
theorem w8_0 (b : Book) (w bits : Int) (hw : 0 ≤ w ∧ w ≤ 255) (hbi : 0 ≤ bits ∧ bits ≤ 255) (hs : SmB b) (hv : validR b = true) (hl : 0 < b.days.length) : WP Tryz.prog ⟨none, 0⟩ (T8 b w bits) (Ends' fun r => v8 r = .bool true) (.l0 0) := by
  have hmain := w8_1 b w bits hw hbi hs hv hl
  have hok := valid_ok hv
  have hnd := hok.nd
  have e1 : (wrongR b).1 = wrongAll b b.days.length := by rw [wrong_ok hv]
  refine WP.run (fun i => .l0 (i : Int)) rfl b.days.length (fun i hi => ?_) ?_
  · have hr : inR .i64 ((i : Int) + 1) = true := inR64 (by omega) (by omega)
    have hi' : (i : Int) < b.days.length := by omega
    have hday := hok.day _ (getD_mem zDay b.days (i : Int).toNat (by omega))
    have hof : ofDay (i : Int) (wrongAll b b.days.length) = offR b (i : Int) := by rw [ofDay_wrong, if_pos hi]
    have k40 := c40 (wrongAll b b.days.length) (i : Int) (by have := wrong_len hok b.days.length; omega)
    rw [hof] at k40
    have hx := (off_how hok hday).1
    have k47 := c47 b (i : Int) (offR b (i : Int)) hok ⟨by omega, hi'⟩
    refine WP.once ?_
    simp only [T8, Tr.sure, SS, hi', e1, hof]
    repeat' with_reducible first | intro _ | apply And.intro
    all_goals first | exact k40 | exact k47 | (simp [hr, hx, Go, Ends', v8, -List.getD_eq_getElem?_getD, *]; done) | (simp_all [hr, hx, Go, Ends', v8, -List.getD_eq_getElem?_getD]; done)
  · have hr2 : inR .i64 w = true := inR64 (by omega) (by omega)
    have hz : ¬ (b.days.length : Int) = 0 := by omega
    refine WP.step ?_
    simp only [T8, Go, Ends', v8, Tr.sure, SS, Int.lt_irrefl]
    repeat' with_reducible first | intro _ | apply And.intro
    all_goals first | exact (c48 b hok) | exact hmain | (simp [hr2, hz, Go, Ends', v8, -List.getD_eq_getElem?_getD, *]; done) | (simp_all [hr2, hz, Go, Ends', v8, -List.getD_eq_getElem?_getD]; done)
theorem c8 (b : Book) (w bits : Int) (hw : 0 ≤ w ∧ w ≤ 255) (hbi : 0 ≤ bits ∧ bits ≤ 255) (hs : SmB b) : PC 8 [.agg (tBook.cells b), .int .u8 w, .int .u8 bits] (· = .bool true) := by
  have k33 := c33 b hs
  cases hv : validR b with
  | true =>
    have hok := valid_ok hv
    have e := wrong_ok hv
    have e1 : (wrongR b).1 = wrongAll b b.days.length := by rw [e]
    have e2 : (wrongR b).2 = 0 := by rw [e]
    rw [e] at k33
    have k46 := c46 b _ hok (asc_wrong hok) (by have := wrong_len hok b.days.length; have := hok.nd; omega)
    by_cases hl : b.days.length = 0
    · have hw0 : ((wrongAll b b.days.length).length : Int) = 0 := by rw [hl]; rfl
      refine w8 b w bits (WP.step ?_)
      simp only [T8, Go, Ends', v8, Tr.sure, SS, e1, e2]
      repeat' with_reducible first | intro _ | apply And.intro
      all_goals first | exact (c36 b) | exact k33 | exact k46 | exact c21 | (simp_all [hv, hl, hw0, Go, Ends', v8, -List.getD_eq_getElem?_getD]; done)
    · have hz : ¬ (b.days.length : Int) = 0 := by omega
      have hzb : ((b.days.length : Int) == 0) = false := beq_eq_false_iff_ne.2 hz
      have hmain := w8_0 b w bits hw hbi hs hv (by omega)
      refine w8 b w bits (WP.step ?_)
      simp only [T8, Go, Ends', v8, Tr.sure, SS, e1, e2, hzb]
      repeat' with_reducible first | intro _ | apply And.intro
      all_goals first | exact (c36 b) | exact k33 | exact k46 | exact hmain | (simp_all [hv, Go, Ends', v8, -List.getD_eq_getElem?_getD]; done)
  | false =>
    obtain ⟨e, h0⟩ := wrong_no hv
    have e1 : (wrongR b).1 = [] := by rw [e]
    have e2 : (wrongR b).2 = (bookCheck b).2.2 := by rw [e]
    rw [e] at k33
    have hb : ((bookCheck b).2.2 != 0) = true := bne_iff_ne.2 h0
    refine w8 b w bits (WP.step ?_)
    simp only [T8, Go, Ends', v8, Tr.sure, SS, e1, e2, hb]
    repeat' with_reducible first | intro _ | apply And.intro
    all_goals first | exact (c36 b) | exact k33 | exact c21 | (simp_all [hv, Go, Ends', v8, -List.getD_eq_getElem?_getD]; done)
end
end Go.Proofs.YtfgmckfomckliaaGreat
