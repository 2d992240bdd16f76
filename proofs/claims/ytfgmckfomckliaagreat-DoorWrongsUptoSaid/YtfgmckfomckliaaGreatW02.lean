/-
  Part of the proof of DoorWrongs. Conditions: those that stand in each theorem.
-/
import Derived.Test.YtfgmckfomckliaaGreatW01
set_option linter.unusedSimpArgs false
set_option linter.unusedVariables false
set_option maxRecDepth 100000
namespace Go.Proofs.YtfgmckfomckliaaGreat
open Ab Go
noncomputable section
theorem asked_chk {b : Book} {d : Int} (h : askedR b d = 0) : (bookCheck b).2.2 = 0 := by
  unfold askedR at h
  split at h
  · rename_i hne; exact absurd h hne
  · rename_i hne; exact Decidable.not_not.1 hne
theorem tightDay {b : Book} {d : Day} (h : dayErr b d = 0) : d.door.miss ≤ 5 ∧ ∀ c ∈ d.rooms, c.miss ≤ 5 := by
  simp only [dayErr] at h
  split at h
  · rename_i hne; exact absurd h hne
  split at h
  · cases h
  split at h
  case isFalse => cases h
  rename_i h3
  simp only [Bool.and_eq_true, List.all_eq_true, countOk_iff, within_iff] at h3
  exact ⟨h3.1.1.2.2, fun c hc => (h3.2 c hc).2.2⟩
theorem tight {b : Book} (h : (bookCheck b).2.2 = 0) : ∀ d ∈ b.days, d.door.miss ≤ 5 ∧ ∀ c ∈ d.rooms, c.miss ≤ 5 := fun d hd => by
  simp only [bookCheck] at h
  split at h
  · cases h
  split at h
  · cases h
  split at h
  · rename_i hne; exact absurd h hne
  split at h
  · cases h
  split at h
  · rename_i he; exact absurd h (firstE_ne he)
  rename_i he
  obtain ⟨j, hj⟩ := firstE_none he d hd
  exact tightDay hj
theorem miss_ok {b : Book} (h : OkBook b) (ht : ∀ d ∈ b.days, d.door.miss ≤ 5 ∧ ∀ c ∈ d.rooms, c.miss ≤ 5) {d m : Int} (hd : 0 ≤ d ∧ d < b.days.length) (hm : 0 ≤ m ∧ m ≤ 60) : OkBook (missingR b d m) := by
  refine ⟨h.price, h.even, h.nr, h.room, by simpa [missingR] using h.nd, fun D hD => ?_⟩
  have mk : ∀ E ∈ b.days, OkDay b E → OkDay (missingR b d m) E := fun E _ e => ⟨e.ns, e.school, e.all, e.many, e.door, e.taken, e.room⟩
  rcases List.mem_or_eq_of_mem_set hD with q | q
  · exact mk D q (h.day D q)
  · subst q
    have hmem := getD_mem zDay b.days d.toNat (by omega)
    have e := h.day _ hmem
    have t := ht _ hmem
    have hdo := e.door
    refine ⟨e.ns, e.school, e.all, by show ((b.days.getD d.toNat zDay).rooms.map (missC m)).length = b.rooms.length; rw [List.length_map]; exact e.many, ⟨e.door.1, ?_⟩, e.taken, fun c hc => ?_⟩
    · show 0 ≤ (b.days.getD d.toNat zDay).door.miss + m ∧ (b.days.getD d.toNat zDay).door.miss + m ≤ 1000
      omega
    · simp only [missD, dayOf, List.mem_map] at hc
      obtain ⟨c0, h0, rfl⟩ := hc
      have h1 := e.room c0 h0
      have h2 := t.2 c0 h0
      refine ⟨h1.1, ?_⟩
      show 0 ≤ c0.miss + m ∧ c0.miss + m ≤ 1000
      omega
theorem miss_len (b : Book) (d m : Int) : (missingR b d m).days.length = b.days.length := by simp [missingR]
theorem c47n (b : Book) (d : Int) (h : OkBook b) (hd : 0 ≤ d ∧ d < b.days.length) : PC 47 [.agg (tBook.cells b), iI d, .nils] (· = .bool (explainsR b d [])) :=
  PCalls.arg (pre := [.agg (tBook.cells b), iI d]) (c47 b d [] h hd) VLe.nils
inductive P32
  | e
  | l0 (x0_7 : Int)
inductive R32
  | r0 (r0 : Int) (r1 : Int)
noncomputable def T32 (b : Book) (d : Int) : P32 → Tr P32 R32
  | .e => (.call 65 [.agg (cC b), iI d] (iI (askedR b d)) true true (.br ((askedR b d) != (0 : Int)) (.out (.r0 0 (askedR b d))) (.go (.l0 0))))
  | .l0 x0_7 => let c1 := missingR b d x0_7; let c2 : List V := [iI (c1.price), tRoom.lst (c1.rooms), tDay.lst (c1.days)]; (.br (decide (x0_7 ≤ (60 : Int))) (.call 50 [.agg (cC b), iI d, iI x0_7] (.agg c2) true true (.call 47 [.agg c2, iI d, .nils] (.bool (explainsR c1 d ([]))) true true (.br (explainsR c1 d ([])) (.out (.r0 x0_7 0)) (.need (inR .i64 (x0_7 + (1 : Int))) (.go (.l0 (x0_7 + (1 : Int)))))))) (.out (.r0 0 9)))
noncomputable def g32 (b : Book) (d : Int) : P32 → List Item × St
  | .e => bd Tryz.f32 [.agg (cC b), iI d] 23
  | .l0 x0_7 => (cutOf Tryz.f32 0, ⟨mk 25 [(1, iI d), (2, .ref 0 0 0), (7, iI x0_7)], [.cells (cC b)], []⟩)
noncomputable def n32 : R32 → Exit × St
  | .r0 r0 r1 => (.ret, ⟨mk 25 [(4, iI r0), (5, iI r1)], [], []⟩)
noncomputable def v32 : R32 → V
  | .r0 r0 r1 => .tuple [iI r0, iI r1]
theorem s32 (b : Book) (d : Int) : Sm 0 (g32 b d) (T32 b d) (n32)
  | .e => ⟨400, by kernel_rfl⟩
  | .l0 _ => ⟨400, by kernel_rfl⟩
theorem q32 : ∀ r, bodyQ Tryz.prog Tryz.f32 (· = v32 r) (n32 r).1 (n32 r).2
  | .r0 r0 r1 => bq (.tuple [iI r0, iI r1]) (by kernel_rfl)
theorem w32 (b : Book) (d : Int) {post : V → Prop} (h : WQ (T32 b d) v32 post .e) : PC 32 [.agg (cC b), iI d] post :=
  PCalls.wq Tryz.func32 (s32 b d) q32 h
theorem c32 (b : Book) (d : Int) : PC 32 [.agg (tBook.cells b), iI d] (· = .tuple [iI (missedR b d).1, iI (missedR b d).2]) := by
  have k65 := c65 b d
  by_cases ha : askedR b d = 0
  · obtain ⟨h, hd1, hd2, hday⟩ := asked_ok ha
    have ht := tight (asked_chk ha)
    have hmain : WP Tryz.prog ⟨none, 0⟩ (T32 b d) (Ends' fun r => v32 r = .tuple [iI (missedR b d).1, iI (missedR b d).2]) (.l0 0) := by
      have e : missedR b d = match firstI (fun (m : Nat) => explainsR (missingR b d m) d []) 0 (List.range 61) with | some m => ((m : Int), 0) | none => (0, 9) := by unfold missedR; exact if_neg (fun q => q ha)
      refine WP.findI (fun i => .l0 (i : Int)) rfl (List.range 61) 0 (fun (m : Nat) => explainsR (missingR b d m) d []) (fun i hi => ?_) fun hI => ?_
      · have hi' : i < 61 := by simpa using hi
        have hg : (List.range 61).getD i 0 = i := by simp [List.getD_eq_getElem?_getD, hi']
        rw [hg]
        have hm : (0 : Int) ≤ (i : Int) ∧ (i : Int) ≤ 60 := by omega
        have hi2 : (i : Int) ≤ 60 := hm.2
        have hok := miss_ok h ht ⟨hd1, hd2⟩ hm
        have k50 := c50 b d i h ⟨hd1, hd2⟩ hm
        have k47 := c47n (missingR b d i) d hok (by rw [miss_len]; exact ⟨hd1, hd2⟩)
        have hr : inR .i64 ((i : Int) + 1) = true := inR64 (by omega) (by omega)
        have hres : firstI (fun (m : Nat) => explainsR (missingR b d m) d []) 0 (List.range 61) = some i → missedR b d = ((i : Int), 0) := fun q => by rw [e, q]
        refine WP.once ?_
        simp only [T32, Tr.sure, SS, hi2]
        repeat' with_reducible first | intro _ | apply And.intro
        all_goals first | exact k50 | exact k47 | (simp [hr, hres, Go, Ends', v32, -List.getD_eq_getElem?_getD, *]; done) | (simp_all [hr, hres, Go, Ends', v32, -List.getD_eq_getElem?_getD]; done)
      · have hres : missedR b d = (0, 9) := by rw [e, hI]
        have hno : ¬ (((List.range 61).length : Nat) : Int) ≤ 60 := by simp
        refine WP.step ?_
        simp only [T32, Go, Ends', v32, Tr.sure, SS, hno]
        repeat' with_reducible first | intro _ | apply And.intro
        all_goals simp [hres, Go, Ends', v32, -List.getD_eq_getElem?_getD, *]
    rw [ha] at k65
    refine w32 b d (WP.step ?_)
    simp only [T32, Go, Ends', v32, Tr.sure, SS, ha]
    repeat' with_reducible first | intro _ | apply And.intro
    all_goals first | exact k65 | exact hmain
  · have e : missedR b d = (0, askedR b d) := by unfold missedR; exact if_pos ha
    refine w32 b d (WP.step ?_)
    simp only [T32, Go, Ends', v32, Tr.sure, SS, ha]
    repeat' with_reducible first | intro _ | apply And.intro
    all_goals first | exact k65 | (simp [e, Go, Ends', v32, -List.getD_eq_getElem?_getD, *]; done)
theorem allP_succ (k : Int) (n : Nat) : allP k (n + 1) = allP k n ++ picks k n := by unfold allP; rw [List.range_succ, List.flatMap_append]; simp
theorem allP_find {k : Int} {p : List Int → Bool} {i n : Nat} {l : List Int} (hn : i < n) (h0 : (allP k i).find? p = none) (h1 : (picks k i).find? p = some l) : (allP k n).find? p = some l := by
  obtain ⟨m, rfl⟩ := Nat.exists_eq_add_of_lt hn
  have : ∀ m, (allP k (i + m + 1)).find? p = some l := by
    intro m
    induction m with
    | zero => rw [Nat.add_zero, allP_succ, List.find?_append, h0, h1]; rfl
    | succ m ih => rw [show i + (m + 1) + 1 = (i + m + 1) + 1 by omega, allP_succ, List.find?_append, ih]; rfl
  exact this m
theorem off_take (b : Book) (l : List Int) (i : Nat) (hi : i < l.length) : (offOf b (l.take (i + 1))).reverse = (entriesR b).getD (l.getD i 0).toNat 0 :: (offOf b (l.take i)).reverse := by
  rw [take_snoc 0 l i hi]; simp [offOf]
inductive P89
  | e
  | l0 (x0_6 : Int)
  | l1 (x0_6 : Int) (x1_8 : Int)
  | l2 (x0_6 : Int) (x1_8 : Int) (x2_10 : Int) (a2_1 : List Int)
inductive R89
  | r0 (r0 : List Int)
  | r1 (r0 : List Int)
noncomputable def T89 (b : Book) (d : Int) : P89 → Tr P89 R89
  | .e => (.call 48 [.agg (cC b)] (tint.lst (entriesR b)) true true (.go (.l0 0)))
  | .l0 x0_6 => let c1 := (((entriesR b).length) : Int); (.br (decide (x0_6 < c1)) (.call 123 [iI c1, iI x0_6] ((tlist tint).lst (picksI c1 x0_6)) true true (.go (.l1 x0_6 0))) (.out (.r0 (entriesR b))))
  | .l1 x0_6 x1_8 => (.br (decide (x1_8 < (((picksI (((entriesR b).length) : Int) x0_6).length) : Int))) (.wait 5 (.own 9 3 1 (.go (.l2 x0_6 x1_8 0 ([]))))) (.need (inR .i64 (x0_6 + (1 : Int))) (.go (.l0 (x0_6 + (1 : Int))))))
  | .l2 x0_6 x1_8 x2_10 a2_1 => let c1 := (picksI (((entriesR b).length) : Int) x0_6).getD (x1_8).toNat (tlist tint).zero; let c2 := decide (0 ≤ x1_8) && decide (x1_8 < (((picksI (((entriesR b).length) : Int) x0_6).length) : Int)); let c3 := c1.getD (x2_10).toNat tint.zero; let c4 := x2_10 < ((c1.length) : Int); let c5 := explainsR b d a2_1.reverse; (.need c2 (.br (decide c4) (.need c2 (.need (decide (0 ≤ x2_10) && decide c4) (.need (decide (0 ≤ c3) && decide (c3 < (((entriesR b).length) : Int))) (.need ((decide (a2_1.length = a2_1.length) && decide (a2_1.length + 1 ≤ 4294967296)) && decide (1 ≤ 1)) (.scal (fun _ => true) (.need (inR .i64 (x2_10 + (1 : Int))) (.go (.l2 x0_6 x1_8 (x2_10 + (1 : Int)) (((entriesR b).getD (c3).toNat tint.zero) :: a2_1))))))))) (.call 47 [.agg (cC b), iI d, .list 1 a2_1.length (rowsRev tint a2_1)] (.bool c5) ((decide (a2_1.length ≤ a2_1.length)) && true) true (.br c5 (.out (.r1 a2_1)) (.need (inR .i64 (x1_8 + (1 : Int))) (.go (.l1 x0_6 (x1_8 + (1 : Int)))))))))
noncomputable def g89 (b : Book) (d : Int) : P89 → List Item × St
  | .e => bd Tryz.f89 [.agg (cC b), iI d] 55
  | .l0 x0_6 => (cutOf Tryz.f89 0, ⟨mk 57 [(1, iI d), (2, .ref 0 0 0), (5, tint.lst (entriesR b)), (6, iI x0_6)], [.cells (cC b)], []⟩)
  | .l1 x0_6 x1_8 => (cutOf Tryz.f89 1, ⟨mk 57 [(1, iI d), (2, .ref 0 0 0), (5, tint.lst (entriesR b)), (6, iI x0_6), (7, (tlist tint).lst (picksI (((entriesR b).length) : Int) x0_6)), (8, iI x1_8)], [.cells (cC b)], []⟩)
  | .l2 x0_6 x1_8 x2_10 a2_1 => (cutOf Tryz.f89 2, ⟨mk 57 [(1, iI d), (2, .ref 0 0 0), (5, tint.lst (entriesR b)), (6, iI x0_6), (7, (tlist tint).lst (picksI (((entriesR b).length) : Int) x0_6)), (8, iI x1_8), (9, .row 1 a2_1.length), (10, iI x2_10)], [.cells (cC b), .rows 3 1 a2_1.length (rowsRev tint a2_1)], []⟩)
noncomputable def n89 : R89 → Exit × St
  | .r0 r0 => (.ret, ⟨mk 57 [(4, tint.lst r0)], [], []⟩)
  | .r1 r0 => (.ret, ⟨mk 57 [(4, .row 1 r0.length)], [.gone, .rows 3 1 r0.length (rowsRev tint r0)], []⟩)
noncomputable def v89 : R89 → V
  | .r0 r0 => tint.lst r0
  | .r1 r0 => tint.lst r0.reverse
theorem s89 (b : Book) (d : Int) : Sm 0 (g89 b d) (T89 b d) (n89)
  | .e => ⟨400, by kernel_rfl⟩
  | .l0 _ => ⟨400, by kernel_rfl⟩
  | .l1 _ _ => ⟨400, by kernel_rfl⟩
  | .l2 _ _ _ _ => ⟨400, by kernel_rfl⟩
theorem q89 : ∀ r, bodyQ Tryz.prog Tryz.f89 (· = v89 r) (n89 r).1 (n89 r).2
  | .r0 r0 => bq (tint.lst r0) (by kernel_rfl)
  | .r1 r0 => ⟨.inr rfl, by simp [n89], (.row 1 r0.length), (tint.lst r0.reverse), by kernel_rfl, (.weak (.row rfl (Nat.le_refl _)) (VLe.rev tint r0)), rfl⟩
theorem w89 (b : Book) (d : Int) {post : V → Prop} (h : WQ (T89 b d) v89 post .e) : PC 89 [.agg (cC b), iI d] post :=
  PCalls.wq Tryz.func89 (s89 b d) q89 h
theorem c89 (b : Book) (d : Int) (h : OkBook b) (hd : 0 ≤ d ∧ d < b.days.length) : PC 89 [.agg (tBook.cells b), iI d] (· = tint.lst (offR b d)) := by
  have k48 := c48 b h
  have h3 := h.nr
  have hl := entries_len b
  have k47 := c47 b d
  obtain ⟨p, hp⟩ : ∃ p, p = fun l => explainsR b d (offOf b l) := ⟨_, rfl⟩
  have hoff : offR b d = match (allP (entriesR b).length (entriesR b).length).find? p with | some l => offOf b l | none => entriesR b := by rw [hp]; rfl
  have hpl : ∀ l, p l = explainsR b d (offOf b l) := fun l => by rw [hp]
  clear hp
  have hmain : WP Tryz.prog ⟨none, 0⟩ (T89 b d) (Ends' fun r => v89 r = tint.lst (offR b d)) (.l0 0) := by
    have hof : ∀ l, offOf b l = l.map fun i => (entriesR b).getD i.toNat 0 := fun _ => rfl
    have hot := off_take b
    have hol := offOf_len b
    generalize hE : entriesR b = E at *
    have hE8 : (0 : Int) ≤ (E.length : Int) ∧ (E.length : Int) ≤ 8 := by omega
    refine WP.count (fun i => .l0 (i : Int)) rfl E.length (fun i => (allP E.length i).find? p = none) rfl (fun i hi hI => ?_) fun hI => ?_
    · have k123 := c123 E.length hE8 i (by omega)
      have hi' : (i : Int) < E.length := by omega
      have eL : picksI (E.length : Int) (i : Int) = picks E.length i := by simp only [picksI, Int.toNat_natCast]
      have hlen := picks_len (b := E.length) (by omega) i
      have h8 : 8 ^ i ≤ 8 ^ 5 := Nat.pow_le_pow_right (by omega) (by omega)
      have hr0 : inR .i64 ((i : Int) + 1) = true := inR64 (by omega) (by omega)
      have hfind := fun l => allP_find (l := l) hi hI
      have hnext : (picks E.length i).find? p = none → (allP E.length (i + 1)).find? p = none := fun h => by
        rw [allP_succ, List.find?_append, hI, h]; rfl
      have hpk := picks_ok (E.length : Int) i
      generalize picks E.length i = L at *
      have main : ∀ φ, WP Tryz.prog ⟨none, 0⟩ (T89 b d) φ (.l1 (i : Int) 0) → WP Tryz.prog ⟨none, 0⟩ (T89 b d) φ (.l0 (i : Int)) := fun φ h => by
        refine WP.step ?_
        simp only [T89, Go, Ends', v89, Tr.sure, SS, hi', eL, hE]
        repeat' with_reducible first | intro _ | apply And.intro
        all_goals first | exact k123 | exact h
      refine main _ (WP.findI (fun j => .l1 (i : Int) (j : Int)) rfl L [] p (fun j hj => ?_) fun hJ => ?_)
      · have hr : inR .i64 ((j : Int) + 1) = true := inR64 (by omega) (by omega)
        have hz : (tlist tint).zero = ([] : List Int) := rfl
        have hj' : (j : Int) < L.length := by omega
        have hres : firstI p 0 L = some j → offR b d = offOf b (L.getD j []) := fun h => by
          obtain ⟨q, h1, h2⟩ := find_firstI _ [] L 0 j h
          obtain rfl : j = q := by omega
          rw [hoff, hfind _ h2]
        have hpick := (hpk (L.getD j [])).1 (by rw [List.getD_eq_getElem?_getD, List.getElem?_eq_getElem hj]; exact List.getElem_mem _)
        generalize hl2 : L.getD j [] = l at *
        have hll := hpick.len
        have main2 : ∀ φ, WP Tryz.prog ⟨none, 0⟩ (T89 b d) φ (.l2 (i : Int) (j : Int) 0 []) → WP Tryz.prog ⟨none, 0⟩ (T89 b d) φ (.l1 (i : Int) (j : Int)) := fun φ h => by
          refine WP.step ?_
          simp only [T89, Go, Ends', v89, Tr.sure, SS, hj', eL, hE]
          repeat' with_reducible first | intro _ | apply And.intro
          all_goals exact h
        refine main2 _ (WP.run (fun k => .l2 (i : Int) (j : Int) (k : Int) (offOf b (l.take k)).reverse) (by simp [hof]) l.length (fun k hk => ?_) ?_)
        · have hrk : inR .i64 ((k : Int) + 1) = true := inR64 (by omega) (by omega)
          have hk' : (k : Int) < l.length := by omega
          have hx := getD_mem 0 l k hk
          have hx1 := hpick.lo _ hx
          have hx2 := hpick.hi _ hx
          rw [hot l k hk]
          have hbl : (offOf b (l.take k)).reverse.length + 1 ≤ 4294967296 := by rw [List.length_reverse, hol, List.length_take]; omega
          generalize (offOf b (l.take k)).reverse = B at *
          refine WP.once ?_
          simp only [T89, Tr.sure, SS, hj', hk', eL, hE, hz, hl2, z1]
          repeat' with_reducible first | intro _ | apply And.intro
          all_goals first | (simp [hrk, hbl, hx1, hx2, Go, Ends', v89, -List.getD_eq_getElem?_getD, *]; done) | (simp_all [hrk, hbl, hx1, hx2, Go, Ends', v89, -List.getD_eq_getElem?_getD]; done)
        · rw [List.take_length]
          have hkk := k47 (offOf b l) h hd
          have hrv := PCalls.arg (pre := [.agg (tBook.cells b), iI d]) hkk (VLe.rr tint (offOf b l))
          have hrr : (offOf b l).reverse.reverse = offOf b l := List.reverse_reverse _
          have hpll := hpl l
          refine WP.once ?_
          simp only [T89, Tr.sure, SS, hj', eL, hE, hz, hl2, Int.lt_irrefl, hrr]
          repeat' with_reducible first | intro _ | apply And.intro
          all_goals first | exact hrv | (simp [hr, hres, hpll, hrr, Go, Ends', v89, -List.getD_eq_getElem?_getD, *]; done) | (simp_all [hr, hres, hpll, hrr, Go, Ends', v89, -List.getD_eq_getElem?_getD]; done)
      · have hnx := hnext (find_none _ _ hJ)
        refine WP.once ?_
        simp only [T89, Tr.sure, SS, eL, hE, Int.lt_irrefl]
        repeat' with_reducible first | intro _ | apply And.intro
        all_goals first | (simp [hr0, hnx, Go, Ends', v89, -List.getD_eq_getElem?_getD, *]; done) | (simp_all [hr0, hnx, Go, Ends', v89, -List.getD_eq_getElem?_getD]; done)
        all_goals exact .inl ⟨rfl, hnx⟩
    · have hf2 : offR b d = E := by rw [hoff, hI]
      refine WP.step ?_
      simp only [T89, Go, Ends', v89, Tr.sure, SS, Int.lt_irrefl, hE]
      repeat' with_reducible first | intro _ | apply And.intro
      all_goals simp [hf2, Go, Ends', v89, -List.getD_eq_getElem?_getD, *]
  refine w89 b d (WP.step ?_)
  simp only [T89, Go, Ends', v89, Tr.sure, SS]
  repeat' with_reducible first | intro _ | apply And.intro
  all_goals first | exact k48 | exact hmain
theorem entE_take (d : Int) (l : List Int) (i : Nat) (hi : i < l.length) : (entE d (l.take (i + 1))).reverse = (⟨d, l.getD i 0⟩ : Entry) :: (entE d (l.take i)).reverse := by
  rw [take_snoc 0 l i hi]; simp [entE]
inductive P34
  | e
  | l0 (x0_8 : Int) (a0_1 : List Entry)
  | l1 (x0_8 : Int) (x1_10 : Int) (a1_1 : List Entry)
inductive R34
  | r0 (r1 : Int)
  | r1 (r0 : List Entry) (r1 : Int)
noncomputable def T34 (b : Book) : P34 → Tr P34 R34
  | .e => let c1 := bookCheck b; (.call 14 [.agg (cC b)] (.tuple [iI (c1.1), iI (c1.2.1), iI (c1.2.2)]) true true (.br (c1.2.2 != (0 : Int)) (.out (.r0 (c1.2.2))) (.wait 3 (.own 7 119 2 (.go (.l0 0 ([])))))))
  | .l0 x0_8 a0_1 => (.br (decide (x0_8 < (b.days.length : Int))) (.call 89 [.agg (cC b), iI x0_8] (tint.lst (offR b x0_8)) true true (.go (.l1 x0_8 0 a0_1))) (.out (.r1 a0_1 0)))
  | .l1 x0_8 x1_10 a1_1 => let c1 := x1_10 < (((offR b x0_8).length) : Int); (.br (decide c1) (.need (decide (0 ≤ x1_10) && decide c1) (.need ((decide (a1_1.length = a1_1.length) && decide (a1_1.length + 1 ≤ 4294967296)) && decide (1 ≤ 1)) (.scal (fun _ => true) (.need (inR .i64 (x1_10 + (1 : Int))) (.go (.l1 x0_8 (x1_10 + (1 : Int)) ((⟨x0_8, ((offR b x0_8).getD (x1_10).toNat tint.zero)⟩ : Entry) :: a1_1))))))) (.need (inR .i64 (x0_8 + (1 : Int))) (.go (.l0 (x0_8 + (1 : Int)) a1_1))))
noncomputable def g34 (b : Book) : P34 → List Item × St
  | .e => bd Tryz.f34 [.agg (cC b)] 45
  | .l0 x0_8 a0_1 => (cutOf Tryz.f34 0, ⟨mk 46 [(1, .ref 0 0 0), (7, .row 1 a0_1.length), (8, iI x0_8)], [.cells (cC b), .rows 119 2 a0_1.length (rowsRev tEntry a0_1)], []⟩)
  | .l1 x0_8 x1_10 a1_1 => (cutOf Tryz.f34 1, ⟨mk 46 [(1, .ref 0 0 0), (7, .row 1 a1_1.length), (8, iI x0_8), (9, tint.lst (offR b x0_8)), (10, iI x1_10)], [.cells (cC b), .rows 119 2 a1_1.length (rowsRev tEntry a1_1)], []⟩)
noncomputable def n34 : R34 → Exit × St
  | .r0 r1 => (.ret, ⟨mk 46 [(2, .nils), (3, iI r1)], [], []⟩)
  | .r1 r0 r1 => (.ret, ⟨mk 46 [(2, .row 1 r0.length), (3, iI r1)], [.gone, .rows 119 2 r0.length (rowsRev tEntry r0)], []⟩)
noncomputable def v34 : R34 → V
  | .r0 r1 => .tuple [tEntry.lst ([] : List Entry), iI r1]
  | .r1 r0 r1 => .tuple [tEntry.lst r0.reverse, iI r1]
theorem s34 (b : Book) : Sm 0 (g34 b) (T34 b) (n34)
  | .e => ⟨400, by kernel_rfl⟩
  | .l0 _ _ => ⟨400, by kernel_rfl⟩
  | .l1 _ _ _ => ⟨400, by kernel_rfl⟩
theorem q34 : ∀ r, bodyQ Tryz.prog Tryz.f34 (· = v34 r) (n34 r).1 (n34 r).2
  | .r0 r1 => ⟨.inr rfl, by simp [n34], (.tuple [.nils, iI r1]), (.tuple [tEntry.lst ([] : List Entry), iI r1]), by kernel_rfl, (.tuple rfl fun j hj => match j, hj with | 0, _ => .weak (.imm rfl) VLe.nils | 1, _ => .imm rfl), rfl⟩
  | .r1 r0 r1 => ⟨.inr rfl, by simp [n34], (.tuple [.row 1 r0.length, iI r1]), (.tuple [tEntry.lst r0.reverse, iI r1]), by kernel_rfl, (.tuple rfl fun j hj => match j, hj with | 0, _ => .weak (.row rfl (Nat.le_refl _)) (VLe.rev tEntry r0) | 1, _ => .imm rfl), rfl⟩
theorem w34 (b : Book) {post : V → Prop} (h : WQ (T34 b) v34 post .e) : PC 34 [.agg (cC b)] post :=
  PCalls.wq Tryz.func34 (s34 b) q34 h
theorem c34 (b : Book) : PC 34 [.agg (tBook.cells b)] (· = .tuple [tEntry.lst (wrongR b).1, iI (wrongR b).2]) := by
  have k14 := c14 b
  by_cases ha : (bookCheck b).2.2 = 0
  · have h := okBook ha
    have e : wrongR b = (wrongAll b b.days.length, 0) := by unfold wrongR; exact if_neg (fun q => q ha)
    have h4 := h.nd
    rw [ha] at k14
    have hmain : WP Tryz.prog ⟨none, 0⟩ (T34 b) (Ends' fun r => v34 r = .tuple [tEntry.lst (wrongR b).1, iI (wrongR b).2]) (.l0 0 []) := by
      refine WP.run (fun i => .l0 (i : Int) (wrongAll b i).reverse) rfl b.days.length (fun i hi => ?_) ?_
      · have hi' : (i : Int) < b.days.length := by omega
        have hr : inR .i64 ((i : Int) + 1) = true := inR64 (by omega) (by omega)
        have k89 := c89 b i h ⟨by omega, hi'⟩
        have hol := off_len b i h
        have hwl := wrongAll_len b h i
        rw [wrongAll_succ]
        have hB0 : (wrongAll b i).reverse.length ≤ 5 * i := by rw [List.length_reverse]; exact hwl
        generalize (wrongAll b i).reverse = B at *
        have main : ∀ φ, WP Tryz.prog ⟨none, 0⟩ (T34 b) φ (.l1 (i : Int) 0 B) → WP Tryz.prog ⟨none, 0⟩ (T34 b) φ (.l0 (i : Int) B) := fun φ h => by
          refine WP.step ?_
          simp only [T34, Go, Ends', v34, Tr.sure, SS, hi']
          repeat' with_reducible first | intro _ | apply And.intro
          all_goals first | exact k89 | exact h
        refine main _ ?_
        generalize hL : offR b i = L at *
        refine WP.run (fun k => .l1 (i : Int) (k : Int) ((entE i (L.take k)).reverse ++ B)) (by simp [entE]) L.length (fun k hk => ?_) ?_
        · have hrk : inR .i64 ((k : Int) + 1) = true := inR64 (by omega) (by omega)
          have hk' : (k : Int) < L.length := by omega
          rw [entE_take _ _ _ hk]
          have hbl : ((entE i (L.take k)).reverse ++ B).length + 1 ≤ 4294967296 := by simp only [entE, List.length_append, List.length_reverse, List.length_map, List.length_take]; omega
          rw [List.cons_append]
          generalize (entE i (L.take k)).reverse ++ B = C at *
          refine WP.once ?_
          simp only [T34, Tr.sure, SS, hk', hL, z1]
          repeat' with_reducible first | intro _ | apply And.intro
          all_goals simp [hrk, hbl, Go, Ends', v34, -List.getD_eq_getElem?_getD, *]
        · rw [List.take_length]
          refine WP.once ?_
          simp only [T34, Tr.sure, SS, hL, Int.lt_irrefl]
          repeat' with_reducible first | intro _ | apply And.intro
          all_goals simp [hr, Go, Ends', v34, -List.getD_eq_getElem?_getD, *]
      · have hrr := VLe.rr tEntry (wrongAll b b.days.length)
        have hl := List.reverse_reverse (wrongAll b b.days.length)
        refine WP.step ?_
        simp only [T34, Go, Ends', v34, Tr.sure, SS, Int.lt_irrefl]
        repeat' with_reducible first | intro _ | apply And.intro
        all_goals simp [e, hl, Go, Ends', v34, -List.getD_eq_getElem?_getD, *]
    refine w34 b (WP.step ?_)
    simp only [T34, Go, Ends', v34, Tr.sure, SS, ha]
    repeat' with_reducible first | intro _ | apply And.intro
    all_goals first | exact k14 | exact hmain
  · have e : wrongR b = ([], (bookCheck b).2.2) := by unfold wrongR; exact if_pos ha
    refine w34 b (WP.step ?_)
    simp only [T34, Go, Ends', v34, Tr.sure, SS, ha]
    repeat' with_reducible first | intro _ | apply And.intro
    all_goals first | exact k14 | (simp [e, Go, Ends', v34, -List.getD_eq_getElem?_getD, *]; done)
end
noncomputable section
inductive P5
  | e
inductive R5
  | r0 (r0 : Bool)
noncomputable def T5 (b : Book) (d : Int) : P5 → Tr P5 R5
  | .e => let c1 := (wrongR b).1; let c2 := missedR b d; let c3 : Tr P5 R5 := .out (.r0 false); let c4 : V := .tuple [tEntry.lst c1, iI ((wrongR b).2)]; let c5 : V := .tuple [iI (c2.1), iI (c2.2)]; (.call 31 [.agg (cC b), iI d] c5 true true (.call 32 [.agg (cC b), iI d] c5 true true (.br (c2.1 != c2.1) (.lit true c3) (.br (c2.2 != c2.2) c3 (.call 33 [.agg (cC b)] c4 true true (.call 34 [.agg (cC b)] c4 true true (.call 35 [tEntry.lst c1, tEntry.lst c1] (.bool (sameE c1 c1)) true true (.br (sameE c1 c1) (.br ((wrongR b).2 == (wrongR b).2) (.call 21 [] (.bool true) true true (.out (.r0 true))) c3) (.lit false c3)))))))))
noncomputable def g5 (b : Book) (d : Int) : P5 → List Item × St
  | .e => bd Tryz.f5 [.agg (cC b), iI d] 50
noncomputable def n5 : R5 → Exit × St
  | .r0 r0 => (.ret, ⟨mk 52 [(4, .bool r0)], [], []⟩)
noncomputable def v5 : R5 → V
  | .r0 r0 => .bool r0
theorem s5 (b : Book) (d : Int) : Sm 0 (g5 b d) (T5 b d) (n5)
  | .e => ⟨400, by kernel_rfl⟩
theorem q5 : ∀ r, bodyQ Tryz.prog Tryz.f5 (· = v5 r) (n5 r).1 (n5 r).2
  | .r0 r0 => bq (.bool r0) (by kernel_rfl)
theorem w5 (b : Book) (d : Int) {post : V → Prop} (h : WQ (T5 b d) v5 post .e) : PC 5 [.agg (cC b), iI d] post :=
  PCalls.wq Tryz.func5 (s5 b d) q5 h
theorem sameE_self (l : List Entry) : sameE l l = true := by simp [sameE]
theorem c5 (b : Book) (d : Int) (hs : SmB b) : PC 5 [.agg (tBook.cells b), iI d] (· = .bool true) := by
  refine w5 b d (WP.step ?_)
  simp only [T5, Go, Ends', v5, Tr.sure, SS]
  repeat' with_reducible first | intro _ | apply And.intro
  all_goals first | exact (c31 b d hs) | exact (c32 b d) | exact (c33 b hs) | exact (c34 b) | exact (c35 _ _) | exact c21 | (simp_all [sameE_self, Go, Ends', v5, -List.getD_eq_getElem?_getD]; done)
end
end Go.Proofs.YtfgmckfomckliaaGreat
