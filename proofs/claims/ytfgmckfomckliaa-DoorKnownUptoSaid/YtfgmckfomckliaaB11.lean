/-
  Part of the proof of the law DoorKnown. Conditions: those that stand in each theorem.
-/
import Derived.Test.YtfgmckfomckliaaB10
set_option linter.unusedSimpArgs false
set_option linter.unusedVariables false
set_option maxRecDepth 100000
namespace Go.Proofs.Ytfgmckfomckliaa
open Ab Go
noncomputable section
inductive P82
  | e
  | l0 (x0_10 : Int)
  | l1 (x0_10 : Int) (x1_11 : List Int) (x1_61 : Int)
  | l2 (x0_10 : Int) (x1_11 : List Int) (x1_61 : Int) (x2_14 : Int) (x2_15 : Int) (x2_84 : Int) (a2_1 : List Int)
  | l3 (x0_10 : Int) (x1_11 : List Int) (x1_61 : Int) (x2_14 : Int) (x2_15 : Int) (x2_84 : Int) (x3_19 : Int) (a3_1 : List Int)
  | l4 (x0_10 : Int) (x1_11 : List Int) (x4_111 : Int)
inductive R82
  | r0 (r0 : Bool)
noncomputable def T82 (x : Look) : P82 → Tr P82 R82
  | .e => let c1 := boundR x 0 60 none; (.call 37 [lk x] (.list 3 ((entsR x).length) (fun r j => (entF x r).getD j uU)) true true (.call 17 [lk x] (.tuple [iI (feesR x.b x.day), iI (pupilsR x.day)]) true true (.need (decide ((2 : Int) ≠ 0) && inR .i64 (x.b.price.tdiv (2 : Int))) (.need (decide (0 ≤ (0 : Int)) && decide ((0 : Int) < (((entsR x).length) : Int))) (.call 38 [lk x, iI 0, iI 60, .agg [iI (-1), fF 60, fG 61 [rR (lk x)]]] (.tuple [iI (c1.1), iI (c1.2)]) true true (.go (.l0 (max (c1.1) (pupilsR x.day)))))))))
  | .l0 x0_10 => let c1 := ([0] : List Int); let c2 := rowsOf tint c1; (.br (decide (x0_10 ≤ (boundR x 0 60 none).2)) (.wait 7 (.telb 0 1 1 (litC 1 1 [iI 0]) c2 (.wait 2 (.frz 0 ((decide (1 ≤ 1)) && ((decide (1 ≤ 1)) && true)) (.vle 11 (.list 1 1 c2) (tint.lst c1) (.vle 54 (.list 1 1 c2) (tint.lst c1) (.go (.l1 x0_10 c1 0)))))))) (.out (.r0 false)))
  | .l1 x0_10 x1_11 x1_61 => let c1 := min x0_10 ((x.b.rooms.getD (x1_61).toNat tRoom.zero).full); let c2 := (2 : Int) + (1 : Int); let c3 := (1 : Int) + (1 : Int); let c4 := (0 : Int) + (1 : Int); let c5 := boundR x c4 c1 (some (0 : Int)); let c6 := boundR x c3 c1 (some (1 : Int)); let c7 := boundR x c2 c1 (some (2 : Int)); let c8 := (((entsR x).length) : Int); let c9 := x1_61 < (x.b.rooms.length : Int); (.br (decide c9) (.need (decide (0 ≤ x1_61) && decide c9) (.wait 1 (.cas (decide (x1_61 = 0)) (.vle 12 (iI x1_61) (iI 0) (.front [(12, 38, [lk x, iI c4, iI c1, .agg [iI (0 : Int), fG 62 [rR (iI (0 : Int))], fG 63 [rR (iI (0 : Int)), rR (lk x)]]], .tuple [iI (c5.1), iI (c5.2)])] [] (((inR .i64 c4) && ((inR .i64 c4) && ((decide (0 ≤ c4) && decide (c4 < c8)) && true))) && true) true (.wait 2 (.own 16 3 1 (.go (.l2 x0_10 x1_11 x1_61 (c5.1) (c5.2) 0 ([]))))))) (.cas (decide (x1_61 = 1)) (.vle 12 (iI x1_61) (iI 1) (.front [(12, 38, [lk x, iI c3, iI c1, .agg [iI (1 : Int), fG 62 [rR (iI (1 : Int))], fG 63 [rR (iI (1 : Int)), rR (lk x)]]], .tuple [iI (c6.1), iI (c6.2)])] [] (((inR .i64 c3) && ((inR .i64 c3) && ((decide (0 ≤ c3) && decide (c3 < c8)) && true))) && true) true (.wait 2 (.own 16 3 1 (.go (.l2 x0_10 x1_11 x1_61 (c6.1) (c6.2) 0 ([]))))))) (.cas (decide (x1_61 = 2)) (.vle 12 (iI x1_61) (iI 2) (.front [(12, 38, [lk x, iI c2, iI c1, .agg [iI (2 : Int), fG 62 [rR (iI (2 : Int))], fG 63 [rR (iI (2 : Int)), rR (lk x)]]], .tuple [iI (c7.1), iI (c7.2)])] [] (((inR .i64 c2) && ((inR .i64 c2) && ((decide (0 ≤ c2) && decide (c2 < c8)) && true))) && true) true (.wait 2 (.own 16 3 1 (.go (.l2 x0_10 x1_11 x1_61 (c7.1) (c7.2) 0 ([]))))))) .never))))) (.go (.l4 x0_10 x1_11 0)))
  | .l2 x0_10 x1_11 x1_61 x2_14 x2_15 x2_84 a2_1 => let c1 := Lib.compact (sortZ a2_1.reverse); let c2 : List V := [.str ((x.b.rooms.getD (x1_61).toNat tRoom.zero).name), iI ((x.b.rooms.getD (x1_61).toNat tRoom.zero).more), iI ((x.b.rooms.getD (x1_61).toNat tRoom.zero).full)]; let c3 := rowsOf tint (padZ c1 a2_1.length); let c4 : List Blk := [.cells c2, .rows 3 1 a2_1.length (rowsOf tint (sortZ a2_1.reverse))]; let c5 := decide (a2_1.length ≤ a2_1.length); let c6 := tint.lst (padZ c1 a2_1.length); let c7 : V := .list 1 a2_1.length c3; let c8 := decide (c1.length ≤ a2_1.length); let c9 := x2_84 < (x1_11.length : Int); (.br (decide c9) (.need (decide (0 ≤ x2_84) && decide c9) (.go (.l3 x0_10 x1_11 x1_61 x2_14 x2_15 x2_84 x2_14 a2_1))) (.hcall 42 [.row 1 a2_1.length] (.tuple []) [.cells c2, .rows 3 1 a2_1.length (rowsRev tint a2_1)] c4 true (.hcall 43 [.row 1 a2_1.length] (.row 1 (c1.length)) c4 [.cells c2, .rows 3 1 a2_1.length c3] true (.need (inR .i64 (x1_61 + (1 : Int))) (.frz 1 (c8 && (c5 && (c5 && (c5 && (c8 && true))))) (.vle 11 (.list 1 (c1.length) c3) (tint.lst c1) (.vle 16 c7 c6 (.vle 104 c7 c6 (.vle 106 c7 c6 (.vle 107 (.list 1 (c1.length) c3) (tint.lst c1) (.go (.l1 x0_10 c1 (x1_61 + (1 : Int))))))))))))))
  | .l3 x0_10 x1_11 x1_61 x2_14 x2_15 x2_84 x3_19 a3_1 => let c1 := x3_19 * (x.b.rooms.getD (x1_61).toNat tRoom.zero).more; let c2 := (x1_11.getD (x2_84).toNat tint.zero) + c1; (.br (decide (x3_19 ≤ x2_15)) (.need (inR .i64 c1) (.need (inR .i64 c2) (.need ((decide (a3_1.length = a3_1.length) && decide (a3_1.length + 1 ≤ 4294967296)) && decide (1 ≤ 1)) (.scal (fun _ => true) (.need (inR .i64 (x3_19 + (1 : Int))) (.go (.l3 x0_10 x1_11 x1_61 x2_14 x2_15 x2_84 (x3_19 + (1 : Int)) (c2 :: a3_1)))))))) (.need (inR .i64 (x2_84 + (1 : Int))) (.go (.l2 x0_10 x1_11 x1_61 x2_14 x2_15 (x2_84 + (1 : Int)) a3_1))))
  | .l4 x0_10 x1_11 x4_111 => let c2 : Tr P82 R82 := .need (inR .i64 (x4_111 + (1 : Int))) (.go (.l4 x0_10 x1_11 (x4_111 + (1 : Int)))); let c3 := x.b.price.tdiv (2 : Int); let c4 := x0_10 - (pupilsR x.day); let c5 := (((entsR x).length) : Int); let c6 := x.day.taken - (feesR x.b x.day); let c1 := (c6 - (x1_11.getD (x4_111).toNat tint.zero)) - (c4 * c3); let c7 := x4_111 < (x1_11.length : Int); let c8 : Tr P82 R82 := .lit false (.lit false c2); (.br (decide c7) (.need (decide (0 ≤ x4_111) && decide c7) (.need (inR .i64 c6) (.need (inR .i64 (c6 - (x1_11.getD (x4_111).toNat tint.zero))) (.need (inR .i64 c4) (.need (inR .i64 (c4 * c3)) (.need (inR .i64 c1) (.call 44 [lk x, iI c5] (.bool (ignX x c5)) true true (.br (ignX x c5) (.lit true (.lit true (.lit true (.out (.r0 true))))) (.br (decide (c1 ≥ (0 : Int))) (.need (decide (c3 ≠ 0)) (.lit false (.br ((c1.tmod c3) == (0 : Int)) (.need (decide (c3 ≠ 0) && inR .i64 (c1.tdiv c3)) (.need (inR .i64 c4) (.lit false (.br (decide ((c1.tdiv c3) ≤ c4)) (.out (.r0 true)) c2)))) c8))) (.lit false (.lit false c8))))))))))) (.need (inR .i64 (x0_10 + (1 : Int))) (.go (.l0 (x0_10 + (1 : Int))))))
noncomputable def g82 (x : Look) : P82 → List Item × St
  | .e => bd Try.f23 [lk x] 152
  | .l0 x0_10 => (cutOf Try.f23 0, ⟨mk 153 [(0, lk x), (3, .list 3 ((entsR x).length) (fun r j => (entF x r).getD j uU)), (4, iI (((entsR x).length) : Int)), (5, iI (feesR x.b x.day)), (6, iI (pupilsR x.day)), (7, iI (x.b.price.tdiv (2 : Int))), (9, iI ((boundR x 0 60 none).2)), (10, iI x0_10)], [], []⟩)
  | .l1 x0_10 x1_11 x1_61 => (cutOf Try.f23 1, ⟨mk 153 [(0, lk x), (3, .list 3 ((entsR x).length) (fun r j => (entF x r).getD j uU)), (4, iI (((entsR x).length) : Int)), (5, iI (feesR x.b x.day)), (6, iI (pupilsR x.day)), (7, iI (x.b.price.tdiv (2 : Int))), (9, iI ((boundR x 0 60 none).2)), (10, iI x0_10), (11, tint.lst x1_11), (59, tRoom.lst x.b.rooms), (60, iI (x.b.rooms.length : Int)), (61, iI x1_61)], [], []⟩)
  | .l2 x0_10 x1_11 x1_61 x2_14 x2_15 x2_84 a2_1 => (cutOf Try.f23 2, ⟨mk 153 [(0, lk x), (3, .list 3 ((entsR x).length) (fun r j => (entF x r).getD j uU)), (4, iI (((entsR x).length) : Int)), (5, iI (feesR x.b x.day)), (6, iI (pupilsR x.day)), (7, iI (x.b.price.tdiv (2 : Int))), (9, iI ((boundR x 0 60 none).2)), (10, iI x0_10), (13, .ref 0 0 0), (14, iI x2_14), (15, iI x2_15), (16, .row 1 a2_1.length), (59, tRoom.lst x.b.rooms), (60, iI (x.b.rooms.length : Int)), (61, iI x1_61), (82, tint.lst x1_11), (83, iI (x1_11.length : Int)), (84, iI x2_84)], [.cells [.str ((x.b.rooms.getD (x1_61).toNat tRoom.zero).name), iI ((x.b.rooms.getD (x1_61).toNat tRoom.zero).more), iI ((x.b.rooms.getD (x1_61).toNat tRoom.zero).full)], .rows 3 1 a2_1.length (rowsRev tint a2_1)], []⟩)
  | .l3 x0_10 x1_11 x1_61 x2_14 x2_15 x2_84 x3_19 a3_1 => (cutOf Try.f23 3, ⟨mk 153 [(0, lk x), (3, .list 3 ((entsR x).length) (fun r j => (entF x r).getD j uU)), (4, iI (((entsR x).length) : Int)), (5, iI (feesR x.b x.day)), (6, iI (pupilsR x.day)), (7, iI (x.b.price.tdiv (2 : Int))), (9, iI ((boundR x 0 60 none).2)), (10, iI x0_10), (13, .ref 0 0 0), (14, iI x2_14), (15, iI x2_15), (16, .row 1 a3_1.length), (18, iI (x1_11.getD (x2_84).toNat tint.zero)), (19, iI x3_19), (59, tRoom.lst x.b.rooms), (60, iI (x.b.rooms.length : Int)), (61, iI x1_61), (82, tint.lst x1_11), (83, iI (x1_11.length : Int)), (84, iI x2_84)], [.cells [.str ((x.b.rooms.getD (x1_61).toNat tRoom.zero).name), iI ((x.b.rooms.getD (x1_61).toNat tRoom.zero).more), iI ((x.b.rooms.getD (x1_61).toNat tRoom.zero).full)], .rows 3 1 a3_1.length (rowsRev tint a3_1)], []⟩)
  | .l4 x0_10 x1_11 x4_111 => (cutOf Try.f23 4, ⟨mk 153 [(0, lk x), (3, .list 3 ((entsR x).length) (fun r j => (entF x r).getD j uU)), (4, iI (((entsR x).length) : Int)), (5, iI (feesR x.b x.day)), (6, iI (pupilsR x.day)), (7, iI (x.b.price.tdiv (2 : Int))), (9, iI ((boundR x 0 60 none).2)), (10, iI x0_10), (109, tint.lst x1_11), (110, iI (x1_11.length : Int)), (111, iI x4_111)], [], []⟩)
noncomputable def n82 : R82 → Exit × St
  | .r0 r0 => (.ret, ⟨mk 153 [(2, .bool r0)], [], []⟩)
noncomputable def v82 : R82 → V
  | .r0 r0 => .bool r0
theorem s82 (x : Look) : Sm 0 (g82 x) (T82 x) (n82)
  | .e => ⟨400, by kernel_rfl⟩
  | .l0 _ => ⟨400, by kernel_rfl⟩
  | .l1 _ _ _ => ⟨400, by kernel_rfl⟩
  | .l2 _ _ _ _ _ _ _ => ⟨400, by kernel_rfl⟩
  | .l3 _ _ _ _ _ _ _ _ => ⟨400, by kernel_rfl⟩
  | .l4 _ _ _ => ⟨400, by kernel_rfl⟩
theorem q82 : ∀ r, bodyQ Try.prog Try.f23 (· = v82 r) (n82 r).1 (n82 r).2
  | .r0 r0 => bq (.bool r0) (by kernel_rfl)
theorem w82 (x : Look) {post : V → Prop} (h : WQ (T82 x) v82 post .e) : PC 23 [lk x] post :=
  PCalls.wq Try.func23 (s82 x) q82 h
theorem keeps_back (d : Array Int) : ∀ j, j < d.size → ∃ i, i < d.size ∧ Lib.keeps d i = true ∧ d[i]! = d[j]!
  | 0, h => ⟨0, h, Lib.keeps_lt_one d 0 (by omega), rfl⟩
  | j + 1, h => by
    by_cases e : d[j + 1]! = d[j]!
    · obtain ⟨i, h1, h2, h3⟩ := keeps_back d j (by omega)
      exact ⟨i, h1, h2, by rw [h3, e]⟩
    · exact ⟨j + 1, h, Lib.keeps_pos (by simpa using e), rfl⟩
theorem mem_compact {l : List Int} {x : Int} : x ∈ Lib.compact l ↔ x ∈ l := by
  simp only [Lib.compact, Lib.compactUpTo, List.mem_map, List.mem_filter, List.mem_range]
  have hg : ∀ i, i < l.length → l.toArray[i]! = l.getD i 0 := fun i hi => by simp [hi, List.getD_eq_getElem?_getD]
  constructor
  · rintro ⟨i, ⟨h1, _⟩, rfl⟩
    rw [hg i h1]; exact getD_mem 0 l i h1
  · intro h
    obtain ⟨j, hj, rfl⟩ := List.getElem_of_mem h
    obtain ⟨i, h1, h2, h3⟩ := keeps_back l.toArray j (by simpa using hj)
    have h1' : i < l.length := by simpa using h1
    exact ⟨i, ⟨h1', h2⟩, by rw [h3, hg j hj]; simp [List.getD_eq_getElem?_getD, hj]⟩
theorem mem_sortZ {l : List Int} {x : Int} : x ∈ sortZ l ↔ x ∈ l := List.mem_mergeSort
theorem compact_le (l : List Int) : (Lib.compact l).length ≤ l.length := by
  unfold Lib.compact Lib.compactUpTo
  rw [List.length_map]
  exact Nat.le_trans (List.length_filter_le _ _) (by simp)
def moreAt (x : Look) (i : Nat) : Int := (x.b.rooms.getD i zRoom).more
def pcand (x : Look) (all : Int) (i : Nat) (p : Int) : List Int := candL (moreAt x i) ⟨(bdX x all i).1, (bdX x all i).2⟩ p
def paidX (x : Look) (all : Int) : Nat → List Int
  | 0 => [0]
  | i + 1 => Lib.compact (sortZ ((paidX x all i).flatMap (pcand x all i)))
theorem more_in {x : Look} (h : OkX x) {i : Nat} (hi : i < x.b.rooms.length) : 0 ≤ moreAt x i ∧ moreAt x i ≤ 20 := (h.ok.b.room _ (getD_mem zRoom x.b.rooms i hi)).1
theorem paid_in {x : Look} (h : OkX x) {all : Int} (ha : 0 ≤ all ∧ all ≤ 60) : ∀ i, i ≤ x.b.rooms.length → (paidX x all i).length ≤ 61 ^ i ∧ ∀ p ∈ paidX x all i, 0 ≤ p ∧ p ≤ 1200 * i
  | 0, _ => by simp [paidX]
  | i + 1, hi => by
    obtain ⟨h1, h2⟩ := paid_in h ha i (by omega)
    have h3 := bdX_in h ha (rm := i) (by omega)
    have hm := more_in h (i := i) (by omega)
    constructor
    · have h4 := flat_le (l := paidX x all i) (f := pcand x all i) (b := 61) fun p _ => candL_len (s := ⟨(bdX x all i).1, (bdX x all i).2⟩) h3
      have h5 := compact_le (sortZ ((paidX x all i).flatMap (pcand x all i)))
      rw [sortZ_len] at h5
      show (Lib.compact _).length ≤ _
      rw [Nat.pow_succ]
      omega
    · intro p hp
      rw [paidX, mem_compact, mem_sortZ] at hp
      simp only [List.mem_flatMap, pcand, candL, List.mem_map, mem_rangeI] at hp
      obtain ⟨q, hq, n, hn, rfl⟩ := hp
      have hq' := h2 q hq
      have q1 : 0 ≤ n * moreAt x i := Int.mul_nonneg (by omega) hm.1
      have q2 := Int.mul_le_mul (show n ≤ 60 by omega) hm.2 hm.1 (by omega : (0 : Int) ≤ 60)
      omega
theorem paid_small {x : Look} (h : OkX x) {all : Int} (ha : 0 ≤ all ∧ all ≤ 60) {i : Nat} (hi : i ≤ x.b.rooms.length) : (paidX x all i).length ≤ 226981 ∧ ∀ p ∈ paidX x all i, 0 ≤ p ∧ p ≤ 3600 := by
  obtain ⟨h1, h3⟩ := paid_in h ha i hi
  have h2 := h.ok.b.nr
  refine ⟨?_, fun p hp => by have := h3 p hp; omega⟩
  rcases show i = 0 ∨ i = 1 ∨ i = 2 ∨ i = 3 by omega with rfl | rfl | rfl | rfl <;> simpa using Nat.le_trans h1 (by decide)
def leftX (x : Look) (all p : Int) : Int := x.day.taken - feesR x.b x.day - p - (all - pupilsR x.day) * x.b.price.tdiv 2
def okP (x : Look) (all p : Int) : Bool :=
  ignX x (entsR x).length || (decide (leftX x all p ≥ 0) && ((leftX x all p).tmod (x.b.price.tdiv 2) == 0 && decide ((leftX x all p).tdiv (x.b.price.tdiv 2) ≤ all - pupilsR x.day)))
def paysX (x : Look) : Bool :=
  (rangeI (max (boundR x 0 60 none).1 (pupilsR x.day)) (boundR x 0 60 none).2).any fun all => (paidX x all x.b.rooms.length).any (okP x all)
def cands (lo more P : Int) (k : Nat) : List Int := (List.range k).map fun (q : Nat) => P + (lo + (q : Int)) * more
theorem cands_succ (lo more P : Int) (k : Nat) : (cands lo more P (k + 1)).reverse = (P + (lo + (k : Int)) * more) :: (cands lo more P k).reverse := by simp [cands, List.range_succ]
theorem cands_all (lo hi more P : Int) : cands lo more P (hi + 1 - lo).toNat = candL more ⟨lo, hi⟩ P := by
  simp [cands, candL, rangeI]
theorem w82_3 (x : Look) (all : Int) (paid : List Int) (i j : Nat) (lo hi : Int) (acc : List Int) (hi3 : i < 3) (hm : 0 ≤ moreAt x i ∧ moreAt x i ≤ 20) (hlo : 0 ≤ lo) (hhi : hi ≤ 60) (hp : 0 ≤ paid.getD j 0 ∧ paid.getD j 0 ≤ 3600) (hN : acc.length ≤ 20000000) (hj : j < 20000000) :
    WP Try.prog ⟨none, 0⟩ (T82 x) (fun y => y = .inl (.l2 all paid i lo hi ((j + 1 : Nat) : Int) ((candL (moreAt x i) ⟨lo, hi⟩ (paid.getD j 0)).reverse ++ acc))) (.l3 all paid i lo hi j lo acc) := by
  have hzr : (x.b.rooms.getD i tRoom.zero).more = moreAt x i := rfl
  have hzi : paid.getD j tint.zero = paid.getD j 0 := rfl
  generalize hP : paid.getD j 0 = P at *
  generalize moreAt x i = more at *
  refine WP.run (fun k => .l3 all paid i lo hi j (lo + (k : Int)) ((cands lo more P k).reverse ++ acc)) (by simp [cands]) (hi + 1 - lo).toNat (fun k hk => ?_) ?_
  · have hle : lo + (k : Int) ≤ hi := by omega
    have hln : ((cands lo more P k).reverse ++ acc).length + 1 ≤ 4294967296 := by simp [cands]; omega
    have hc : ((k + 1 : Nat) : Int) = (k : Int) + 1 := rfl
    rw [cands_succ, hc, List.cons_append, ← Int.add_assoc]
    generalize (cands lo more P k).reverse ++ acc = A at *
    generalize hn : lo + (k : Int) = n at *
    have q1 : 0 ≤ n * more := Int.mul_nonneg (by omega) hm.1
    have q2 := Int.mul_le_mul (show n ≤ 60 by omega) hm.2 hm.1 (by omega : (0 : Int) ≤ 60)
    have r1 : inR .i64 (n * more) = true := inR64 (by omega) (by omega)
    have r2 : inR .i64 (P + n * more) = true := inR64 (by omega) (by omega)
    have r3 : inR .i64 (n + 1) = true := inR64 (by omega) (by omega)
    refine WP.once ?_
    simp only [T82, Tr.sure, SS, hzr, hzi, hle]
    repeat' with_reducible first | intro _ | apply And.intro
    all_goals simp [r1, r2, r3, hln, hzr, hzi, Go, Ends', v82, -List.getD_eq_getElem?_getD, *]
  · have hle : ¬ lo + (((hi + 1 - lo).toNat : Nat) : Int) ≤ hi := by omega
    have hr : inR .i64 ((j : Int) + 1) = true := inR64 (by omega) (by omega)
    rw [cands_all]
    refine WP.step ?_
    simp only [T82, Go, Ends', v82, Tr.sure, SS, hle]
    repeat' with_reducible first | intro _ | apply And.intro
    all_goals first | exact (WP.stop rfl) | (simp [hr, Go, Ends', v82, -List.getD_eq_getElem?_getD, *]; done)
theorem rowI_of (l : List Int) : RowI (rowsOf tint l) l := fun _ _ => rfl
theorem rowI_rev (l : List Int) : RowI (rowsRev tint l) l.reverse := fun r hr => by
  have hr' : r < l.length := by simpa using hr
  have e : ∀ (l : List Int) (r : Nat), r < l.length → rowsRev tint l r 0 = iI (l.reverse.getD r 0) := by
    intro l
    induction l with
    | nil => intro r h; simp at h
    | cons x l ih =>
      intro r h
      simp only [rowsRev, appC]
      by_cases q : r < l.length
      · rw [if_pos q, ih r q, List.reverse_cons, List.getD_eq_getElem?_getD, List.getD_eq_getElem?_getD, List.getElem?_append_left (by simpa using q)]
      · have hq : r = l.length := by simp at h; omega
        subst hq
        simp [tint, List.getD_eq_getElem?_getD]
  exact e l r hr'
theorem c111 (h : List Blk) (q : Nat) (l : List Int) (c c' : Nat → Nat → V) (hi : h[q]? = some (.rows 3 1 l.length c)) (hc : RowI c l) (hc' : RowI c' (sortZ l)) : HCalls Try.prog 42 [.row q l.length] (.tuple []) h (h.set q (.rows 3 1 l.length c')) :=
  HCalls.sort (PCalls.enters Try.func42 (c := Try.f42.body.getD .skip) (by kernel_rfl) (by kernel_rfl)) Try.slices_Sort_int Try.slices_Sort_int_none hi hc hc'
theorem c112 (h : List Blk) (q : Nat) (l : List Int) (c c' : Nat → Nat → V) (hi : h[q]? = some (.rows 3 1 l.length c)) (hc : RowI c l) (hc' : RowI c' (padZ (Lib.compact l) l.length)) : HCalls Try.prog 43 [.row q l.length] (.row q (Lib.compact l).length) h (h.set q (.rows 3 1 l.length c')) :=
  HCalls.compact (PCalls.enters Try.func43 (c := Try.f43.body.getD .skip) (by kernel_rfl) (by kernel_rfl)) Try.slices_Compact_int Try.slices_Compact_int_empty hi hc hc'
theorem c111r (h : List Blk) (q : Nat) (a : List Int) (hi : h[q]? = some (.rows 3 1 a.length (rowsRev tint a))) : HCalls Try.prog 42 [.row q a.length] (.tuple []) h (h.set q (.rows 3 1 a.length (rowsOf tint (sortZ a.reverse)))) := by
  have := c111 h q a.reverse (rowsRev tint a) (rowsOf tint (sortZ a.reverse)) (by rw [List.length_reverse]; exact hi) (rowI_rev a) (rowI_of _)
  rwa [List.length_reverse] at this
theorem c112r (h : List Blk) (q : Nat) (l : List Int) (n : Nat) (hn : n = l.length) (hi : h[q]? = some (.rows 3 1 n (rowsOf tint l))) : HCalls Try.prog 43 [.row q n] (.row q (Lib.compact l).length) h (h.set q (.rows 3 1 n (rowsOf tint (padZ (Lib.compact l) n)))) := by
  subst hn
  exact c112 h q l (rowsOf tint l) _ hi (rowI_of l) (rowI_of _)
theorem VLe.pad (l : List Int) (n : Nat) : VLe (.list 1 l.length (rowsOf tint (padZ l n))) (tint.lst l) :=
  VLe.list fun i j hi _ => by
    simp only [rowsOf, padZ, List.getD_eq_getElem?_getD, List.getElem?_append_left hi]
theorem padZ_len' {l : List Int} {n : Nat} (h : l.length ≤ n) : VLe (.list 1 n (rowsOf tint (padZ l n))) (tint.lst (padZ l n)) := by
  have := padZ_len h
  generalize padZ l n = z at *
  subst this; exact VLe.refl _
set_option maxHeartbeats 4000000 in
theorem w82_2 (x : Look) (all : Int) (paid : List Int) (i : Nat) (lo hi : Int) (hi3 : i < 3) (hm : 0 ≤ moreAt x i ∧ moreAt x i ≤ 20) (hlo : 0 ≤ lo) (hhi : hi ≤ 60) (hp : paid.length ≤ 226981 ∧ ∀ p ∈ paid, 0 ≤ p ∧ p ≤ 3600) :
    WP Try.prog ⟨none, 0⟩ (T82 x) (fun y => y = .inl (.l1 all (Lib.compact (sortZ (paid.flatMap (candL (moreAt x i) ⟨lo, hi⟩)))) ((i + 1 : Nat) : Int))) (.l2 all paid i lo hi 0 []) := by
  refine WP.run (fun j => .l2 all paid i lo hi (j : Int) ((paid.take j).flatMap (candL (moreAt x i) ⟨lo, hi⟩)).reverse) rfl paid.length (fun j hj => ?_) ?_
  · have hj' : (j : Int) < paid.length := by omega
    have hl := flat_le (l := paid.take j) (f := candL (moreAt x i) ⟨lo, hi⟩) (b := 61) fun p _ => candL_len (s := ⟨lo, hi⟩) ⟨hlo, hhi⟩
    rw [List.length_take] at hl
    have k3 := w82_3 x all paid i j lo hi ((paid.take j).flatMap (candL (moreAt x i) ⟨lo, hi⟩)).reverse hi3 hm hlo hhi (hp.2 _ (getD_mem 0 paid j hj)) (by rw [List.length_reverse]; omega) (by omega)
    rw [flat_snoc (candL (moreAt x i) ⟨lo, hi⟩) 0 paid j hj, List.reverse_append]
    refine WP.step ?_
    simp only [T82, Go, Ends', v82, Tr.sure, SS, hj']
    repeat' with_reducible first | intro _ | apply And.intro
    all_goals exact k3
  · rw [List.take_length]
    have hr : inR .i64 ((i : Int) + 1) = true := inR64 (by omega) (by omega)
    have hrr : ((paid.flatMap (candL (moreAt x i) ⟨lo, hi⟩)).reverse).reverse = paid.flatMap (candL (moreAt x i) ⟨lo, hi⟩) := List.reverse_reverse _
    generalize hA : (paid.flatMap (candL (moreAt x i) ⟨lo, hi⟩)).reverse = A at *
    rw [← hrr]
    have hsl := sortZ_len A.reverse
    rw [List.length_reverse] at hsl
    have hcl := compact_le (sortZ A.reverse)
    rw [hsl] at hcl
    have k1 := fun (h : List Blk) (q : Nat) hi => c111r h q A hi
    have k2 := fun (h : List Blk) (q : Nat) hi => c112r h q (sortZ A.reverse) A.length hsl.symm hi
    refine WP.step ?_
    simp only [T82, Go, Ends', v82, Tr.sure, SS, Int.lt_irrefl]
    repeat' with_reducible first | intro _ | apply And.intro
    all_goals first | exact (k1 _ 1 rfl) | exact (k2 _ 1 rfl) | exact (WP.stop rfl) | exact (VLe.pad _ _) | exact (padZ_len' hcl) | (simp [hr, hcl, Go, Ends', v82, -List.getD_eq_getElem?_getD, *]; done) | (simp_all [hr, hcl, Go, Ends', v82, -List.getD_eq_getElem?_getD]; done)
theorem vint {k : IntKind} {a b : Int} (h : a = b) : VLe (.int k a) (.int k b) := by subst h; exact VLe.refl _
set_option maxHeartbeats 4000000 in
theorem w82_1 (x : Look) (h : OkX x) (all : Int) (ha : 0 ≤ all ∧ all ≤ 60) :
    WP Try.prog ⟨none, 0⟩ (T82 x) (fun y => y = .inl (.l4 all (paidX x all x.b.rooms.length) 0)) (.l1 all [0] 0) := by
  have hnr := h.ok.b.nr
  refine WP.run (fun i => .l1 all (paidX x all i) (i : Int)) rfl x.b.rooms.length (fun i hi => ?_) ?_
  · have hi' : (i : Int) < x.b.rooms.length := by omega
    have hb := bdX_in h ha hi
    have k2 := w82_2 x all (paidX x all i) i (bdX x all i).1 (bdX x all i).2 (by omega) (more_in h hi) hb.1 hb.2 (paid_small h ha (by omega))
    have hel := entsR_len x
    obtain rfl | rfl | rfl : i = 0 ∨ i = 1 ∨ i = 2 := by omega
    · have k105 := c105 x ((0 : Int) + 1) (min all (x.b.rooms.getD 0 zRoom).full) (some ((0 : Nat) : Int)) h (by omega) (fun j hj => by cases hj; omega)
      have hc : (0 : Int) < x.b.rooms.length := by omega
      have he : (0 : Int) + 1 < (entsR x).length := by omega
      refine WP.step ?_
      simp only [T82, Go, Ends', v82, Tr.sure, SS, hi']
      repeat' with_reducible first | intro _ | apply And.intro
      all_goals first | exact k105 | exact k2 | exact (vint rfl) | exact rfl | (simp [hc, he, Go, Ends', v82, -List.getD_eq_getElem?_getD, *]; done) | (simp_all [hc, he, Go, Ends', v82, -List.getD_eq_getElem?_getD]; done)
    · have k105 := c105 x ((1 : Int) + 1) (min all (x.b.rooms.getD 1 zRoom).full) (some ((1 : Nat) : Int)) h (by omega) (fun j hj => by cases hj; omega)
      have hc : (1 : Int) < x.b.rooms.length := by omega
      have he : (1 : Int) + 1 < (entsR x).length := by omega
      refine WP.step ?_
      simp only [T82, Go, Ends', v82, Tr.sure, SS, hi']
      repeat' with_reducible first | intro _ | apply And.intro
      all_goals first | exact k105 | exact k2 | exact (vint rfl) | exact rfl | (simp [hc, he, Go, Ends', v82, -List.getD_eq_getElem?_getD, *]; done) | (simp_all [hc, he, Go, Ends', v82, -List.getD_eq_getElem?_getD]; done)
    · have k105 := c105 x ((2 : Int) + 1) (min all (x.b.rooms.getD 2 zRoom).full) (some ((2 : Nat) : Int)) h (by omega) (fun j hj => by cases hj; omega)
      have hc : (2 : Int) < x.b.rooms.length := by omega
      have he : (2 : Int) + 1 < (entsR x).length := by omega
      refine WP.step ?_
      simp only [T82, Go, Ends', v82, Tr.sure, SS, hi']
      repeat' with_reducible first | intro _ | apply And.intro
      all_goals first | exact k105 | exact k2 | exact (vint rfl) | exact rfl | (simp [hc, he, Go, Ends', v82, -List.getD_eq_getElem?_getD, *]; done) | (simp_all [hc, he, Go, Ends', v82, -List.getD_eq_getElem?_getD]; done)
  · refine WP.step ?_
    simp only [T82, Go, Ends', v82, Tr.sure, SS, Int.lt_irrefl]
    repeat' with_reducible first | intro _ | apply And.intro
    all_goals exact (WP.stop rfl)
theorem okP_def (x : Look) (all p : Int) : okP x all p = (ignX x (entsR x).length || (decide (leftX x all p ≥ 0) && ((leftX x all p).tmod (x.b.price.tdiv 2) == 0 && decide ((leftX x all p).tdiv (x.b.price.tdiv 2) ≤ all - pupilsR x.day)))) := rfl
theorem feesX_in {x : Look} (h : OkLook x) : 0 ≤ feesR x.b x.day ∧ feesR x.b x.day ≤ 5400 := by
  have := fees_in h.b h.day.school _ (Nat.le_refl _)
  have := h.day.ns
  unfold feesR; omega
theorem pupX_in {x : Look} (h : OkLook x) : 0 ≤ pupilsR x.day ∧ pupilsR x.day ≤ 60 := by
  have := sum_in h.day.school _ (Nat.le_refl _)
  exact ⟨this.1, h.day.all⟩
set_option maxHeartbeats 4000000 in
theorem w82_4 (x : Look) (h : OkX x) (all : Int) (ha : pupilsR x.day ≤ all ∧ all ≤ 60) (paid : List Int) (hp : paid.length ≤ 226981 ∧ ∀ p ∈ paid, 0 ≤ p ∧ p ≤ 3600) :
    WP Try.prog ⟨none, 0⟩ (T82 x) (fun y => (paid.any (okP x all) = true ∧ y = .inr (.r0 true)) ∨ (paid.any (okP x all) = false ∧ y = .inl (.l0 (all + 1)))) (.l4 all paid 0) := by
  have hnr := h.ok.b.nr
  have hel := entsR_len x
  have k113 := c113 x ((entsR x).length : Int) h.off (by omega)
  have hfe := feesX_in h.ok
  have hpu := pupX_in h.ok
  have hta := h.ok.day.taken
  have hha := half_in h.ok.b
  have q0 : inR .i64 (x.day.taken - feesR x.b x.day) = true := inR64 (by omega) (by omega)
  have q1 : inR .i64 (all - pupilsR x.day) = true := inR64 (by omega) (by omega)
  have m1 : 0 ≤ (all - pupilsR x.day) * x.b.price.tdiv 2 := Int.mul_nonneg (by omega) (by omega)
  have m2 : (all - pupilsR x.day) * x.b.price.tdiv 2 ≤ 60 * 30 := Int.mul_le_mul (by omega) hha.2.1 (by omega) (by omega)
  have q2 : inR .i64 ((all - pupilsR x.day) * x.b.price.tdiv 2) = true := inR64 (by omega) (by omega)
  have q9 : inR .i64 (all + 1) = true := inR64 (by omega) (by omega)
  have hh0 : ¬ x.b.price.tdiv 2 = 0 := by omega
  refine WP.findI (fun i => .l4 all paid (i : Int)) rfl paid 0 (okP x all) (fun i hi => ?_) (fun hf => ?_)
  · have hi' : (i : Int) < paid.length := by omega
    have hpi := hp.2 _ (getD_mem 0 paid i hi)
    have hd := okP_def x all (paid.getD i 0)
    have hl : x.day.taken - feesR x.b x.day - paid.getD i 0 - (all - pupilsR x.day) * x.b.price.tdiv 2 = leftX x all (paid.getD i 0) := rfl
    have q3 : inR .i64 (x.day.taken - feesR x.b x.day - paid.getD i 0) = true := inR64 (by omega) (by omega)
    have q4 : inR .i64 (leftX x all (paid.getD i 0)) = true := by rw [← hl]; exact inR64 (by omega) (by omega)
    have q5 : 0 ≤ leftX x all (paid.getD i 0) → inR .i64 ((leftX x all (paid.getD i 0)).tdiv (x.b.price.tdiv 2)) = true := fun h0 => by
      have h1 : leftX x all (paid.getD i 0) ≤ 20000 := by rw [← hl]; omega
      rw [Int.tdiv_eq_ediv_of_nonneg h0]
      have h2 := Int.ediv_le_self (x.b.price.tdiv 2) h0
      have h3 := Int.ediv_nonneg h0 (show 0 ≤ x.b.price.tdiv 2 by omega)
      exact inR64 (by omega) (by omega)
    have q6 : inR .i64 ((i : Int) + 1) = true := inR64 (by omega) (by omega)
    have hgo : okP x all (paid.getD i 0) = true → firstI (okP x all) 0 paid = some i → paid.any (okP x all) = true := fun _ q => any_of_firstI q
    have hgt : tint.zero = 0 := rfl
    generalize okP x all (paid.getD i 0) = B at *
    generalize hL : leftX x all (paid.getD i 0) = L at *
    generalize hP : paid.getD i 0 = P at *
    generalize hF : firstI (okP x all) 0 paid = F at *
    generalize hY : paid.any (okP x all) = Y at *
    by_cases b0 : ignX x (entsR x).length = true
    · have hB : B = true := by rw [hd, b0]; rfl
      refine WP.once ?_
      simp only [T82, Tr.sure, SS, hi', hP, hl, hgt, b0]
      repeat' with_reducible first | intro _ | apply And.intro
      all_goals first | exact (.inr ⟨hB, fun q => .inl ⟨hgo hB q, rfl⟩⟩) | (simp [q0, q1, q2, q3, q4, q6, hP, hl, hgt, b0, Go, Ends', v82, -List.getD_eq_getElem?_getD, *]; done) | (simp_all [q0, q1, q2, q3, q4, q6, hP, hl, hgt, b0, Go, Ends', v82, -List.getD_eq_getElem?_getD]; done)
    · have b0' := Bool.eq_false_iff.2 b0
      by_cases b1 : 0 ≤ L
      · have q5' := q5 b1
        by_cases b2 : L.tmod (x.b.price.tdiv 2) = 0
        · by_cases b3 : L.tdiv (x.b.price.tdiv 2) ≤ all - pupilsR x.day
          · have hB : B = true := by rw [hd, b0', decide_eq_true b1, decide_eq_true b3, b2]; rfl
            refine WP.once ?_
            simp only [T82, Tr.sure, SS, hi', hP, hl, hgt, b0', b1, b2, b3, hh0]
            repeat' with_reducible first | intro _ | apply And.intro
            all_goals first | exact (.inr ⟨hB, fun q => .inl ⟨hgo hB q, rfl⟩⟩) | (simp [q0, q1, q2, q3, q4, q5', q6, hP, hl, hgt, b0', hh0, Go, Ends', v82, -List.getD_eq_getElem?_getD, *]; done) | (simp_all [q0, q1, q2, q3, q4, q5', q6, hP, hl, hgt, b0', hh0, Go, Ends', v82, -List.getD_eq_getElem?_getD]; done)
          · have hB : B = false := by rw [hd, b0', decide_eq_false b3]; simp
            refine WP.once ?_
            simp only [T82, Tr.sure, SS, hi', hP, hl, hgt, b0', b1, b2, b3, hh0]
            repeat' with_reducible first | intro _ | apply And.intro
            all_goals first | exact (.inl ⟨hB, rfl⟩) | (simp [q0, q1, q2, q3, q4, q5', q6, hP, hl, hgt, b0', hh0, Go, Ends', v82, -List.getD_eq_getElem?_getD, *]; done) | (simp_all [q0, q1, q2, q3, q4, q5', q6, hP, hl, hgt, b0', hh0, Go, Ends', v82, -List.getD_eq_getElem?_getD]; done)
        · have hB : B = false := by rw [hd, b0', beq_eq_false_iff_ne.2 b2]; simp
          refine WP.once ?_
          simp only [T82, Tr.sure, SS, hi', hP, hl, hgt, b0', b1, b2, hh0]
          repeat' with_reducible first | intro _ | apply And.intro
          all_goals first | exact (.inl ⟨hB, rfl⟩) | (simp [q0, q1, q2, q3, q4, q5', q6, hP, hl, hgt, b0', hh0, Go, Ends', v82, -List.getD_eq_getElem?_getD, *]; done) | (simp_all [q0, q1, q2, q3, q4, q5', q6, hP, hl, hgt, b0', hh0, Go, Ends', v82, -List.getD_eq_getElem?_getD]; done)
      · have hB : B = false := by rw [hd, b0', decide_eq_false (show ¬ L ≥ 0 from b1)]; simp
        refine WP.once ?_
        simp only [T82, Tr.sure, SS, hi', hP, hl, hgt, b0', b1, hh0]
        repeat' with_reducible first | intro _ | apply And.intro
        all_goals first | exact (.inl ⟨hB, rfl⟩) | (simp [q0, q1, q2, q3, q4, q6, hP, hl, hgt, b0', hh0, Go, Ends', v82, -List.getD_eq_getElem?_getD, *]; done) | (simp_all [q0, q1, q2, q3, q4, q6, hP, hl, hgt, b0', hh0, Go, Ends', v82, -List.getD_eq_getElem?_getD]; done)
  · have hany := any_of_none hf
    refine WP.step ?_
    simp only [T82, Go, Ends', v82, Tr.sure, SS, Int.lt_irrefl]
    repeat' with_reducible first | intro _ | apply And.intro
    all_goals first | exact (WP.stop (.inr ⟨hany, rfl⟩)) | (simp [q9, Go, Ends', v82, -List.getD_eq_getElem?_getD, *]; done)
theorem boundX_in {x : Look} (h : OkX x) : 0 ≤ (boundR x 0 60 none).1 ∧ (boundR x 0 60 none).2 ≤ 60 := by
  have hday := h.ok.day
  have h1 := hday.door
  have hm := h.missed
  unfold boundR
  split
  · exact ⟨Int.le_refl _, Int.le_refl _⟩
  · simp only [cntX]; omega
theorem tel_zero1 {r j : Nat} (hr : r < 1) (hj : j < 1) : VLe (litC 1 1 [iI 0] r j) (rowsOf tint [0] r j) := by
  obtain rfl : r = 0 := by omega
  obtain rfl : j = 0 := by omega
  exact VLe.refl _
theorem c82 (x : Look) (h : OkX x) : PC 23 [lk x] (· = .bool (paysX x)) := by
  have hnr := h.ok.b.nr
  have hel := entsR_len x
  have k83 := c83v x hnr
  have k64 := c64 x h.ok
  have k105 := c105 x 0 60 none h (by omega) (fun i hi => by cases hi)
  have hpu := pupX_in h.ok
  have hbx := boundX_in h
  have hha := half_in h.ok.b
  have q0 : inR .i64 (x.b.price.tdiv 2) = true := inR64 (by omega) (by omega)
  have hc : (0 : Int) < (entsR x).length := by omega
  have hmain : WP Try.prog ⟨none, 0⟩ (T82 x) (Ends' fun r => v82 r = .bool (paysX x)) (.l0 (max (boundR x 0 60 none).1 (pupilsR x.day))) := by
    generalize hlo : max (boundR x 0 60 none).1 (pupilsR x.day) = lo at *
    generalize hhi : (boundR x 0 60 none).2 = hi at *
    have hp : paysX x = (rangeI lo hi).any fun all => (paidX x all x.b.rooms.length).any (okP x all) := by unfold paysX; rw [hlo, hhi]
    have hlo1 : pupilsR x.day ≤ lo := by omega
    refine WP.findI (fun i => .l0 (lo + (i : Int))) (by simp) (rangeI lo hi) 0 (fun all => (paidX x all x.b.rooms.length).any (okP x all)) (fun i hi' => ?_) (fun hf => ?_)
    · have hg := rangeI_get hi'
      rw [hg]
      rw [rangeI_len] at hi'
      have hle : lo + (i : Int) ≤ hi := by omega
      have hc1 : ((i + 1 : Nat) : Int) = (i : Int) + 1 := rfl
      rw [hc1, ← Int.add_assoc]
      generalize hall : lo + (i : Int) = all at *
      have ha : 0 ≤ all ∧ all ≤ 60 := by omega
      have k1 := w82_1 x h all ha
      have k4 := w82_4 x h all (by omega) (paidX x all x.b.rooms.length) (paid_small h ha (Nat.le_refl _))
      have k5 := WP.bind k1 (ψ := fun y => ((paidX x all x.b.rooms.length).any (okP x all) = true ∧ y = .inr (.r0 true)) ∨ ((paidX x all x.b.rooms.length).any (okP x all) = false ∧ y = .inl (.l0 (all + 1)))) (fun y hy => by subst hy; exact k4)
      have hfin : ∀ y : P82 ⊕ R82, ((paidX x all x.b.rooms.length).any (okP x all) = true ∧ y = .inr (.r0 true)) ∨ ((paidX x all x.b.rooms.length).any (okP x all) = false ∧ y = .inl (.l0 (all + 1))) →
          (((paidX x all x.b.rooms.length).any (okP x all) = false ∧ y = .inl (.l0 (all + 1))) ∨ ((paidX x all x.b.rooms.length).any (okP x all) = true ∧ (firstI (fun all => (paidX x all x.b.rooms.length).any (okP x all)) 0 (rangeI lo hi) = some i → Go Try.prog ⟨none, 0⟩ (T82 x) (Ends' fun r => v82 r = .bool (paysX x)) y))) := fun y hy => by
        rcases hy with ⟨h1, rfl⟩ | ⟨h1, rfl⟩
        · refine .inr ⟨h1, fun q => ?_⟩
          have := any_of_firstI q
          rw [← hp] at this
          show V.bool true = .bool (paysX x)
          rw [this]
        · exact .inl ⟨h1, rfl⟩
      refine WP.step ?_
      simp only [T82, Go, Ends', v82, Tr.sure, SS, hle, hhi]
      repeat' with_reducible first | intro _ | apply And.intro
      all_goals first | exact (k5.mono hfin) | exact (VLe.refl _) | exact (tel_zero1 ‹_› ‹_›) | (simp [Go, Ends', v82, -List.getD_eq_getElem?_getD, *]; done)
    · have hany := any_of_none hf
      rw [← hp] at hany
      rw [hany, rangeI_len]
      have hle : ¬ lo + (((hi + 1 - lo).toNat : Nat) : Int) ≤ hi := by omega
      refine WP.step ?_
      simp only [T82, Go, Ends', v82, Tr.sure, SS, hle, hhi]
      repeat' with_reducible first | intro _ | apply And.intro
  refine w82 x (WP.step ?_)
  simp only [T82, Go, Ends', v82, Tr.sure, SS, hc]
  repeat' with_reducible first | intro _ | apply And.intro
  all_goals first | exact k83 | exact k64 | exact k105 | exact hmain | (simp [q0, hc, Go, Ends', v82, -List.getD_eq_getElem?_getD, *]; done)
end
noncomputable section
inductive P63h
  | e
inductive R63h
  | r0 (r0 : Int) (r1 : List Room) (r2 : List Day) (r3 : List School) (r4 : Int) (r5 : Int) (r6 : List Count) (r7 : Int) (r8 : Int) (r9 : Int) (r10 : Int)
noncomputable def T63h (b : Book) (d : Int) : P63h → Tr P63h R63h
  | .e => let c1 := b.days.getD (d).toNat tDay.zero; let c2 := (b.days.length : Int) - (1 : Int); let c3 := bookCheck b; (.call 13 [.agg (cC b)] (.tuple [iI (c3.1), iI (c3.2.1), iI (c3.2.2)]) true true (.br (c3.2.2 != (0 : Int)) (.wait 1 .never) (.need (inR .i64 c2) (.call 14 [iI 0, iI c2, .list 1 1 (litC 1 1 [iI d])] (.bool (!within d 0 c2)) ((decide (1 ≤ 1)) && true) true (.br (!within d 0 c2) (.wait 1 .never) (.front [] [] (((decide (0 ≤ d) && decide (d < (b.days.length : Int))) && true) && true) true (.out (.r0 b.price b.rooms b.days (c1.schools) (c1.door.seen) (c1.door.miss) (c1.rooms) (c1.taken) 0 0 0))))))))
noncomputable def g63h (b : Book) (d : Int) : P63h → List Item × St
  | .e => bd Try.f16 [.agg (cC b), iI d] 33
noncomputable def n63h : R63h → Exit × St
  | .r0 r0 r1 r2 r3 r4 r5 r6 r7 r8 r9 r10 => (.ret, ⟨mk 35 [(4, .ref 2 0 0), (5, iI r10)], [.gone, .gone, .cells [iI r0, tRoom.lst r1, tDay.lst r2, tSchool.lst r3, iI r4, iI r5, tCount.lst r6, iI r7, iI r8, iI r9]], []⟩)
theorem s63h (b : Book) (d : Int) : Sm 0 (g63h b d) (T63h b d) (n63h)
  | .e => ⟨400, by kernel_rfl⟩
noncomputable def hh63h : R63h → List Blk
  | .r0 r0 r1 r2 r3 r4 r5 r6 r7 r8 r9 r10 => [.gone, .gone, .cells [iI r0, tRoom.lst r1, tDay.lst r2, tSchool.lst r3, iI r4, iI r5, tCount.lst r6, iI r7, iI r8, iI r9]]
noncomputable def v63h : R63h → V
  | .r0 r0 r1 r2 r3 r4 r5 r6 r7 r8 r9 r10 => .tuple [.ref 2 0 0, iI r10]
theorem q63h : ∀ r, ((n63h r).1 = .normal ∨ (n63h r).1 = .ret) ∧ (n63h r).2.d = [] ∧ (n63h r).2.h = hh63h r ∧ resultV Try.prog Try.f16 (n63h r).2 = some (v63h r)
  | .r0 r0 r1 r2 r3 r4 r5 r6 r7 r8 r9 r10 => ⟨.inr rfl, rfl, rfl, by kernel_rfl⟩
theorem w63h (b : Book) (d : Int) {V0 : V} {h' : List Blk} (h : WP Try.prog ⟨none, 0⟩ (T63h b d) (Ends' fun r => v63h r = V0 ∧ hh63h r = h') .e) : HCalls Try.prog 16 [.agg (cC b), iI d] V0 [] h' :=
  HCalls.wp mx Try.func16 (by kernel_rfl) (by kernel_rfl) (T63h b d) (g63h b d) (n63h) .e rfl (s63h b d) h fun r hr => by rw [← hr.1, ← hr.2]; exact q63h r
theorem c63h (b : Book) (d : Int) (ha : askedR b d = 0) : HCalls Try.prog 16 [.agg (tBook.cells b), iI d] (.tuple [.ref 2 0 0, iI 0]) [] [.gone, .gone, .cells (tLook.cells (lookOf b d))] := by
  obtain ⟨h, hd1, hd2, hday⟩ := asked_ok ha
  have hs := SmB.of_ok h
  have k13 := c13 b ⟨hs.rooms, hs.days, hs.each⟩
  have k53 := c53l 0 ((b.days.length : Int) - 1) d (c := litC 1 1 [iI d]) rfl
  have hm : maxn = 281474976710656 := rfl
  have hdl := hs.days
  have r1 : inR .i64 ((b.days.length : Int) - 1) = true := inR64 (by omega) (by omega)
  have h1 : (bookCheck b).2.2 = 0 := by
    by_cases q : (bookCheck b).2.2 = 0
    · exact q
    · unfold askedR at ha; rw [if_pos q] at ha; exact absurd ha q
  have h2 : within d 0 ((b.days.length : Int) - 1) = true := within_iff.2 (by omega)
  rw [h1] at k13
  rw [h2] at k53
  have hl : tLook.cells (lookOf b d) = [iI b.price, tRoom.lst b.rooms, tDay.lst b.days, tSchool.lst (b.days.getD d.toNat zDay).schools, iI (b.days.getD d.toNat zDay).door.seen, iI (b.days.getD d.toNat zDay).door.miss, tCount.lst (b.days.getD d.toNat zDay).rooms, iI (b.days.getD d.toNat zDay).taken, iI 0, iI 0] := rfl
  refine w63h b d (WP.step ?_)
  simp only [T63h, Go, Ends', v63h, Tr.sure, SS, h1, h2, z8]
  repeat' with_reducible first | intro _ | apply And.intro
  all_goals first | exact k13 | exact k53 | (simp [r1, hd1, hd2, hl, hh63h, Go, Ends', v63h, -List.getD_eq_getElem?_getD, *]; done)
def lookM (b : Book) (d off m : Int) : Look := { lookOf b d with off := off, missed := m }
inductive P31_o
  | e
  | l0 (c0_3_9 : Int)
inductive R31_o
  | r0 (r0 : Int) (r1 : Int)
noncomputable def T31_o (b : Book) (d : Int) : P31_o → Tr P31_o R31_o
  | .e => let c1 := lookOf b d; (.hcall 16 [.agg (cC b), iI d] (.tuple [.ref 3 0 0, iI 0]) [.cells (cC b)] [.cells (cC b), .gone, .gone, .cells [iI (c1.b.price), tRoom.lst (c1.b.rooms), tDay.lst (c1.b.days), tSchool.lst (c1.day.schools), iI (c1.day.door.seen), iI (c1.day.door.miss), tCount.lst (c1.day.rooms), iI (c1.day.taken), iI (c1.off), iI (c1.missed)]] true (.br ((0 : Int) != (0 : Int)) (.out (.r0 0 0)) (.go (.l0 0))))
  | .l0 c0_3_9 => let c1 := lookOf b d; let c2 := paysX (lookM b d (c1.off) c0_3_9); (.br (decide (c0_3_9 ≤ (60 : Int))) (.call 23 [.cref 10 fun q => ([iI (c1.b.price), tRoom.lst (c1.b.rooms), tDay.lst (c1.b.days), tSchool.lst (c1.day.schools), iI (c1.day.door.seen), iI (c1.day.door.miss), tCount.lst (c1.day.rooms), iI (c1.day.taken), iI (c1.off), iI c0_3_9] : List V).getD q uU] (.bool c2) true true (.br c2 (.out (.r0 c0_3_9 0)) (.need (inR .i64 (c0_3_9 + (1 : Int))) (.go (.l0 (c0_3_9 + (1 : Int))))))) (.out (.r0 0 9)))
noncomputable def g31_o (b : Book) (d : Int) : P31_o → List Item × St
  | .e => bd Try.f9 [.agg (cC b), iI d] 36
  | .l0 c0_3_9 => (cutOf Try.f9 0, ⟨mk 38 [(6, .ref 3 0 0)], [.gone, .gone, .gone, .cells [iI ((lookOf b d).b.price), tRoom.lst ((lookOf b d).b.rooms), tDay.lst ((lookOf b d).b.days), tSchool.lst ((lookOf b d).day.schools), iI ((lookOf b d).day.door.seen), iI ((lookOf b d).day.door.miss), tCount.lst ((lookOf b d).day.rooms), iI ((lookOf b d).day.taken), iI ((lookOf b d).off), iI c0_3_9]], []⟩)
noncomputable def n31_o : R31_o → Exit × St
  | .r0 r0 r1 => (.ret, ⟨mk 38 [(4, iI r0), (5, iI r1)], [], []⟩)
noncomputable def v31_o : R31_o → V
  | .r0 r0 r1 => .tuple [iI r0, iI r1]
theorem s31_o (b : Book) (d : Int) : Sm 0 (g31_o b d) (T31_o b d) (n31_o)
  | .e => ⟨400, by kernel_rfl⟩
  | .l0 _ => ⟨400, by kernel_rfl⟩
theorem q31_o : ∀ r, bodyQ Try.prog Try.f9 (· = v31_o r) (n31_o r).1 (n31_o r).2
  | .r0 r0 r1 => bq (.tuple [iI r0, iI r1]) (by kernel_rfl)
theorem w31_o (b : Book) (d : Int) {post : V → Prop} (h : WQ (T31_o b d) v31_o post .e) : PC 9 [.agg (cC b), iI d] post :=
  PCalls.wq Try.func9 (s31_o b d) q31_o h
inductive P31_e
  | e
inductive R31_e
  | r0 (r0 : Int) (r1 : Int)
noncomputable def T31_e (b : Book) (d : Int) : P31_e → Tr P31_e R31_e
  | .e => (.call 16 [.agg (cC b), iI d] (.tuple [.nil, iI (askedR b d)]) true true (.br ((askedR b d) != (0 : Int)) (.out (.r0 0 (askedR b d))) (.wait 3 .never)))
noncomputable def g31_e (b : Book) (d : Int) : P31_e → List Item × St
  | .e => bd Try.f9 [.agg (cC b), iI d] 36
noncomputable def n31_e : R31_e → Exit × St
  | .r0 r0 r1 => (.ret, ⟨mk 38 [(4, iI r0), (5, iI r1)], [], []⟩)
noncomputable def v31_e : R31_e → V
  | .r0 r0 r1 => .tuple [iI r0, iI r1]
theorem s31_e (b : Book) (d : Int) : Sm 0 (g31_e b d) (T31_e b d) (n31_e)
  | .e => ⟨400, by kernel_rfl⟩
theorem q31_e : ∀ r, bodyQ Try.prog Try.f9 (· = v31_e r) (n31_e r).1 (n31_e r).2
  | .r0 r0 r1 => bq (.tuple [iI r0, iI r1]) (by kernel_rfl)
theorem w31_e (b : Book) (d : Int) {post : V → Prop} (h : WQ (T31_e b d) v31_e post .e) : PC 9 [.agg (cC b), iI d] post :=
  PCalls.wq Try.func9 (s31_e b d) q31_e h
structure Same (B : Book) (d : Int) (x : Look) (l : List Int) : Prop where
  price : B.price = x.b.price
  rooms : B.rooms = x.b.rooms
  schools : (dayOf B d).schools = x.day.schools
  taken : (dayOf B d).taken = x.day.taken
  seen : (dayOf B d).door.seen = x.day.door.seen
  miss : (dayOf B d).door.miss = x.day.door.miss + x.missed
  rseen : ∀ i, i < x.b.rooms.length → ((dayOf B d).rooms.getD i zCount).seen = (x.day.rooms.getD i zCount).seen
  rmiss : ∀ i, i < x.b.rooms.length → ((dayOf B d).rooms.getD i zCount).miss = (x.day.rooms.getD i zCount).miss + x.missed
  off0 : hasN l (-1) = ignX x 0
  offr : ∀ i, i < x.b.rooms.length → hasN l (i : Int) = ignX x ((i : Int) + 1)
  off3 : hasN l 3 = ignX x (entsR x).length
theorem feesTo_congr {b b' : Book} (h : b.price = b'.price) (l : List School) : ∀ i, feesTo b l i = feesTo b' l i := by
  intro i
  unfold feesTo
  have e : feeR b = feeR b' := by funext n; unfold feeR; rw [h]
  rw [e]
theorem same_bound {B : Book} {d : Int} {x : Look} {l : List Int} (h : Same B d x l) : doorO B d l = ⟨(boundR x 0 60 none).1, (boundR x 0 60 none).2⟩ := by
  unfold doorO between boundR
  rw [h.off0]
  cases ignX x 0
  · rw [if_neg (by decide), if_neg (by decide)]
    simp only [cntX]
    rw [h.seen, h.miss]
    congr 2; omega
  · rw [if_pos rfl, if_pos rfl]
theorem same_span {B : Book} {d : Int} {x : Look} {l : List Int} (h : Same B d x l) (all : Int) {i : Nat} (hi : i < x.b.rooms.length) : spanAt B (dayOf B d) all l i = ⟨(bdX x all i).1, (bdX x all i).2⟩ := by
  unfold spanAt between bdX boundR
  rw [h.offr i hi, h.rooms]
  cases ignX x ((i : Int) + 1)
  · rw [if_neg (by decide), if_neg (by decide)]
    simp only [cntX, Int.toNat_natCast]
    rw [h.rseen i hi, h.rmiss i hi]
    congr 2; omega
  · rw [if_pos rfl, if_pos rfl]
theorem same_paid {B : Book} {d : Int} {x : Look} {l : List Int} (h : Same B d x l) (all : Int) : ∀ i, i ≤ x.b.rooms.length → ∀ p, p ∈ extN B (dayOf B d) all l i ↔ p ∈ paidX x all i
  | 0, _, p => by simp [extN, paidX]
  | i + 1, hi, p => by
    have ih := same_paid h all i (by omega)
    rw [extN, paidX, mem_addAll, mem_compact, mem_sortZ]
    simp only [List.mem_flatMap, List.not_mem_nil, false_or]
    have hm : (B.rooms.getD i zRoom).more = moreAt x i := by rw [h.rooms]; rfl
    constructor
    · rintro ⟨q, hq, hp⟩
      refine ⟨q, (ih q).1 hq, ?_⟩
      unfold pcand
      rw [← same_span h all (by omega), ← hm]; exact hp
    · rintro ⟨q, hq, hp⟩
      refine ⟨q, (ih q).2 hq, ?_⟩
      unfold pcand at hp
      rw [← same_span h all (by omega), ← hm] at hp; exact hp
theorem same_pay {B : Book} {d : Int} {x : Look} {l : List Int} (h : Same B d x l) (all p : Int) : okP x all p = (hasN l 3 || payOk B d all p) := by
  have h1 : feesD B d = feesR x.b x.day := by unfold feesD feesR; rw [h.schools, feesTo_congr h.price]
  have h2 : pupilsD B d = pupilsR x.day := by unfold pupilsD pupilsR; rw [h.schools]
  have h3 : (dayOf B d).taken - feesD B d - p - B.price.tdiv 2 * (all - pupilsD B d) = leftX x all p := by
    unfold leftX; rw [h1, h2, h.taken, h.price, Int.mul_comm]
  rw [okP_def, ← h.off3]
  unfold payOk
  rw [h3, h2, h.price]
  rfl
theorem any_mem {l m : List Int} {p : Int → Bool} (h : ∀ x, x ∈ l ↔ x ∈ m) : l.any p = m.any p := by
  rw [Bool.eq_iff_iff, List.any_eq_true, List.any_eq_true]
  constructor
  · rintro ⟨x, hx, hp⟩; exact ⟨x, (h x).1 hx, hp⟩
  · rintro ⟨x, hx, hp⟩; exact ⟨x, (h x).2 hx, hp⟩
theorem same_expl {B : Book} {d : Int} {x : Look} {l : List Int} (h : Same B d x l) (all : Int) : explAt B d l all = (paidX x all x.b.rooms.length).any (okP x all) := by
  have hm := same_paid h all x.b.rooms.length (Nat.le_refl _)
  rw [← any_mem hm]
  have hE : extrasR B d all l = extN B (dayOf B d) all l x.b.rooms.length := by unfold extrasR; rw [h.rooms]
  unfold explAt
  rw [hE]
  generalize extN B (dayOf B d) all l x.b.rooms.length = E at *
  have he : okP x all = fun p => (hasN l 3 || payOk B d all p) := funext fun p => same_pay h all p
  rw [he]
  cases E with
  | nil => rfl
  | cons q E =>
    cases hasN l 3
    · simp
    · simp
theorem same_explains {B : Book} {d : Int} {x : Look} {l : List Int} (h : Same B d x l) : explainsR B d l = paysX x := by
  have h2 : pupilsD B d = pupilsR x.day := by unfold pupilsD pupilsR; rw [h.schools]
  have he : explAt B d l = fun all => (paidX x all x.b.rooms.length).any (okP x all) := funext fun all => same_expl h all
  unfold explainsR firstO paysX
  rw [same_bound h, he, h2]
theorem day_miss {b : Book} {d : Int} (hd : 0 ≤ d ∧ d < b.days.length) (m : Int) : dayOf (missingR b d m) d = missD m (dayOf b d) := by
  have hlt : d.toNat < b.days.length := by omega
  unfold dayOf missingR
  simp only [List.getD_eq_getElem?_getD, List.getElem?_set_self hlt, Option.getD_some]
  rfl
theorem same_miss {b : Book} {d : Int} (h : OkBook b) (hd : 0 ≤ d ∧ d < b.days.length) (hday : OkDay b (dayOf b d)) (m : Int) : Same (missingR b d m) d (lookM b d 0 m) [] := by
  have e := day_miss hd m
  have hg : ∀ i, i < b.rooms.length → (missD m (dayOf b d)).rooms.getD i zCount = missC m ((dayOf b d).rooms.getD i zCount) := fun i hi => by
    have hi' : i < (dayOf b d).rooms.length := by rw [hday.many]; exact hi
    unfold missD
    simp [List.getD_eq_getElem?_getD, List.getElem?_map, List.getElem?_eq_getElem hi']
  have hno : ∀ n, ignX (lookM b d 0 m) n = false := fun n => by unfold ignX lookM; simp
  refine ⟨rfl, rfl, ?_, ?_, ?_, ?_, fun i hi => ?_, fun i hi => ?_, ?_, fun i hi => ?_, ?_⟩
  · rw [e]; rfl
  · rw [e]; rfl
  · rw [e]; rfl
  · rw [e]; rfl
  · rw [e, hg i hi]; rfl
  · rw [e, hg i hi]; rfl
  · rw [hno]; rfl
  · rw [hno]; rfl
  · rw [hno]; rfl
theorem okX_lookM {b : Book} {d : Int} (h : askedR b d = 0) {off m : Int} (ho : 0 ≤ off ∧ off < 32) (hm : 0 ≤ m ∧ m ≤ 60) : OkX (lookM b d off m) := ⟨⟨(lookOf_ok h).b, (lookOf_ok h).day⟩, ho, hm⟩
theorem c31 (b : Book) (d : Int) (hs : SmB b) : PC 9 [.agg (tBook.cells b), iI d] (· = .tuple [iI (missedR b d).1, iI (missedR b d).2]) := by
  by_cases ha : askedR b d = 0
  · obtain ⟨h, hd1, hd2, hday⟩ := asked_ok ha
    have hpl : ∀ m : Int, paysX (lookM b d 0 m) = explainsR (missingR b d m) d [] := fun m => (same_explains (same_miss h ⟨hd1, hd2⟩ hday m)).symm
    have k82 : ∀ m : Nat, m ≤ 60 → PC 23 [lk (lookM b d 0 m)] (· = .bool (explainsR (missingR b d m) d [])) := fun m hm => by
      have := c82 (lookM b d 0 m) (okX_lookM ha (by omega) (by omega))
      rwa [hpl] at this
    have hoff : (lookOf b d).off = 0 := rfl
    have k63 := (c63h b d ha).frame rfl rfl [.cells (tBook.cells b)]
    have hmain : WP Try.prog ⟨none, 0⟩ (T31_o b d) (Ends' fun r => v31_o r = .tuple [iI (missedR b d).1, iI (missedR b d).2]) (.l0 0) := by
      have e : missedR b d = match firstI (fun (m : Nat) => explainsR (missingR b d m) d []) 0 (List.range 61) with | some m => ((m : Int), 0) | none => (0, 9) := by unfold missedR; exact if_neg (fun q => q ha)
      refine WP.findI (fun i => .l0 (i : Int)) rfl (List.range 61) 0 (fun (m : Nat) => explainsR (missingR b d m) d []) (fun i hi => ?_) fun hI => ?_
      · have hi' : i < 61 := by simpa using hi
        have hg : (List.range 61).getD i 0 = i := by simp [List.getD_eq_getElem?_getD, hi']
        rw [hg]
        have hi2 : (i : Int) ≤ 60 := by omega
        have k := k82 i (by omega)
        have hr : inR .i64 ((i : Int) + 1) = true := inR64 (by omega) (by omega)
        have hpi := hpl i
        have hres : firstI (fun (m : Nat) => explainsR (missingR b d m) d []) 0 (List.range 61) = some i → missedR b d = ((i : Int), 0) := fun q => by rw [e, q]
        refine WP.once ?_
        simp only [T31_o, Tr.sure, SS, hi2, hoff, hpi]
        repeat' with_reducible first | intro _ | apply And.intro
        all_goals first | exact k | (simp [hr, hres, hoff, hpi, Go, Ends', v31_o, -List.getD_eq_getElem?_getD, *]; done) | (simp_all [hr, hres, hoff, hpi, Go, Ends', v31_o, -List.getD_eq_getElem?_getD]; done)
      · have hres : missedR b d = (0, 9) := by rw [e, hI]
        have hno : ¬ (((List.range 61).length : Nat) : Int) ≤ 60 := by simp
        refine WP.step ?_
        simp only [T31_o, Go, Ends', v31_o, Tr.sure, SS, hno]
        repeat' with_reducible first | intro _ | apply And.intro
        all_goals simp [hres, Go, Ends', v31_o, -List.getD_eq_getElem?_getD, *]
    refine w31_o b d (WP.step ?_)
    simp only [T31_o, Go, Ends', v31_o, Tr.sure, SS, ha]
    repeat' with_reducible first | intro _ | apply And.intro
    all_goals first | exact k63 | exact hmain
  · have e : missedR b d = (0, askedR b d) := by unfold missedR; exact if_pos ha
    have k63 := c63n b d hs ha
    refine w31_e b d (WP.step ?_)
    simp only [T31_e, Go, Ends', v31_e, Tr.sure, SS, ha]
    repeat' with_reducible first | intro _ | apply And.intro
    all_goals first | exact k63 | (simp [e, Go, Ends', v31_e, -List.getD_eq_getElem?_getD, *]; done)
end
noncomputable section
inductive P121
  | e
inductive R121
  | r0 (r0 : Int)
noncomputable def T121 (x : Int) : P121 → Tr P121 R121
  | .e => let c1 := bitsOf .and .u64 (IntKind.wrap .u64 (((IntKind.wrap .u64 ((bitsOf .and .u64 ((IntKind.wrap .u64 ((bitsOf .and .u64 (x.fdiv (2 ^ (min ((1 : Int)).toNat 64))) (6148914691236517205 : Int)) + (bitsOf .and .u64 x (6148914691236517205 : Int)))).fdiv (2 ^ (min ((2 : Int)).toNat 64))) (3689348814741910323 : Int)) + (bitsOf .and .u64 (IntKind.wrap .u64 ((bitsOf .and .u64 (x.fdiv (2 ^ (min ((1 : Int)).toNat 64))) (6148914691236517205 : Int)) + (bitsOf .and .u64 x (6148914691236517205 : Int)))) (3689348814741910323 : Int)))).fdiv (2 ^ (min ((4 : Int)).toNat 64))) + (IntKind.wrap .u64 ((bitsOf .and .u64 ((IntKind.wrap .u64 ((bitsOf .and .u64 (x.fdiv (2 ^ (min ((1 : Int)).toNat 64))) (6148914691236517205 : Int)) + (bitsOf .and .u64 x (6148914691236517205 : Int)))).fdiv (2 ^ (min ((2 : Int)).toNat 64))) (3689348814741910323 : Int)) + (bitsOf .and .u64 (IntKind.wrap .u64 ((bitsOf .and .u64 (x.fdiv (2 ^ (min ((1 : Int)).toNat 64))) (6148914691236517205 : Int)) + (bitsOf .and .u64 x (6148914691236517205 : Int)))) (3689348814741910323 : Int)))))) (1085102592571150095 : Int); let c2 := IntKind.wrap .u64 ((IntKind.wrap .u64 (c1 + (c1.fdiv (2 ^ (min ((8 : Int)).toNat 64))))) + ((IntKind.wrap .u64 (c1 + (c1.fdiv (2 ^ (min ((8 : Int)).toNat 64))))).fdiv (2 ^ (min ((16 : Int)).toNat 64)))); let c3 := IntKind.wrap .u64 (c2 + (c2.fdiv (2 ^ (min ((32 : Int)).toNat 64)))); (.need (decide (0 ≤ (1 : Int))) (.need true (.need (decide (0 ≤ (2 : Int))) (.need true (.need (decide (0 ≤ (4 : Int))) (.need true (.need (decide (0 ≤ (8 : Int))) (.need true (.need (decide (0 ≤ (16 : Int))) (.need true (.need (decide (0 ≤ (32 : Int))) (.need true (.need (inR .i64 c3) (.out (.r0 (bitsOf .and .i64 c3 (127 : Int)))))))))))))))))
noncomputable def g121 (x : Int) : P121 → List Item × St
  | .e => bd Try.f69 [.int .u64 x] 34
noncomputable def n121 : R121 → Exit × St
  | .r0 r0 => (.ret, ⟨mk 35 [(2, iI r0)], [], []⟩)
noncomputable def v121 : R121 → V
  | .r0 r0 => iI r0
theorem s121 (x : Int) : Sm 0 (g121 x) (T121 x) (n121)
  | .e => ⟨400, by kernel_rfl⟩
theorem q121 : ∀ r, bodyQ Try.prog Try.f69 (· = v121 r) (n121 r).1 (n121 r).2
  | .r0 r0 => bq (iI r0) (by kernel_rfl)
theorem w121 (x : Int) {post : V → Prop} (h : WQ (T121 x) v121 post .e) : PC 69 [.int .u64 x] post :=
  PCalls.wq Try.func69 (s121 x) q121 h
inductive P88
  | e
  | l0 (x0_7 : Int) (a0_0 : List Int)
inductive R88
  | r0 (r0 : List Int)
noncomputable def T88 (s : Int) : P88 → Tr P88 R88
  | .e => (.wait 2 (.own 2 3 1 (.need true (.call 66 [.int .u64 (IntKind.wrap .u64 s)] (iI (Lib.bitLen (IntKind.wrap .u64 s).toNat : Int)) true true (.go (.l0 0 ([])))))))
  | .l0 x0_7 a0_0 => let c1 := x0_7 + (1 : Int); (.br (decide (x0_7 < (Lib.bitLen (IntKind.wrap .u64 s).toNat : Int))) (.need (decide (0 ≤ x0_7)) (.br ((bitsOf .and .i64 (s.fdiv (2 ^ (min (x0_7).toNat 64))) (1 : Int)) == (1 : Int)) (.need ((decide (a0_0.length = a0_0.length) && decide (a0_0.length + 1 ≤ 4294967296)) && decide (1 ≤ 1)) (.scal (fun _ => true) (.need (inR .i64 c1) (.go (.l0 c1 (x0_7 :: a0_0)))))) (.need (inR .i64 c1) (.go (.l0 c1 a0_0))))) (.out (.r0 a0_0)))
noncomputable def g88 (s : Int) : P88 → List Item × St
  | .e => bd Try.f51 [iI s] 20
  | .l0 x0_7 a0_0 => (cutOf Try.f51 0, ⟨mk 21 [(0, iI s), (2, .row 0 a0_0.length), (6, iI (Lib.bitLen (IntKind.wrap .u64 s).toNat : Int)), (7, iI x0_7)], [.rows 3 1 a0_0.length (rowsRev tint a0_0)], []⟩)
noncomputable def n88 : R88 → Exit × St
  | .r0 r0 => (.ret, ⟨mk 21 [(2, .row 0 r0.length)], [.rows 3 1 r0.length (rowsRev tint r0)], []⟩)
noncomputable def v88 : R88 → V
  | .r0 r0 => tint.lst r0.reverse
theorem s88 (s : Int) : Sm 0 (g88 s) (T88 s) (n88)
  | .e => ⟨400, by kernel_rfl⟩
  | .l0 _ _ => ⟨400, by kernel_rfl⟩
theorem q88 : ∀ r, bodyQ Try.prog Try.f51 (· = v88 r) (n88 r).1 (n88 r).2
  | .r0 r0 => ⟨.inr rfl, by simp [n88], (.row 0 r0.length), (tint.lst r0.reverse), by kernel_rfl, (.weak (.row rfl (Nat.le_refl _)) (VLe.rev tint r0)), rfl⟩
theorem w88 (s : Int) {post : V → Prop} (h : WQ (T88 s) v88 post .e) : PC 51 [iI s] post :=
  PCalls.wq Try.func51 (s88 s) q88 h
def evalN {α ρ : Type} : Tr α ρ → Option ρ
  | .need b t => if b = true then evalN t else none
  | .out r => some r
  | _ => none
theorem evalN_sure {α ρ : Type} {P : Program} {ro : Env} {φ : α ⊕ ρ → Prop} {t : Tr α ρ} : ∀ {r : ρ}, evalN t = some r → φ (.inr r) → t.sure P ro φ := by
  induction t with
  | need b t ih =>
    intro r h hf
    have e : evalN (.need b t : Tr α ρ) = if b = true then evalN t else none := rfl
    rw [e] at h
    by_cases hb : b = true
    · rw [if_pos hb] at h; exact ⟨hb, fun _ => ih h hf⟩
    · rw [if_neg hb] at h; cases h
  | out r' =>
    intro r h hf
    have e : evalN (.out r' : Tr α ρ) = some r' := rfl
    rw [e] at h
    cases h; exact hf
  | _ => intro r h _; exact absurd (show none = some r from h) (by simp)
def onesZ (x : Int) : Int := ((List.range 5).countP fun i => x.toNat.testBit i : Nat)
def chk121 (n : Nat) : Bool := match evalN (T121 (n : Int) .e) with
  | some (.r0 k) => k == onesZ n
  | none => false
theorem all121 : (List.range 32).all chk121 = true := by kernel_rfl
theorem c121 (x : Int) (h : 0 ≤ x ∧ x < 32) : PC 69 [.int .u64 x] (· = iI (onesZ x)) := by
  obtain ⟨n, rfl⟩ : ∃ n : Nat, x = n := ⟨x.toNat, by omega⟩
  have hc := List.all_eq_true.1 all121 n (List.mem_range.2 (by omega))
  unfold chk121 at hc
  refine w121 _ (WP.step ?_)
  cases he : evalN (T121 (n : Int) .e) with
  | none => rw [he] at hc; cases hc
  | some r =>
    rw [he] at hc
    obtain ⟨k⟩ := r
    have hk : k = onesZ n := by simpa using hc
    refine evalN_sure he ?_
    show V.int .i64 k = _
    rw [hk]
inductive P86
  | e
inductive R86
  | r0 (r0 : Int)
noncomputable def T86 (x : Int) : P86 → Tr P86 R86
  | .e => (.lit false (.call 69 [.int .u64 x] (iI (onesZ x)) true true (.out (.r0 (onesZ x)))))
noncomputable def g86 (x : Int) : P86 → List Item × St
  | .e => bd Try.f49 [.int .u64 x] 7
noncomputable def n86 : R86 → Exit × St
  | .r0 r0 => (.ret, ⟨mk 8 [(2, iI r0)], [], []⟩)
noncomputable def v86 : R86 → V
  | .r0 r0 => iI r0
theorem s86 (x : Int) : Sm 0 (g86 x) (T86 x) (n86)
  | .e => ⟨400, by kernel_rfl⟩
theorem q86 : ∀ r, bodyQ Try.prog Try.f49 (· = v86 r) (n86 r).1 (n86 r).2
  | .r0 r0 => bq (iI r0) (by kernel_rfl)
theorem w86 (x : Int) {post : V → Prop} (h : WQ (T86 x) v86 post .e) : PC 49 [.int .u64 x] post :=
  PCalls.wq Try.func49 (s86 x) q86 h
theorem c86 (x : Int) (h : 0 ≤ x ∧ x < 32) : PC 49 [.int .u64 x] (· = iI (onesZ x)) := by
  have k := c121 x h
  refine w86 x (WP.step ?_)
  simp only [T86, Go, Ends', v86, Tr.sure, SS]
  repeat' with_reducible first | intro _ | apply And.intro
  all_goals exact k
theorem c119 (x : Int) (h : 0 ≤ x ∧ x < 32) : PC 66 [.int .u64 x] (· = iI (Lib.bitLen x.toNat : Int)) := by
  refine ⟨PCalls.enters Try.func66 (c := Try.f66.body.getD .skip) (by kernel_rfl) (by kernel_rfl), fun G w xs hk hl hr => ?_⟩
  obtain ⟨v, rfl, hv⟩ := arg1 hl hr
  have hv' := rel_int_inv hv
  subst hv'
  refine (Try.bits_Len x w h.1 (by omega)).mono ?_
  rintro e' w' ⟨rfl, rfl⟩
  exact ⟨_, _, G, rfl, G.le_refl, hk, fun _ _ q => .inl q, fun _ _ => rfl, Nat.le_refl _, .int _ _, rfl⟩
def bitT (s : Int) (i : Nat) : Bool := bitsOf .and .i64 (s.fdiv (2 ^ (min i 64))) 1 == 1
def listTo (s : Int) (n : Nat) : List Int := ((List.range n).filter (bitT s)).map fun (i : Nat) => (i : Int)
def listZ (s : Int) : List Int := listTo s (Lib.bitLen s.toNat)
theorem listTo_succ (s : Int) (n : Nat) : (listTo s (n + 1)).reverse = if bitT s n = true then (n : Int) :: (listTo s n).reverse else (listTo s n).reverse := by
  unfold listTo
  rw [List.range_succ, List.filter_append]
  by_cases h : bitT s n = true
  · rw [if_pos h]; simp [h]
  · rw [if_neg h]; simp [h]
def chkB (n : Nat) : Bool := decide (Lib.bitLen n ≤ 5) && (IntKind.wrap .u64 (n : Int) == (n : Int))
theorem allB : (List.range 32).all chkB = true := by kernel_rfl
theorem bit_in {s : Int} (h : 0 ≤ s ∧ s < 32) : Lib.bitLen s.toNat ≤ 5 ∧ IntKind.wrap .u64 s = s := by
  obtain ⟨n, rfl⟩ : ∃ n : Nat, s = n := ⟨s.toNat, by omega⟩
  have hc := List.all_eq_true.1 allB n (List.mem_range.2 (by omega))
  unfold chkB at hc
  simpa using hc
theorem c88 (s : Int) (h : 0 ≤ s ∧ s < 32) : PC 51 [iI s] (· = tint.lst (listZ s)) := by
  obtain ⟨hb, hw⟩ := bit_in h
  have k119 := c119 s h
  have hmain : WP Try.prog ⟨none, 0⟩ (T88 s) (Ends' fun r => v88 r = tint.lst (listZ s)) (.l0 0 []) := by
    unfold listZ
    generalize hn : Lib.bitLen s.toNat = n at *
    refine WP.run (fun i => .l0 (i : Int) (listTo s i).reverse) rfl n (fun i hi => ?_) ?_
    · have hi' : (i : Int) < n := by omega
      have hr : inR .i64 ((i : Int) + 1) = true := inR64 (by omega) (by omega)
      have hl : (listTo s i).reverse.length + 1 ≤ 4294967296 := by
        have := List.length_filter_le (bitT s) (List.range i)
        rw [List.length_range] at this
        simp only [listTo, List.length_reverse, List.length_map]; omega
      rw [listTo_succ]
      have hB : (bitsOf .and .i64 (s.fdiv (2 ^ (min i 64))) 1 == 1) = bitT s i := rfl
      generalize (listTo s i).reverse = A at *
      cases hbt : bitT s i with
      | true =>
        rw [if_pos rfl]
        rw [hbt] at hB
        refine WP.once ?_
        simp only [T88, Tr.sure, SS, hi', hw, hn, hB]
        repeat' with_reducible first | intro _ | apply And.intro
        all_goals simp [hr, hl, hw, hn, hB, Go, Ends', v88, -List.getD_eq_getElem?_getD, *]
      | false =>
        rw [if_neg (by decide)]
        rw [hbt] at hB
        refine WP.once ?_
        simp only [T88, Tr.sure, SS, hi', hw, hn, hB]
        repeat' with_reducible first | intro _ | apply And.intro
        all_goals simp [hr, hl, hw, hn, hB, Go, Ends', v88, -List.getD_eq_getElem?_getD, *]
    · refine WP.step ?_
      simp only [T88, Go, Ends', v88, Tr.sure, SS, hw, hn, Int.lt_irrefl]
      repeat' with_reducible first | intro _ | apply And.intro
      all_goals simp [hw, hn, Go, Ends', v88, -List.getD_eq_getElem?_getD, *]
  refine w88 s (WP.step ?_)
  simp only [T88, Go, Ends', v88, Tr.sure, SS, hw]
  repeat' with_reducible first | intro _ | apply And.intro
  all_goals first | exact k119 | exact hmain
def cmpS (x y : Int) : Int := if onesZ x ≠ onesZ y then onesZ x - onesZ y else cmpL (listZ x) (listZ y)
inductive P85
  | e
inductive R85
  | r0 (r0 : Int)
noncomputable def T85 (x : Int) (y : Int) : P85 → Tr P85 R85
  | .e => let c1 := onesZ (IntKind.wrap .u64 y); let c2 := onesZ (IntKind.wrap .u64 x); let c3 := cmpL (listZ x) (listZ y); (.need true (.call 49 [.int .u64 (IntKind.wrap .u64 x)] (iI c2) true true (.need true (.call 49 [.int .u64 (IntKind.wrap .u64 y)] (iI c1) true true (.br (c2 != c1) (.need (inR .i64 (c2 - c1)) (.out (.r0 (c2 - c1)))) (.call 51 [iI x] (tint.lst (listZ x)) true true (.call 51 [iI y] (tint.lst (listZ y)) true true (.call 50 [tint.lst (listZ x), tint.lst (listZ y)] (iI c3) true true (.out (.r0 c3))))))))))
noncomputable def g85 (x : Int) (y : Int) : P85 → List Item × St
  | .e => bd Try.f48 [iI x, iI y] 22
noncomputable def n85 : R85 → Exit × St
  | .r0 r0 => (.ret, ⟨mk 24 [(4, iI r0)], [], []⟩)
noncomputable def v85 : R85 → V
  | .r0 r0 => iI r0
theorem s85 (x : Int) (y : Int) : Sm 0 (g85 x y) (T85 x y) (n85)
  | .e => ⟨400, by kernel_rfl⟩
theorem q85 : ∀ r, bodyQ Try.prog Try.f48 (· = v85 r) (n85 r).1 (n85 r).2
  | .r0 r0 => bq (iI r0) (by kernel_rfl)
theorem w85 (x : Int) (y : Int) {post : V → Prop} (h : WQ (T85 x y) v85 post .e) : PC 48 [iI x, iI y] post :=
  PCalls.wq Try.func48 (s85 x y) q85 h
theorem ones_in (x : Int) : 0 ≤ onesZ x ∧ onesZ x ≤ 5 := by
  unfold onesZ
  have h := List.countP_le_length (p := fun i => x.toNat.testBit i) (l := List.range 5)
  rw [List.length_range] at h
  omega
theorem c85 (x y : Int) (hx : 0 ≤ x ∧ x < 32) (hy : 0 ≤ y ∧ y < 32) : PC 48 [iI x, iI y] (· = iI (cmpS x y)) := by
  have k1 := c86 x hx
  have k2 := c86 y hy
  have k3 := c88 x hx
  have k4 := c88 y hy
  have w1 := (bit_in hx).2
  have w2 := (bit_in hy).2
  have o1 := ones_in x
  have o2 := ones_in y
  have r1 : inR .i64 (onesZ x - onesZ y) = true := inR64 (by omega) (by omega)
  have e : cmpS x y = if onesZ x ≠ onesZ y then onesZ x - onesZ y else cmpL (listZ x) (listZ y) := rfl
  refine w85 x y (WP.step ?_)
  simp only [T85, Go, Ends', v85, Tr.sure, SS, w1, w2]
  repeat' with_reducible first | intro _ | apply And.intro
  all_goals first | exact k1 | exact k2 | exact k3 | exact k4 | exact (c87 _ _) | (simp [r1, w1, w2, e, Go, Ends', v85, -List.getD_eq_getElem?_getD, *]; done)
end
end Go.Proofs.Ytfgmckfomckliaa
namespace Go.Proofs.Ytfgmckfomckliaa
open Ab Go Go.Sort Go.Shelf Go.Proofs
noncomputable section
theorem grown_of {w w' : World} (hm : Mild w w') (hb : ∀ b, b < w.heap.size → w'.heap[b]? = w.heap[b]?) (hs : w.heap.size ≤ w'.heap.size) : ∃ q os, w' = grow (w.drewN q) os := by
  refine ⟨w'.drawn - w.drawn, w'.heap.extract w.heap.size w'.heap.size, ?_⟩
  have hd := hm.drawn
  have hh : w'.heap = w.heap ++ w'.heap.extract w.heap.size w'.heap.size := by
    apply Array.ext_getElem?
    intro i
    rcases Nat.lt_or_ge i w.heap.size with q | q
    · rw [Array.getElem?_append_left q]; exact hb i q
    · rw [Array.getElem?_append_right q, Array.getElem?_extract]
      by_cases hi : i < w'.heap.size
      · rw [if_pos (by omega), show w.heap.size + (i - w.heap.size) = i by omega]
      · rw [if_neg (by omega), Array.getElem?_eq_none (by omega)]
  have h1 := hm.os
  have h2 := hm.out
  have h3 := hm.tape
  cases w' with
  | mk heap tape drawn os output =>
    simp only at hd hh h1 h2 h3
    unfold grow World.drewN
    simp only [World.mk.injEq]
    exact ⟨hh, h3, by omega, h1, h2⟩
theorem PCalls.grows {P : Program} {f : FuncId} {xs : List V} {v : V} (hc : PCalls P f xs (· = v)) {ys : Array Value} {y : Value} (hl : xs.length = ys.size) (hr : ∀ G j, j < xs.length → Rel G [] (xs.getD j uU) (ys.getD j Go.undef))
    (hv : ∀ G x, Rel G [] v x → x = y) (w : World) : Calls P f ys w fun e w' => e = .returned y ∧ ∃ q os, w' = grow (w.drewN q) os := by
  refine (hc.tight ⟨fun _ => none, ambOf w⟩ w ys ⟨(fun _ _ h => absurd h (by simp)), ambOf_ok w⟩ hl (hr _)).mono ?_
  rintro e w' ⟨⟨u, x, G', rfl, h2, h3, h4, h5, h6, h7, rfl⟩, hm⟩
  exact ⟨by rw [hv _ _ h7], grown_of hm h5 h6⟩
def rankL : List Nat := [0, 1, 2, 4, 8, 16, 3, 5, 9, 17, 6, 10, 18, 12, 20, 24, 7, 11, 19, 13, 21, 25, 14, 22, 26, 28, 15, 23, 27, 29, 30, 31]
def rk (x : Nat) : Nat := rankL.idxOf x
def chkR (x : Nat) : Bool := (List.range 32).all fun y => decide (cmpS x y < 0) == decide (rk x < rk y)
theorem allR : (List.range 32).all chkR = true := by kernel_rfl
def chkI (x : Nat) : Bool := (List.range 32).all fun y => !(rk x == rk y) || (x == y)
theorem allI : (List.range 32).all chkI = true := by kernel_rfl
instance : Inhabited (Fin 32) := ⟨0⟩
def encF (x : Fin 32) : Value := .int .i64 (x.val : Int)
def cfF (x y : Fin 32) : Int := cmpS (x.val : Int) (y.val : Int)
theorem lt_rk (x y : Fin 32) : ltOf cfF x y = decide (rk x.val < rk y.val) := by
  have h1 := List.all_eq_true.1 allR x.val (List.mem_range.2 x.isLt)
  have h2 := List.all_eq_true.1 h1 y.val (List.mem_range.2 y.isLt)
  unfold ltOf cfF
  simpa using h2
theorem rk_inj {x y : Fin 32} (h : rk x.val = rk y.val) : x = y := by
  have h1 := List.all_eq_true.1 allI x.val (List.mem_range.2 x.isLt)
  have h2 := List.all_eq_true.1 h1 y.val (List.mem_range.2 y.isLt)
  simp only [h, BEq.rfl, Bool.not_true, Bool.false_or, beq_iff_eq] at h2
  exact Fin.ext h2
theorem swoF : SWO (ltOf cfF) := by
  refine ⟨fun x => ?_, fun x y z h1 h2 => ?_, fun x y z h1 h2 => ?_⟩
  · rw [lt_rk]; simp
  · rw [lt_rk] at *; simp only [decide_eq_true_eq] at *; omega
  · rw [lt_rk] at *; simp only [decide_eq_false_iff_not] at *; omega
theorem totF : ∀ x y, ltOf cfF x y = false → ltOf cfF y x = false → x = y := fun x y h1 h2 => by
  rw [lt_rk] at h1 h2
  simp only [decide_eq_false_iff_not] at h1 h2
  exact rk_inj (by omega)
def rowN (n : Nat) : List Int := (List.range n).map fun (i : Nat) => (i : Int)
def ordN (n : Nat) : List Int := (rankL.filter (· < n)).map fun (i : Nat) => (i : Int)
def finN (n : Nat) : List (Fin 32) := (List.range n).map (Fin.ofNat 32)
def ordF (n : Nat) : List (Fin 32) := (rankL.filter (· < n)).map (Fin.ofNat 32)
theorem cmp85 (blk off size : Nat) (w : World) : CmpLays1 Try.prog 48 #[] encF cfF blk off size w := fun m os dk _ x y => by
  have h := PCalls.grows (c85 x.val y.val ⟨by omega, by have := x.isLt; omega⟩ ⟨by omega, by have := y.isLt; omega⟩) (ys := #[encF x, encF y] ++ #[]) (y := .int .i64 (cfF x y)) rfl (fun G j hj => by
    match j, hj with
    | 0, _ => exact .int _ _
    | 1, _ => exact .int _ _) (fun G x h => rel_int_inv h) (sortWorld encF w blk off m dk os)
  exact h
theorem putRow_enc (w : World) (b off : Nat) (d : List (Fin 32)) (l : List Int) (hl : l = d.map fun x => (x.val : Int)) : putRow encF w b off d.toArray = putRow (Value.int .i64) w b off l.toArray := by
  have e : putCells encF off d.toArray = putCells (Value.int .i64) off l.toArray := by
    funext c
    unfold putCells
    congr 1
    funext k x
    have hs : l.toArray.size = d.toArray.size := by simp [hl]
    rw [hs]
    by_cases h : off ≤ k ∧ k < off + d.toArray.size
    · rw [if_pos h, if_pos h]
      have hk : k - off < d.length := by have := h.2; simp at this; omega
      subst hl
      simp [encF, hk]
    · rw [if_neg h, if_neg h]
  unfold putRow; rw [e]
def chkP (n : Nat) : Bool := decide ((ordF n).Perm (finN n)) && ((ordN n == (ordF n).map fun x => (x.val : Int)) && ((rowN n == (finN n).map fun x => (x.val : Int)) && (decide ((ordF n).length = n) && ((finN n).length == n))))
def chkS (n : Nat) : Bool := (List.range n).all fun i => (List.range n).all fun j => !(decide (i < j)) || !(decide (rk ((ordF n).getD j 0).val < rk ((ordF n).getD i 0).val))
theorem allC : [4, 8, 16, 32].all (fun n => chkP n && chkS n) = true := by kernel_rfl
theorem ord_unique {n : Nat} (hn : n ∈ [4, 8, 16, 32]) {d' : Array (Fin 32)} (hp : PermIn 0 (finN n).toArray.size (finN n).toArray d') (hs : SortedIn (ltOf cfF) 0 (finN n).toArray.size d') : d' = (ordF n).toArray := by
  have hc := List.all_eq_true.1 allC n hn
  simp only [Bool.and_eq_true, chkP, decide_eq_true_eq, beq_iff_eq] at hc
  obtain ⟨⟨h1, h2, h3, h4, h5⟩, h6⟩ := hc
  have hsz : (ordF n).toArray.size = (finN n).toArray.size := by simp [h4, h5]
  have e1 := sorted_unique_holds swoF totF _ _ hp hs
  have e2 := sorted_unique_holds swoF totF (finN n).toArray (ordF n).toArray ⟨hsz, fun i hi => by
    have q : ¬ i < (ordF n).toArray.size := by omega
    have q2 : ¬ i < (finN n).toArray.size := by omega
    rw [getElem!_neg _ i q, getElem!_neg _ i q2], by
    rw [← hsz, Array.extract_size, hsz, Array.extract_size]; exact h1⟩ (fun i j _ hij hj => by
    rw [lt_rk]
    have hj' : j < n := by simpa [h5] using hj
    have g := List.all_eq_true.1 (List.all_eq_true.1 h6 i (List.mem_range.2 (by omega))) j (List.mem_range.2 hj')
    have f : ∀ k, k < n → (ordF n).toArray[k]! = (ordF n).getD k 0 := fun k hk => by
      have : k < (ordF n).length := by omega
      simp [List.getD_eq_getElem?_getD, this]
    rw [f i (by omega), f j hj']
    simpa [hij] using g)
  exact Array.toList_inj.1 (e1.trans e2.symm)
theorem args2 {xs : Array Value} {β : Homes} {G : Kept} {u v : V} (hl : ([u, v] : List V).length = xs.size) (hr : ∀ j, j < ([u, v] : List V).length → Rel G β (([u, v] : List V).getD j uU) (xs.getD j Go.undef)) : ∃ x y, xs = #[x, y] ∧ Rel G β u x ∧ Rel G β v y := by
  obtain ⟨ys⟩ := xs
  match ys, hl with
  | [x, y], _ => exact ⟨x, y, rfl, by simpa using hr 0 (by simp), by simpa using hr 1 (by simp)⟩
theorem c84 {n : Nat} (hn : n ∈ [4, 8, 16, 32]) {h : List Blk} {i : Nat} {c : Nat → Nat → V} (hi : h[i]? = some (.rows 3 1 n c)) (hc : RowI c (rowN n)) : HCalls Try.prog 47 [.row i n, fF 48] (.tuple []) h (h.set i (.rows 3 1 n (rowsOf tint (ordN n)))) := by
  have hk := List.all_eq_true.1 allC n hn
  simp only [Bool.and_eq_true, chkP, decide_eq_true_eq, beq_iff_eq] at hk
  obtain ⟨⟨-, h2, h3, h4, h5⟩, -⟩ := hk
  have hrl : (rowN n).length = n := by simp [rowN]
  have hol : (ordN n).length = n := by rw [h2, List.length_map, h4]
  refine ⟨PCalls.enters Try.func47 (c := Try.f47.body.getD .skip) (by kernel_rfl) (by kernel_rfl), fun β G K w xs r hl hr => ?_⟩
  obtain ⟨v, fv, rfl, hv, hf⟩ := args2 hl hr
  have hfv : fv = .func (.func 48) #[] #[] := by
    cases hf with
    | func hf' hc' _ _ =>
      have e1 := Array.eq_empty_of_size_eq_zero hf'.symm
      have e2 := Array.eq_empty_of_size_eq_zero hc'.symm
      rw [e1, e2]
  subst hfv
  rcases slice_inv hv with ⟨x, cap, hb, rfl, hnc, hcap⟩ | ⟨h0, _⟩
  · have hi' : h[i]? = some (.rows 3 1 (rowN n).length c) := by rw [hrl]; exact hi
    obtain ⟨g1, g2, g3, g4⟩ := row_holds r hi' hc hb
    have hH : Holds encF w x.b 0 (finN n).toArray := fun j hj => by
      have hj' : j < n := by simpa [h5] using hj
      have hj2 : j < (rowN n).toArray.size := by simp [hrl]; exact hj'
      obtain ⟨q1, q2⟩ := g1 j hj2
      refine ⟨?_, q2⟩
      rw [q1]
      have hjf : j < (finN n).length := by omega
      rw [h3]
      simp [encF, hjf]
    have hsz : (finN n).toArray.size = n := by simp [h5]
    have hn32 : n ≤ 32 := by simp at hn; omega
    have key := Try.slices_SortFunc encF (fun _ => rfl) cfF swoF 48 #[] x.b 0 cap (finN n).toArray w (PCalls.enters Try.func48 (c := Try.f48.body.getD .skip) (by kernel_rfl) (by kernel_rfl)) (cmp85 _ _ _ _) hH g2 (by rw [hsz]; omega)
    rw [hsz] at key
    refine key.mono ?_
    rintro e' w' ⟨rfl, d', m, os, hp, hs, rfl⟩
    have hd := ord_unique hn (by rw [hsz]; exact hp) (by rw [hsz]; exact hs)
    subst hd
    have hput := row_put (q := m) (os := os) (c' := rowsOf tint (ordN n)) r hi hb (d := ordN n) hol (Nat.le_refl _) (fun j hj => rfl)
    refine ⟨_, β, G, K, rfl, Homes.le_refl _, G.ext_refl K, K.le_refl, ?_, .tuple rfl fun j hj => absurd hj (Nat.not_lt_zero _)⟩
    unfold sortWorld
    rw [putRow_enc _ _ _ _ _ h2]
    exact hput
  · subst h0; simp at hn
end
end Go.Proofs.Ytfgmckfomckliaa
namespace Go.Proofs.Ytfgmckfomckliaa
open Ab Go
noncomputable section
inductive P83h
  | e
  | l0 (x0_14 : Int) (a0_1 : List (Option Int))
inductive R83h
  | r0 (r0 : List (Option Int)) (r1 : Nat)
noncomputable def T83h (x : Look) : P83h → Tr P83h R83h
  | .e => (.wait 3 (.frz 0 (underL 0 [lk x]) (.wait 5 (.telb 1 3 1 (litC 3 1 [iI (-1), fF 60, fG 61 [rR (lk x)]]) (rowsRev (tEnt x) ([none])) (.go (.l0 0 ([none])))))))
  | .l0 x0_14 a0_1 => (.br (decide (x0_14 < (x.b.rooms.length : Int))) (.wait 5 (.telc 2 [iI x0_14] [iI x0_14] (.frz 2 (underL 0 [iI x0_14]) (.need ((decide (a0_1.length = a0_1.length) && decide (a0_1.length + 1 ≤ 4294967296)) && decide (1 ≤ 1)) (.scal (fun _ => true) (.need (inR .i64 (x0_14 + (1 : Int))) (.telb 3 3 1 (litC 3 1 [iI x0_14, fG 62 [rR (iI x0_14)], fG 63 [rR (iI x0_14), rR (lk x)]]) (rowsRev (tEnt x) ([(some x0_14)])) (.go (.l0 (x0_14 + (1 : Int)) ((some x0_14) :: a0_1)))))))))) (.out (.r0 a0_1 a0_1.length)))
noncomputable def g83h (x : Look) : P83h → List Item × St
  | .e => bd Try.f37 [lk x] 25
  | .l0 x0_14 a0_1 => (cutOf Try.f37 0, ⟨mk 26 [(1, rR (lk x)), (3, .row 1 a0_1.length), (13, iI (x.b.rooms.length : Int)), (14, iI x0_14)], [.gone, .rows 105 3 a0_1.length (rowsRev (tEnt x) a0_1)], []⟩)
noncomputable def n83h (x : Look) : R83h → Exit × St
  | .r0 r0 r1 => (.ret, ⟨mk 26 [(2, .row 1 r1)], [.gone, .rows 105 3 r0.length (rowsRev (tEnt x) r0)], []⟩)
theorem s83h (x : Look) : Sm 0 (g83h x) (T83h x) (n83h x)
  | .e => ⟨400, by kernel_rfl⟩
  | .l0 _ _ => ⟨400, by kernel_rfl⟩
noncomputable def hh83h (x : Look) : R83h → List Blk
  | .r0 r0 r1 => [.gone, .rows 105 3 r0.length (rowsRev (tEnt x) r0)]
noncomputable def v83h (x : Look) : R83h → V
  | .r0 r0 r1 => .row 1 r1
theorem q83h (x : Look) : ∀ r, ((n83h x r).1 = .normal ∨ (n83h x r).1 = .ret) ∧ (n83h x r).2.d = [] ∧ (n83h x r).2.h = hh83h x r ∧ resultV Try.prog Try.f37 (n83h x r).2 = some (v83h x r)
  | .r0 r0 r1 => ⟨.inr rfl, rfl, rfl, by kernel_rfl⟩
theorem w83h (x : Look) {V0 : V} {h' : List Blk} (h : WP Try.prog ⟨none, 0⟩ (T83h x) (Ends' fun r => v83h x r = V0 ∧ hh83h x r = h') .e) : HCalls Try.prog 37 [lk x] V0 [] h' :=
  HCalls.wp mx Try.func37 (by kernel_rfl) (by kernel_rfl) (T83h x) (g83h x) (n83h x) .e rfl (s83h x) h fun r hr => by rw [← hr.1, ← hr.2]; exact q83h x r
theorem c83h (x : Look) (h : x.b.rooms.length ≤ 3) : HCalls Try.prog 37 [lk x] (.row 1 (entsR x).length) [] [.gone, .rows 105 3 (entsR x).reverse.length (rowsRev (tEnt x) (entsR x).reverse)] := by
  have hmain : WP Try.prog ⟨none, 0⟩ (T83h x) (Ends' fun r => v83h x r = .row 1 (entsR x).length ∧ hh83h x r = [.gone, .rows 105 3 (entsR x).reverse.length (rowsRev (tEnt x) (entsR x).reverse)]) (.l0 0 [none]) := by
    refine WP.run (fun i => .l0 (i : Int) (entsT i).reverse) rfl x.b.rooms.length (fun i hi => ?_) ?_
    · have hr : inR .i64 ((i : Int) + 1) = true := inR64 (by omega) (by omega)
      have hi' : (i : Int) < x.b.rooms.length := by omega
      have hn : (entsT (i + 1)).reverse = some (i : Int) :: (entsT i).reverse := by simp [entsT, List.range_succ]
      rw [hn]
      have hl : (entsT i).reverse.length + 1 ≤ 4294967296 := by simp [entsT]; omega
      have hu : underL 0 ([iI (i : Int)] : List V) = true := rfl
      generalize (entsT i).reverse = B at *
      refine WP.once ?_
      simp only [T83h, Tr.sure, SS, hi']
      repeat' with_reducible first | intro _ | apply And.intro
      all_goals first | exact (by with_reducible exact VLe.refl _) | exact (by with_reducible exact hu) | exact (tel_ent x (some (i : Int)) rfl ‹_› ‹_›) | (simp [hr, hl, Go, Ends', v83h, -List.getD_eq_getElem?_getD, *]; done)
    · have hrr : (entsT x.b.rooms.length).reverse = (entsR x).reverse := rfl
      have hll : ((entsR x).reverse).length = (entsR x).length := List.length_reverse
      refine WP.step ?_
      simp only [T83h, Go, Ends', v83h, Tr.sure, SS, Int.lt_irrefl]
      repeat' with_reducible first | intro _ | apply And.intro
      all_goals simp [hrr, hll, hh83h, Go, Ends', v83h, -List.getD_eq_getElem?_getD, *]
  refine w83h x (WP.step ?_)
  simp only [T83h, Go, Ends', v83h, Tr.sure, SS]
  repeat' with_reducible first | intro _ | apply And.intro
  all_goals first | exact (show underL 0 [lk x] = true from rfl) | exact (tel_ent x none rfl ‹_› ‹_›) | exact hmain
theorem c83r (x : Look) (h : x.b.rooms.length ≤ 3) {H : List Blk} {i : Nat} (hi : H[i]? = some (.cells (tLook.cells x))) (hs : Snap H (.ref i 0 0) (lk x)) : HCalls Try.prog 37 [.ref i 0 0] (.row H.length (entsR x).length) H (H ++ [.rows 105 3 (entsR x).length fun _ _ => uU]) := by
  have hc := c83h x h
  rw [List.length_reverse] at hc
  exact HCalls.rowNew (us := [lk x]) hc rfl rfl (by rw [entsR_len]; omega) rfl (fun q hq => by
    obtain rfl : q = 0 := by simpa using hq
    exact hs)
inductive P33
  | e
  | l0 (x0_25 : Int) (a0_1 : List Entry)
  | l1 (x0_25 : Int) (a0_1 : List Entry) (x1_43 : Int) (a1_6 : List Int)
  | l2 (x0_25 : Int) (a0_1 : List Entry) (x2_55 : Int) (c2_4_8 : Int)
  | l3 (x0_25 : Int) (x3_69 : List Int) (x3_70 : Int) (x3_71 : Int) (a3_1 : List Entry)
inductive R33
  | r0 (r0 : List Entry) (r1 : Int)
  | r1 (r0 : List Entry) (r1 : Int)
noncomputable def T33 (kk : Nat) (b : Book) : P33 → Tr P33 R33
  | .e => let c1 := bookCheck b; (.wait 2 (.own 2 91 2 (.call 13 [.agg (cC b)] (.tuple [iI (c1.1), iI (c1.2.1), iI (c1.2.2)]) true true (.br (c1.2.2 != (0 : Int)) (.wait 2 (.own 2 91 2 (.out (.r0 ([]) (c1.2.2))))) (.go (.l0 0 ([])))))))
  | .l0 x0_25 a0_1 => let c1 : List V := [iI ((lookOf b x0_25).b.price), tRoom.lst ((lookOf b x0_25).b.rooms), tDay.lst ((lookOf b x0_25).b.days), tSchool.lst ((lookOf b x0_25).day.schools), iI ((lookOf b x0_25).day.door.seen), iI ((lookOf b x0_25).day.door.miss), tCount.lst ((lookOf b x0_25).day.rooms), iI ((lookOf b x0_25).day.taken), iI ((lookOf b x0_25).off), iI ((lookOf b x0_25).missed)]; let c2 := (1 : Int) * 2 ^ (min ((kk : Int)).toNat 64); let c3 := (entsR (lookOf b x0_25)).length; let c4 : List Blk := [.cells (cC b), .rows 91 2 a0_1.length (rowsRev tEntry a0_1), .gone, .gone, .cells c1]; let c5 := List.replicate ((c2).toNat) 0; (.br (decide (x0_25 < (b.days.length : Int))) (.hcall 16 [.agg (cC b), iI x0_25] (.tuple [.ref 4 0 0, iI 0]) [.cells (cC b), .rows 91 2 a0_1.length (rowsRev tEntry a0_1)] c4 true (.hcall 37 [.ref 4 0 0] (.row 5 c3) c4 [.cells (cC b), .rows 91 2 a0_1.length (rowsRev tEntry a0_1), .gone, .gone, .cells c1, .rows 105 3 c3 (fun _ _ => uU)] true (.need (inR .i64 ((c3 : Int) + (1 : Int))) (.wait 1 (.vle 7 (iI ((c3 : Int) + (1 : Int))) (iI (kk : Int)) (.need (decide (0 ≤ (kk : Int)) && inR .i64 c2) (.need ((decide (0 ≤ c2) && decide (c2 = c2)) && decide (c2 ≤ 4294967296)) (.telb 6 1 ((c2).toNat) (fun _ j => ([iI 0] : List V).getD j uU) (rowsOf tint c5) (.go (.l1 x0_25 a0_1 0 c5)))))))))) (.out (.r1 a0_1 0)))
  | .l1 x0_25 a0_1 x1_43 a1_6 => let c1 := ((1 : Int) * 2 ^ (min ((kk : Int)).toNat 64)); let c2 : List V := [iI ((lookOf b x0_25).b.price), tRoom.lst ((lookOf b x0_25).b.rooms), tDay.lst ((lookOf b x0_25).b.days), tSchool.lst ((lookOf b x0_25).day.schools), iI ((lookOf b x0_25).day.door.seen), iI ((lookOf b x0_25).day.door.miss), tCount.lst ((lookOf b x0_25).day.rooms), iI ((lookOf b x0_25).day.taken), iI ((lookOf b x0_25).off), iI ((lookOf b x0_25).missed)]; let c3 := ([iI x1_43] : List V); let c4 := a1_6.set ((x1_43).toNat) x1_43; let c5 := x1_43 < ((c1.toNat) : Int); (.br (decide c5) (.need ((decide (0 ≤ x1_43) && decide c5) && decide (c1.toNat ≤ c1.toNat)) (.need ((decide ((x1_43).toNat < c1.toNat) && decide (0 + c3.length ≤ 1)) && underL 0 c3) (.telb 6 1 (c1.toNat) (fun r' j => if r' = (x1_43).toNat ∧ 0 ≤ j ∧ j < 0 + c3.length then c3.getD (j - 0) uU else (rowsOf tint a1_6) r' j) (rowsOf tint c4) (.need (inR .i64 (x1_43 + (1 : Int))) (.go (.l1 x0_25 a0_1 (x1_43 + (1 : Int)) c4)))))) (.hcall 47 [.row 6 (c1.toNat), fF 48] (.tuple []) [.cells (cC b), .rows 91 2 a0_1.length (rowsRev tEntry a0_1), .gone, .gone, .cells c2, .gone, .rows 3 1 (c1.toNat) (rowsOf tint a1_6)] [.cells (cC b), .rows 91 2 a0_1.length (rowsRev tEntry a0_1), .gone, .gone, .cells c2, .gone, .rows 3 1 (c1.toNat) (rowsOf tint (ordN (c1.toNat)))] true (.go (.l2 x0_25 a0_1 0 ((lookOf b x0_25).off)))))
  | .l2 x0_25 a0_1 x2_55 c2_4_8 => let c2 := ((1 : Int) * 2 ^ (min ((kk : Int)).toNat 64)); let c1 := (ordN (c2.toNat)).getD (x2_55).toNat tint.zero; let c3 := lookOf b x0_25; let c4 := paysX (lookM b x0_25 c1 (c3.missed)); let c5 := x2_55 < ((c2.toNat) : Int); (.br (decide c5) (.need ((decide (0 ≤ x2_55) && decide c5) && decide (c2.toNat ≤ c2.toNat)) (.need (decide ((x2_55).toNat < c2.toNat) && decide (0 < 1)) (.call 23 [.cref 10 fun q => ([iI (c3.b.price), tRoom.lst (c3.b.rooms), tDay.lst (c3.b.days), tSchool.lst (c3.day.schools), iI (c3.day.door.seen), iI (c3.day.door.miss), tCount.lst (c3.day.rooms), iI (c3.day.taken), iI c1, iI (c3.missed)] : List V).getD q uU] (.bool c4) true true (.br c4 (.call 51 [iI c1] (tint.lst (listZ c1)) true true (.go (.l3 x0_25 (listZ c1) (((listZ c1).length) : Int) 0 a0_1))) (.need (inR .i64 (x2_55 + (1 : Int))) (.go (.l2 x0_25 a0_1 (x2_55 + (1 : Int)) c1))))))) (.call 51 [iI c2_4_8] (tint.lst (listZ c2_4_8)) true true (.go (.l3 x0_25 (listZ c2_4_8) (((listZ c2_4_8).length) : Int) 0 a0_1))))
  | .l3 x0_25 x3_69 x3_70 x3_71 a3_1 => let c1 := (decide (a3_1.length = a3_1.length) && decide (a3_1.length + 1 ≤ 4294967296)) && decide (1 ≤ 1); let c2 := x3_69.getD (x3_71).toNat tint.zero; let c3 := x3_71 + (1 : Int); (.br (decide (x3_71 < x3_70)) (.need (decide (0 ≤ x3_71) && decide (x3_71 < (x3_69.length : Int))) (.need (inR .i64 (c2 - (1 : Int))) (.need (inR .i64 ((kk : Int) - (1 : Int))) (.br (c2 == ((kk : Int) - (1 : Int))) (.need c1 (.scal (fun _ => true) (.need (inR .i64 c3) (.go (.l3 x0_25 x3_69 x3_70 c3 ((⟨x0_25, 3⟩ : Entry) :: a3_1)))))) (.need c1 (.scal (fun _ => true) (.need (inR .i64 c3) (.go (.l3 x0_25 x3_69 x3_70 c3 ((⟨x0_25, (c2 - (1 : Int))⟩ : Entry) :: a3_1)))))))))) (.need (inR .i64 (x0_25 + (1 : Int))) (.go (.l0 (x0_25 + (1 : Int)) a3_1))))
noncomputable def g33 (kk : Nat) (b : Book) : P33 → List Item × St
  | .e => bd Try.f27 [.agg (cC b)] 89
  | .l0 x0_25 a0_1 => (cutOf Try.f27 0, ⟨mk 90 [(1, .ref 0 0 0), (2, .row 1 a0_1.length), (24, iI (b.days.length : Int)), (25, iI x0_25)], [.cells (cC b), .rows 91 2 a0_1.length (rowsRev tEntry a0_1)], []⟩)
  | .l1 x0_25 a0_1 x1_43 a1_6 => (cutOf Try.f27 1, ⟨mk 90 [(1, .ref 0 0 0), (2, .row 1 a0_1.length), (4, iI x0_25), (5, .ref 4 0 0), (7, iI (kk : Int)), (8, .row 6 ((((1 : Int) * 2 ^ (min ((kk : Int)).toNat 64))).toNat)), (24, iI (b.days.length : Int)), (25, iI x0_25), (42, iI (((((1 : Int) * 2 ^ (min ((kk : Int)).toNat 64))).toNat) : Int)), (43, iI x1_43)], [.cells (cC b), .rows 91 2 a0_1.length (rowsRev tEntry a0_1), .gone, .gone, .cells [iI ((lookOf b x0_25).b.price), tRoom.lst ((lookOf b x0_25).b.rooms), tDay.lst ((lookOf b x0_25).b.days), tSchool.lst ((lookOf b x0_25).day.schools), iI ((lookOf b x0_25).day.door.seen), iI ((lookOf b x0_25).day.door.miss), tCount.lst ((lookOf b x0_25).day.rooms), iI ((lookOf b x0_25).day.taken), iI ((lookOf b x0_25).off), iI ((lookOf b x0_25).missed)], .gone, .rows 3 1 ((((1 : Int) * 2 ^ (min ((kk : Int)).toNat 64))).toNat) (rowsOf tint a1_6)], []⟩)
  | .l2 x0_25 a0_1 x2_55 c2_4_8 => (cutOf Try.f27 2, ⟨mk 90 [(1, .ref 0 0 0), (2, .row 1 a0_1.length), (4, iI x0_25), (5, .ref 4 0 0), (7, iI (kk : Int)), (24, iI (b.days.length : Int)), (25, iI x0_25), (53, .row 6 ((((1 : Int) * 2 ^ (min ((kk : Int)).toNat 64))).toNat)), (54, iI (((((1 : Int) * 2 ^ (min ((kk : Int)).toNat 64))).toNat) : Int)), (55, iI x2_55)], [.cells (cC b), .rows 91 2 a0_1.length (rowsRev tEntry a0_1), .gone, .gone, .cells [iI ((lookOf b x0_25).b.price), tRoom.lst ((lookOf b x0_25).b.rooms), tDay.lst ((lookOf b x0_25).b.days), tSchool.lst ((lookOf b x0_25).day.schools), iI ((lookOf b x0_25).day.door.seen), iI ((lookOf b x0_25).day.door.miss), tCount.lst ((lookOf b x0_25).day.rooms), iI ((lookOf b x0_25).day.taken), iI c2_4_8, iI ((lookOf b x0_25).missed)], .gone, .rows 3 1 ((((1 : Int) * 2 ^ (min ((kk : Int)).toNat 64))).toNat) (rowsOf tint (ordN ((((1 : Int) * 2 ^ (min ((kk : Int)).toNat 64))).toNat)))], []⟩)
  | .l3 x0_25 x3_69 x3_70 x3_71 a3_1 => (cutOf Try.f27 3, ⟨mk 90 [(1, .ref 0 0 0), (2, .row 1 a3_1.length), (4, iI x0_25), (7, iI (kk : Int)), (24, iI (b.days.length : Int)), (25, iI x0_25), (69, tint.lst x3_69), (70, iI x3_70), (71, iI x3_71)], [.cells (cC b), .rows 91 2 a3_1.length (rowsRev tEntry a3_1)], []⟩)
noncomputable def n33 : R33 → Exit × St
  | .r0 r0 r1 => (.ret, ⟨mk 90 [(2, .row 2 r0.length), (3, iI r1)], [.gone, .gone, .rows 91 2 r0.length (rowsRev tEntry r0)], []⟩)
  | .r1 r0 r1 => (.ret, ⟨mk 90 [(2, .row 1 r0.length), (3, iI r1)], [.gone, .rows 91 2 r0.length (rowsRev tEntry r0)], []⟩)
noncomputable def v33 : R33 → V
  | .r0 r0 r1 => .tuple [tEntry.lst r0.reverse, iI r1]
  | .r1 r0 r1 => .tuple [tEntry.lst r0.reverse, iI r1]
theorem s33 (kk : Nat) (b : Book) : Sm 0 (g33 kk b) (T33 kk b) (n33)
  | .e => ⟨400, by kernel_rfl⟩
  | .l0 _ _ => ⟨400, by kernel_rfl⟩
  | .l1 _ _ _ _ => ⟨400, by kernel_rfl⟩
  | .l2 _ _ _ _ => ⟨400, by kernel_rfl⟩
  | .l3 _ _ _ _ _ => ⟨400, by kernel_rfl⟩
theorem q33 : ∀ r, bodyQ Try.prog Try.f27 (· = v33 r) (n33 r).1 (n33 r).2
  | .r0 r0 r1 => ⟨.inr rfl, by simp [n33], (.tuple [.row 2 r0.length, iI r1]), (.tuple [tEntry.lst r0.reverse, iI r1]), by kernel_rfl, (.tuple rfl fun j hj => match j, hj with | 0, _ => .weak (.row rfl (Nat.le_refl _)) (VLe.rev tEntry r0) | 1, _ => .imm rfl), rfl⟩
  | .r1 r0 r1 => ⟨.inr rfl, by simp [n33], (.tuple [.row 1 r0.length, iI r1]), (.tuple [tEntry.lst r0.reverse, iI r1]), by kernel_rfl, (.tuple rfl fun j hj => match j, hj with | 0, _ => .weak (.row rfl (Nat.le_refl _)) (VLe.rev tEntry r0) | 1, _ => .imm rfl), rfl⟩
theorem w33 (kk : Nat) (b : Book) {post : V → Prop} (h : WQ (T33 kk b) v33 post .e) : PC 27 [.agg (cC b)] post :=
  PCalls.wq Try.func27 (s33 kk b) q33 h
end
noncomputable section
def entriesN (n : Nat) : List Int := -1 :: ((List.range n).map fun (k : Nat) => (k : Int)) ++ [3]
def offN (n : Nat) (l : List Int) : List Int := l.map fun i => (entriesN n).getD i.toNat 0
theorem offOf_eq (b : Book) (l : List Int) : offOf b l = offN b.rooms.length l := rfl
theorem entriesR_eq (b : Book) : entriesR b = entriesN b.rooms.length := rfl
def chkO (n off : Nat) : Bool :=
  (hasN (offN n (listZ off)) (-1) == off.testBit 0) && ((List.range n).all (fun i => hasN (offN n (listZ off)) (i : Int) == off.testBit (i + 1)) && (hasN (offN n (listZ off)) 3 == off.testBit (n + 1)))
theorem allO : (List.range 4).all (fun n => (List.range (2 ^ (n + 2))).all (chkO n)) = true := by kernel_rfl
def chkL (n : Nat) : Bool := ((ordN (2 ^ (n + 2))).map listZ == allP ((n : Int) + 2) (n + 2) ++ [rowN (n + 2)]) && ((ordN (2 ^ (n + 2))).all (fun x => decide (0 ≤ x) && decide (x < 2 ^ (n + 2))) && (offN n (rowN (n + 2)) == entriesN n))
theorem allL : (List.range 4).all chkL = true := by kernel_rfl
theorem same_off {b : Book} {d : Int} (h : OkBook b) (hd : 0 ≤ d ∧ d < b.days.length) {off : Int} (ho : 0 ≤ off ∧ off < 2 ^ (b.rooms.length + 2)) : Same b d (lookM b d off 0) (offOf b (listZ off)) := by
  have hnr := h.nr
  obtain ⟨m, rfl⟩ : ∃ m : Nat, off = m := ⟨off.toNat, by omega⟩
  have hm : m < 2 ^ (b.rooms.length + 2) := by have := ho.2; exact_mod_cast this
  have hc := List.all_eq_true.1 (List.all_eq_true.1 allO b.rooms.length (List.mem_range.2 (by omega))) m (List.mem_range.2 hm)
  simp only [chkO, Bool.and_eq_true, beq_iff_eq] at hc
  obtain ⟨h1, h2, h3⟩ := hc
  rw [offOf_eq]
  have hl := entriesR_eq b
  refine ⟨rfl, rfl, rfl, rfl, rfl, (Int.add_zero _).symm, fun i hi => rfl, fun i hi => (Int.add_zero _).symm, ?_, fun i hi => ?_, ?_⟩
  · rw [h1]; rfl
  · have := List.all_eq_true.1 h2 i (List.mem_range.2 hi)
    simp only [beq_iff_eq] at this
    rw [this]; rfl
  · rw [h3]
    have : (entsR (lookM b d (m : Int) 0)).length = b.rooms.length + 1 := entsR_len _
    unfold ignX
    rw [this]; rfl
theorem pays_off {b : Book} {d : Int} (h : OkBook b) (hd : 0 ≤ d ∧ d < b.days.length) {off : Int} (ho : 0 ≤ off ∧ off < 2 ^ (b.rooms.length + 2)) : paysX (lookM b d off 0) = explainsR b d (offOf b (listZ off)) := (same_explains (same_off h hd ho)).symm
def lastZ (l : List Int) : Int := l.getD (l.length - 1) 0
def offB (b : Book) (d : Int) : Int := match (ordN (2 ^ (b.rooms.length + 2))).find? fun off => paysX (lookM b d off 0) with
  | some off => off
  | none => lastZ (ordN (2 ^ (b.rooms.length + 2)))
theorem find_map {τ υ : Type} (f : τ → υ) (p : υ → Bool) : ∀ l : List τ, (l.map f).find? p = (l.find? (p ∘ f)).map f
  | [] => rfl
  | x :: l => by
    simp only [List.map_cons, List.find?_cons, Function.comp]
    cases p (f x)
    · exact find_map f p l
    · rfl
theorem find_congr {τ : Type} {p q : τ → Bool} : ∀ {l : List τ}, (∀ x ∈ l, p x = q x) → l.find? p = l.find? q
  | [], _ => rfl
  | x :: l, h => by
    simp only [List.find?_cons]
    rw [h x List.mem_cons_self, find_congr fun y hy => h y (List.mem_cons_of_mem _ hy)]
theorem offB_eq {b : Book} {d : Int} (h : OkBook b) (hd : 0 ≤ d ∧ d < b.days.length) : offOf b (listZ (offB b d)) = offR b d := by
  have hnr := h.nr
  have hc := List.all_eq_true.1 allL b.rooms.length (List.mem_range.2 (by omega))
  simp only [chkL, Bool.and_eq_true, beq_iff_eq] at hc
  obtain ⟨h1, h2, h3⟩ := hc
  have hel : (entriesR b).length = b.rooms.length + 2 := by rw [entriesR_eq]; simp [entriesN]
  have hcast : (((entriesR b).length : Nat) : Int) = (b.rooms.length : Int) + 2 := by rw [hel]; rfl
  unfold offR
  rw [hcast, hel]
  generalize hA : allP ((b.rooms.length : Int) + 2) (b.rooms.length + 2) = A at *
  have hin : ∀ off ∈ ordN (2 ^ (b.rooms.length + 2)), 0 ≤ off ∧ off < 2 ^ (b.rooms.length + 2) := fun off ho => by
    have := List.all_eq_true.1 h2 off ho
    simpa using this
  have hP : (ordN (2 ^ (b.rooms.length + 2))).find? (fun off => paysX (lookM b d off 0)) = (ordN (2 ^ (b.rooms.length + 2))).find? ((fun l => explainsR b d (offOf b l)) ∘ listZ) := find_congr fun off ho => pays_off h hd (hin off ho)
  have hfm := find_map listZ (fun l => explainsR b d (offOf b l)) (ordN (2 ^ (b.rooms.length + 2)))
  rw [← hP, h1, List.find?_append] at hfm
  have hlast : listZ (lastZ (ordN (2 ^ (b.rooms.length + 2)))) = rowN (b.rooms.length + 2) := by
    have e1 : ((ordN (2 ^ (b.rooms.length + 2))).map listZ).getD ((ordN (2 ^ (b.rooms.length + 2))).length - 1) (listZ 0) = listZ (lastZ (ordN (2 ^ (b.rooms.length + 2)))) := by
      unfold lastZ
      simp only [List.getD_eq_getElem?_getD, List.getElem?_map]
      cases (ordN (2 ^ (b.rooms.length + 2)))[(ordN (2 ^ (b.rooms.length + 2))).length - 1]? <;> rfl
    have e2 : (ordN (2 ^ (b.rooms.length + 2))).length = A.length + 1 := by
      have := congrArg List.length h1
      simpa using this
    rw [← e1, h1, e2]
    simp [List.getD_eq_getElem?_getD]
  unfold offB
  cases hf : (ordN (2 ^ (b.rooms.length + 2))).find? (fun off => paysX (lookM b d off 0)) with
  | none =>
    rw [hf] at hfm
    simp only [Option.map_none, Option.or_eq_none_iff] at hfm
    rw [hfm.1]
    simp only
    rw [hlast, offOf_eq, h3]; rfl
  | some off =>
    rw [hf] at hfm
    simp only [Option.map_some] at hfm
    cases hg : A.find? (fun l => explainsR b d (offOf b l)) with
    | none =>
      rw [hg] at hfm
      simp only [Option.none_or, List.find?_cons, List.find?_nil] at hfm
      split at hfm
      · simp only [Option.some.injEq] at hfm
        simp only
        rw [← hfm, offOf_eq, h3]; rfl
      · cases hfm
    | some l =>
      rw [hg] at hfm
      simp only [Option.some_or, Option.some.injEq] at hfm
      simp only
      rw [hfm]
end
end Go.Proofs.Ytfgmckfomckliaa
