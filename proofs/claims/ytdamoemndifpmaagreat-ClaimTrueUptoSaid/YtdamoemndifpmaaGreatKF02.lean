/-
  Part of the proof of ClaimTrue. Conditions: those that stand in each theorem.
-/
import Derived.Test.YtdamoemndifpmaaGreatKF01
set_option linter.unusedSimpArgs false
set_option linter.unusedVariables false
set_option maxRecDepth 100000
namespace Go.Proofs.YtdamoemndifpmaaGreat
open Ab Go
noncomputable section
def turnR (l : List Int) (n : Int) : Int := if l.length = 0 then 0 else l.getD (n.tmod (l.length : Int)).toNat 0
def U8 (l : List Int) : Prop := ∀ y ∈ l, 0 ≤ y ∧ y ≤ 255
theorem tmod_in {n : Int} {m : Nat} (hn : 0 ≤ n) (hm : m ≠ 0) : 0 ≤ n.tmod (m : Int) ∧ n.tmod (m : Int) < (m : Int) := by
  rw [Int.tmod_eq_emod_of_nonneg hn]
  exact ⟨Int.emod_nonneg _ (by omega), Int.emod_lt_of_pos _ (by omega)⟩
theorem turn_in {l : List Int} (h : U8 l) {n : Int} (hn : 0 ≤ n) : 0 ≤ turnR l n ∧ turnR l n ≤ 255 := by
  unfold turnR
  split
  · omega
  · rename_i hz
    have := tmod_in hn hz
    exact h _ (getD_mem 0 l (n.tmod (l.length : Int)).toNat (by omega))
inductive P101
  | e
inductive R101
  | r0 (r0 : Int)
noncomputable def T101 (l : List Int) (n : Int) : P101 → Tr P101 R101
  | .e => let c1 := (l.length : Int); let c2 := l.getD ((n.tmod c1)).toNat tu8.zero; (.br (c1 == (0 : Int)) (.out (.r0 0)) (.need (decide (c1 ≠ 0)) (.need (decide (0 ≤ (n.tmod c1)) && decide ((n.tmod c1) < c1)) (.need (inR .i64 c2) (.out (.r0 c2))))))
noncomputable def g101 (l : List Int) (n : Int) : P101 → List Item × St
  | .e => bd Tryz.f101 [tu8.lst l, iI n] 14
noncomputable def n101 : R101 → Exit × St
  | .r0 r0 => (.ret, ⟨mk 16 [(4, iI r0)], [], []⟩)
noncomputable def v101 : R101 → V
  | .r0 r0 => iI r0
theorem s101 (l : List Int) (n : Int) : Sm 0 (g101 l n) (T101 l n) (n101)
  | .e => ⟨400, by kernel_rfl⟩
theorem q101 : ∀ r, bodyQ Tryz.prog Tryz.f101 (· = v101 r) (n101 r).1 (n101 r).2
  | .r0 r0 => bq (iI r0) (by kernel_rfl)
theorem w101 (l : List Int) (n : Int) {post : V → Prop} (h : WQ (T101 l n) v101 post .e) : PC 101 [tu8.lst l, iI n] post :=
  PCalls.wq Tryz.func101 (s101 l n) q101 h
theorem c101 (l : List Int) (n : Int) (h : U8 l) (hn : 0 ≤ n) : PC 101 [tu8.lst l, iI n] (· = iI (turnR l n)) := by
  have hin := turn_in h hn
  by_cases hz : l.length = 0
  · have e : turnR l n = 0 := by unfold turnR; rw [if_pos hz]
    rw [e]
    refine w101 l n (WP.step ?_)
    simp only [T101, Go, Ends', v101, Tr.sure, SS, hz]
    repeat' with_reducible first | intro _ | apply And.intro
  · have hk := tmod_in hn hz
    have e : turnR l n = l.getD (n.tmod (l.length : Int)).toNat 0 := by unfold turnR; rw [if_neg hz]
    rw [e] at hin ⊢
    have hz' : (l.length : Int) ≠ 0 := by omega
    have hr : inR .i64 (l.getD (n.tmod (l.length : Int)).toNat 0) = true := inR64 (by omega) (by omega)
    refine w101 l n (WP.step ?_)
    simp only [T101, Go, Ends', v101, Tr.sure, SS, hz', hk]
    repeat' with_reducible first | intro _ | apply And.intro
    all_goals simp [hr, tu8, Go, Ends', v101, -List.getD_eq_getElem?_getD, *]
def lastT (s : Shop) (la : List Int) (n : Int) (m f : Nat) : Int :=
  (((s.moulds.getD m zMould).lasts).getD f zSpan).lo + (turnR la n).tmod ((((s.moulds.getD m zMould).lasts).getD f zSpan).hi - (((s.moulds.getD m zMould).lasts).getD f zSpan).lo + 1)
def lastRow (s : Shop) (la : List Int) (m n : Nat) : List Int := (List.range n).map fun f => lastT s la ((m * s.features.toNat + f : Nat) : Int) m f
def lastsR (s : Shop) (la : List Int) (n : Nat) : List (List Int) := (List.range n).map fun m => lastRow s la m s.features.toNat
theorem last_in {s : Shop} (h : OkShop s) {la : List Int} (hl : U8 la) {n : Int} (hn : 0 ≤ n) {m f : Nat} (hm : m < s.moulds.length) (hf : f < s.features.toNat) :
    (((s.moulds.getD m zMould).lasts).getD f zSpan).lo ≤ lastT s la n m f ∧ lastT s la n m f ≤ (((s.moulds.getD m zMould).lasts).getD f zSpan).hi ∧ (0 ≤ (((s.moulds.getD m zMould).lasts).getD f zSpan).lo ∧ (((s.moulds.getD m zMould).lasts).getD f zSpan).lo ≤ (((s.moulds.getD m zMould).lasts).getD f zSpan).hi ∧ (((s.moulds.getD m zMould).lasts).getD f zSpan).hi ≤ 6) := by
  obtain ⟨-, h2, h3⟩ := h.mould _ (getD_mem zMould s.moulds m hm)
  have h4 := h3 _ (getD_mem zSpan (s.moulds.getD m zMould).lasts f (by omega))
  have ht := turn_in hl hn
  unfold lastT
  generalize ((s.moulds.getD m zMould).lasts).getD f zSpan = w at *
  obtain ⟨d, hd⟩ : ∃ d : Nat, w.hi - w.lo + 1 = (d : Int) := ⟨(w.hi - w.lo + 1).toNat, by omega⟩
  rw [hd]
  have := tmod_in (m := d) ht.1 (by omega)
  omega
def cutC (l : List Cast) (k : Int) : List Cast := (l.drop ((0 : Int)).toNat).take (k.toNat - ((0 : Int)).toNat) ++ (l.drop (k + 1).toNat).take ((l.length : Int).toNat - (k + 1).toNat)
theorem cut_eq (l : List Cast) {k : Int} (hk : 0 ≤ k ∧ k < l.length) : cutC l k = l.take k.toNat ++ l.drop (k.toNat + 1) := by
  have e : (k + 1).toNat = k.toNat + 1 := by omega
  unfold cutC
  rw [e]
  simp only [Int.toNat_natCast, Int.toNat_zero, Nat.sub_zero, List.drop_zero]
  congr 1
  exact List.take_of_length_le (by simp)
theorem cut_len (l : List Cast) {k : Int} (hk : 0 ≤ k ∧ k < l.length) : (cutC l k).length = l.length - 1 := by
  rw [cut_eq l hk]; simp; omega
def leftN (s : Shop) (ca : List Int) : Nat → List Cast
  | 0 => allCasts s
  | i + 1 => cutC (leftN s ca i) ((turnR ca i).tmod ((leftN s ca i).length : Int))
def castT (s : Shop) (ca : List Int) (i : Nat) : Cast := (leftN s ca i).getD ((turnR ca i).tmod ((leftN s ca i).length : Int)).toNat zCast
def castsT (s : Shop) (ca : List Int) (n : Nat) : List Cast := (List.range n).map (castT s ca)
def showV (c : Cast) (la : List (List Int)) (un : List Int) (i f : Nat) : Int := if (turnR un ((i : Int) * 4 + (f : Int))).tmod 3 = 1 then 0 else if c.number ≤ (la.getD c.mould.toNat []).getD f 0 then 1 else 2
def showsT (c : Cast) (la : List (List Int)) (un : List Int) (i n : Nat) : List Int := (List.range n).map (showV c la un i)
def headT (s : Shop) (la : List (List Int)) (ca un : List Int) (i : Nat) : Head := ⟨(s.heads.getD i zHead).name, showsT (castT s ca i) la un i s.features.toNat⟩
def headsT (s : Shop) (la : List (List Int)) (ca un : List Int) (n : Nat) : List Head := (List.range n).map (headT s la ca un)
def manyT (s : Shop) : Nat := min s.heads.length (allCasts s).length
def told (s : Shop) (x : Past) : Shop × List Cast × List (List Int) :=
  (⟨s.features, s.moulds, headsT s (lastsR s x.lasts s.moulds.length) x.casts x.unread (manyT s)⟩, castsT s x.casts (manyT s), lastsR s x.lasts s.moulds.length)
theorem left_len (s : Shop) {ca : List Int} (h : U8 ca) : ∀ i, i ≤ (allCasts s).length → (leftN s ca i).length = (allCasts s).length - i
  | 0, _ => rfl
  | i + 1, hi => by
    have h1 := left_len s h i (by omega)
    have h2 := tmod_in (m := (leftN s ca i).length) (turn_in h (n := (i : Int)) (by omega)).1 (by omega)
    show (cutC _ _).length = _
    rw [cut_len _ h2, h1]; omega
theorem left_sub (s : Shop) (ca : List Int) : ∀ i, ∀ c ∈ leftN s ca i, c ∈ allCasts s
  | 0, _, h => h
  | i + 1, c, h => by
    refine left_sub s ca i c ?_
    have h' : c ∈ cutC (leftN s ca i) ((turnR ca i).tmod ((leftN s ca i).length : Int)) := h
    unfold cutC at h'
    rcases List.mem_append.1 h' with q | q
    · exact List.mem_of_mem_drop (List.mem_of_mem_take q)
    · exact List.mem_of_mem_drop (List.mem_of_mem_take q)
theorem cast_in (s : Shop) {ca : List Int} (h : U8 ca) {i : Nat} (hi : i < (allCasts s).length) : castT s ca i ∈ leftN s ca i ∧ CastOk s (castT s ca i) := by
  have h1 := left_len s h i (by omega)
  have h2 := tmod_in (m := (leftN s ca i).length) (turn_in h (n := (i : Int)) (by omega)).1 (by omega)
  have h3 := getD_mem zCast (leftN s ca i) ((turnR ca i).tmod ((leftN s ca i).length : Int)).toNat (by omega)
  exact ⟨h3, mem_allCasts.1 (left_sub s ca i _ h3)⟩
inductive P43
  | e
  | l0 (x0_8 : Int) (x0_9 : Int) (a0_3 : List (List Int))
  | l1 (x0_9 : Int) (a0_3 : List (List Int)) (x1_8 : Int) (x1_11 : Int) (a1_4 : List Int)
  | l2 (x2_7 : List (List Int)) (x2_13 : List Cast) (x2_16 : Int) (c2_0_2 : List Head) (a2_4 : List Cast)
  | l3 (x2_7 : List (List Int)) (x2_13 : List Cast) (x2_16 : Int) (c2_0_2 : List Head) (a2_4 : List Cast)
  | l103 (x2_7 : List (List Int)) (x2_13 : List Cast) (x2_16 : Int) (c2_0_2 : List Head) (a2_4 : List Cast) (x103_20 : Int) (a103_9 : List Int)
inductive R43
  | r0 (r0_0 : Int) (r0_1 : List Mould) (r0_2 : List Head) (r1 : List Cast) (r2 : List (List Int))
noncomputable def T43 (s : Shop) (x : Past) : P43 → Tr P43 R43
  | .e => (.wait 4 (.own 7 26 1 (.go (.l0 0 0 ([])))))
  | .l0 x0_8 x0_9 a0_3 => (.br (decide (x0_9 < (s.moulds.length : Int))) (.wait 5 (.own 10 3 1 (.go (.l1 x0_9 a0_3 x0_8 0 ([]))))) (.call 102 [.agg [iI s.features, tMould.lst s.moulds, tHead.lst s.heads]] (tCast.lst (allCasts s)) true true (.wait 2 (.own 14 84 2 (.wait 8 (.frz 3 ((decide (a0_3.length ≤ a0_3.length)) && true) (.vle 7 (.list 1 a0_3.length (rowsRev (tlist tint) a0_3)) ((tlist tint).lst a0_3.reverse) (.telc 0 [iI s.features, tMould.lst s.moulds, .nils] [iI s.features, tMould.lst s.moulds, tHead.lst ([] : List Head)] (.go (.l2 a0_3.reverse (allCasts s) 0 ([] : List Head) ([])))))))))))
  | .l1 x0_9 a0_3 x1_8 x1_11 a1_4 => let c1 := ((s.moulds.getD (x0_9).toNat tMould.zero).lasts).getD (x1_11).toNat tSpan.zero; let c2 := (c1.hi - c1.lo) + (1 : Int); let c3 := c1.lo + ((turnR x.lasts x1_8).tmod c2); (.br (decide (x1_11 < s.features)) (.need (decide (0 ≤ x0_9) && decide (x0_9 < (s.moulds.length : Int))) (.need (decide (0 ≤ x1_11) && decide (x1_11 < (((s.moulds.getD (x0_9).toNat tMould.zero).lasts.length) : Int))) (.front [(6, 101, [tu8.lst x.lasts, iI x1_8], iI (turnR x.lasts x1_8))] [] (((inR .i64 (c1.hi - c1.lo)) && ((inR .i64 c2) && ((decide (c2 ≠ 0)) && ((inR .i64 c3) && true)))) && true) true (.need ((decide (a1_4.length = a1_4.length) && decide (a1_4.length + 1 ≤ 4294967296)) && true) (.scal (fun _ => true) (.need (inR .i64 (x1_8 + (1 : Int))) (.need (inR .i64 (x1_11 + (1 : Int))) (.go (.l1 x0_9 a0_3 (x1_8 + (1 : Int)) (x1_11 + (1 : Int)) (c3 :: a1_4)))))))))) (.wait 1 (.frz 4 ((decide (a1_4.length ≤ a1_4.length)) && true) (.vle 10 (.list 1 a1_4.length (rowsRev tint a1_4)) (tint.lst a1_4.reverse) (.need ((decide (a0_3.length = a0_3.length) && decide (a0_3.length + 1 ≤ 4294967296)) && decide (1 ≤ 1)) (.scal (fun _ => true) (.need (inR .i64 (x0_9 + (1 : Int))) (.telb 5 1 1 (litC 1 1 [tint.lst a1_4.reverse]) (rowsRev (tlist tint) ([a1_4.reverse])) (.go (.l0 x1_8 (x0_9 + (1 : Int)) (a1_4.reverse :: a0_3)))))))))))
  | .l2 x2_7 x2_13 x2_16 c2_0_2 a2_4 => let c3 := (x2_13.length : Int); let c1 := (turnR x.casts x2_16).tmod c3; let c2 := (c1).toNat - ((0 : Int)).toNat; let c4 := c1 + (1 : Int); let c5 : Tr P43 R43 := .out (.r0 s.features s.moulds c2_0_2 a2_4 x2_7); let c6 := (c3).toNat - (c4).toNat; let c7 := x2_16 < (s.heads.length : Int); (.br (decide c7) (.br (decide (c3 > (0 : Int))) (.call 101 [tu8.lst x.casts, iI x2_16] (iI (turnR x.casts x2_16)) true true (.need (decide (c3 ≠ 0)) (.need (decide (0 ≤ c1) && decide (c1 < c3)) (.front [] [] ((((decide (0 ≤ (0 : Int)) && decide ((0 : Int) ≤ c1)) && decide (c1 ≤ c3)) && ((decide (c2 ≤ 4294967296) && (List.range c2).all fun r => (List.range 2).all fun j => ((fun i j => rowsOf tCast x2_13 (((0 : Int)).toNat + i) j) r j).scalar) && ((inR .i64 c4) && (((decide (0 ≤ c4) && decide (c4 ≤ c3)) && decide (c3 ≤ c3)) && true)))) && true) true (.need ((decide (c2 = c2) && decide (c2 + c6 ≤ 4294967296)) && true) (.scal (fun r => (List.range 2).all fun j => ((fun i j => rowsOf tCast x2_13 ((c4).toNat + i) j) r j).scalar) (.telb 6 2 (c2 + c6) (appC c2 (fun i j => rowsOf tCast x2_13 (((0 : Int)).toNat + i) j) (fun i j => rowsOf tCast x2_13 ((c4).toNat + i) j)) (rowsOf tCast (((x2_13.drop (((0 : Int)).toNat)).take c2) ++ ((x2_13.drop ((c4).toNat)).take c6))) (.need (decide (0 ≤ x2_16) && decide c7) (.go (.l3 x2_7 x2_13 x2_16 c2_0_2 a2_4)))))))))) c5) (.lit false c5))
  | .l3 x2_7 x2_13 x2_16 c2_0_2 a2_4 => let c1 := (turnR x.casts x2_16).tmod (x2_13.length : Int); let c4 := ((x2_13.drop (((0 : Int)).toNat)).take ((c1).toNat - ((0 : Int)).toNat)) ++ ((x2_13.drop (((c1 + (1 : Int))).toNat)).take (((x2_13.length : Int)).toNat - ((c1 + (1 : Int))).toNat)); let c5 := x2_13.getD (c1).toNat tCast.zero; let c6 := ((c1).toNat - ((0 : Int)).toNat) + (((x2_13.length : Int)).toNat - ((c1 + (1 : Int))).toNat); let c7 := s.heads.getD (x2_16).toNat tHead.zero; let c8 := (x2_16 * (4 : Int)) + (0 : Int); let c9 := c2_0_2 ++ [(⟨c7.name, []⟩ : Head)]; let c10 := c2_0_2.length + 1; let c11 := ([2] : List Int); let c12 := ([1] : List Int); let c13 := (0 : Int) + (1 : Int); let c14 : List V := [iI (c5.mould), iI (c5.number)]; let c15 : List V := [iI s.features, tMould.lst s.moulds, tHead.lst c2_0_2]; let c16 := turnR x.unread c8; let c17 := x2_7.getD (c5.mould).toNat (tlist tint).zero; let c18 : List V := [.str (c7.name), .nils]; let c19 := (c16.tmod (3 : Int)) == (1 : Int); let c20 := rowsOf tHead c9; let c21 := rowsOf tCast c4; let c2 : List Blk := [.cells c15, .cells [tu8.lst x.lasts, tu8.lst x.casts, tu8.lst x.unread], .cells [iI 0, .nils, .nils], .gone, .rows 84 2 a2_4.length (rowsRev tCast a2_4), .cells c14, .rows 84 2 c6 c21, .cells c18, .gone]; let c22 := inR .i64 (x2_16 * (4 : Int)); let c23 := (decide (c10 ≤ c10)) && true; let c24 := (decide (1 ≤ 1)) && true; let c3 : Tr P43 R43 := .wait 2 (.frz 8 c24 (.wait 0 (.vle 139 (.list 1 1 (litC 1 1 [iI 0])) (tint.lst ([0] : List Int)) (.sem (opAt Tryz.f43 33 4) [(.tmp 137, .nils), (.tmp 139, tint.lst ([0] : List Int))] c2 (.row 9 (([0] : List Int).length)) [.cells c15, .cells [tu8.lst x.lasts, tu8.lst x.casts, tu8.lst x.unread], .cells [iI 0, .nils, .nils], .gone, .rows 84 2 a2_4.length (rowsRev tCast a2_4), .cells c14, .rows 84 2 c6 c21, .cells c18, .gone, .rows 3 1 (([0] : List Int).length) (rowsOf tint ([0] : List Int))] true (.need (inR .i64 c13) (.telb 9 1 (([0] : List Int).length) (rowsOf tint ([0] : List Int)) (rowsRev tint ([0])) (.go (.l103 x2_7 x2_13 x2_16 c2_0_2 a2_4 c13 ([0]))))))))); (.br (decide ((0 : Int) < s.features)) (.front [] [] (((decide (0 ≤ c5.mould) && decide (c5.mould < (x2_7.length : Int))) && ((decide (0 ≤ (0 : Int)) && decide ((0 : Int) < ((c17.length) : Int))) && true)) && true) true (.br (decide (c5.number ≤ (c17.getD ((0 : Int)).toNat tint.zero))) (.need c22 (.need (inR .i64 c8) (.call 101 [tu8.lst x.unread, iI c8] (iI c16) true true (.need (decide ((3 : Int) ≠ 0)) (.br c19 c3 (.wait 2 (.frz 8 c24 (.wait 0 (.vle 139 (.list 1 1 (litC 1 1 [iI 1])) (tint.lst c12) (.sem (opAt Tryz.f43 33 4) [(.tmp 137, .nils), (.tmp 139, tint.lst c12)] c2 (.row 9 (c12.length)) [.cells c15, .cells [tu8.lst x.lasts, tu8.lst x.casts, tu8.lst x.unread], .cells [iI 0, .nils, .nils], .gone, .rows 84 2 a2_4.length (rowsRev tCast a2_4), .cells c14, .rows 84 2 c6 c21, .cells c18, .gone, .rows 3 1 (c12.length) (rowsOf tint c12)] true (.need (inR .i64 c13) (.telb 9 1 (c12.length) (rowsOf tint c12) (rowsRev tint ([1])) (.go (.l103 x2_7 x2_13 x2_16 c2_0_2 a2_4 c13 ([1]))))))))))))))) (.need c22 (.need (inR .i64 c8) (.call 101 [tu8.lst x.unread, iI c8] (iI c16) true true (.need (decide ((3 : Int) ≠ 0)) (.br c19 c3 (.wait 2 (.frz 8 c24 (.wait 0 (.vle 139 (.list 1 1 (litC 1 1 [iI 2])) (tint.lst c11) (.sem (opAt Tryz.f43 33 4) [(.tmp 137, .nils), (.tmp 139, tint.lst c11)] c2 (.row 9 (c11.length)) [.cells c15, .cells [tu8.lst x.lasts, tu8.lst x.casts, tu8.lst x.unread], .cells [iI 0, .nils, .nils], .gone, .rows 84 2 a2_4.length (rowsRev tCast a2_4), .cells c14, .rows 84 2 c6 c21, .cells c18, .gone, .rows 3 1 (c11.length) (rowsOf tint c11)] true (.need (inR .i64 c13) (.telb 9 1 (c11.length) (rowsOf tint c11) (rowsRev tint ([2])) (.go (.l103 x2_7 x2_13 x2_16 c2_0_2 a2_4 c13 ([2]))))))))))))))))) (.front [] [] (((decide (c2_0_2.length ≤ 4294967296) && (List.range c2_0_2.length).all fun r => (List.range 2).all fun j => ((rowsOf tHead c2_0_2) r j).scalar) && true) && true) true (.need ((decide (c2_0_2.length = c2_0_2.length) && decide (c2_0_2.length + 1 ≤ 4294967296)) && true) (.scal (fun _ => true) (.telb 8 2 c10 (appC c2_0_2.length (rowsOf tHead c2_0_2) (litC 2 1 c18)) c20 (.need ((decide (a2_4.length = a2_4.length) && decide (a2_4.length + 1 ≤ 4294967296)) && decide (1 ≤ 1)) (.scal (fun _ => true) (.need (inR .i64 (x2_16 + (1 : Int))) (.frz 6 (((decide (c6 ≤ c6)) && true) && true) (.vle 13 (.list 2 c6 c21) (tCast.lst c4) (.frz 8 (c23 && (c23 && true)) (.vle 148 (.list 2 c10 c20) (tHead.lst c9) (.telc 0 [iI s.features, tMould.lst s.moulds, .list 2 c10 c20] [iI s.features, tMould.lst s.moulds, tHead.lst c9] (.telb 9 2 1 (litC 2 1 c14) (rowsRev tCast ([c5])) (.go (.l2 x2_7 c4 (x2_16 + (1 : Int)) c9 (c5 :: a2_4)))))))))))))))))
  | .l103 x2_7 x2_13 x2_16 c2_0_2 a2_4 x103_20 a103_9 => let c1 := (turnR x.casts x2_16).tmod (x2_13.length : Int); let c2 := ((x2_13.drop (((0 : Int)).toNat)).take ((c1).toNat - ((0 : Int)).toNat)) ++ ((x2_13.drop (((c1 + (1 : Int))).toNat)).take (((x2_13.length : Int)).toNat - ((c1 + (1 : Int))).toNat)); let c3 := (⟨(s.heads.getD (x2_16).toNat tHead.zero).name, a103_9.reverse⟩ : Head); let c4 := (decide (a103_9.length = a103_9.length) && decide (a103_9.length + 1 ≤ 4294967296)) && decide (1 ≤ 1); let c5 := x2_13.getD (c1).toNat tCast.zero; let c6 := (x2_16 * (4 : Int)) + x103_20; let c7 := ((c1).toNat - ((0 : Int)).toNat) + (((x2_13.length : Int)).toNat - ((c1 + (1 : Int))).toNat); let c9 := c2_0_2.length + 1; let c10 := (s.heads.getD (x2_16).toNat tHead.zero).name; let c11 := c2_0_2 ++ [c3]; let c12 := x103_20 + (1 : Int); let c8 : Tr P43 R43 := .need (inR .i64 c12) (.telb 10 1 1 (litC 1 1 [iI 0]) (rowsRev tint ([0])) (.go (.l103 x2_7 x2_13 x2_16 c2_0_2 a2_4 c12 (0 :: a103_9)))); let c13 := turnR x.unread c6; let c14 := x2_7.getD (c5.mould).toNat (tlist tint).zero; let c15 : List V := [.str c10, tint.lst a103_9.reverse]; let c16 := (c13.tmod (3 : Int)) == (1 : Int); let c17 := rowsOf tHead c11; let c18 := inR .i64 (x2_16 * (4 : Int)); let c19 := (decide (c9 ≤ c9)) && true; (.br (decide (x103_20 < s.features)) (.front [] [] (((decide (0 ≤ c5.mould) && decide (c5.mould < (x2_7.length : Int))) && ((decide (0 ≤ x103_20) && decide (x103_20 < ((c14.length) : Int))) && true)) && true) true (.br (decide (c5.number ≤ (c14.getD (x103_20).toNat tint.zero))) (.need c18 (.need (inR .i64 c6) (.call 101 [tu8.lst x.unread, iI c6] (iI c13) true true (.need (decide ((3 : Int) ≠ 0)) (.br c16 (.need c4 (.scal (fun _ => true) c8)) (.need c4 (.scal (fun _ => true) (.need (inR .i64 c12) (.telb 10 1 1 (litC 1 1 [iI 1]) (rowsRev tint ([1])) (.go (.l103 x2_7 x2_13 x2_16 c2_0_2 a2_4 c12 (1 :: a103_9)))))))))))) (.need c18 (.need (inR .i64 c6) (.call 101 [tu8.lst x.unread, iI c6] (iI c13) true true (.need (decide ((3 : Int) ≠ 0)) (.br c16 (.need c4 (.scal (fun _ => true) c8)) (.need c4 (.scal (fun _ => true) (.need (inR .i64 c12) (.telb 10 1 1 (litC 1 1 [iI 2]) (rowsRev tint ([2])) (.go (.l103 x2_7 x2_13 x2_16 c2_0_2 a2_4 c12 (2 :: a103_9)))))))))))))) (.wait 2 (.frz 9 (true && (((decide (a103_9.length ≤ a103_9.length)) && true) && true)) (.telc 7 [.str c10, .list 1 a103_9.length (rowsRev tint a103_9)] c15 (.front [] [] (((decide (c2_0_2.length ≤ 4294967296) && (List.range c2_0_2.length).all fun r => (List.range 2).all fun j => ((rowsOf tHead c2_0_2) r j).scalar) && true) && true) true (.need ((decide (c2_0_2.length = c2_0_2.length) && decide (c2_0_2.length + 1 ≤ 4294967296)) && true) (.scal (fun _ => true) (.telb 10 2 c9 (appC c2_0_2.length (rowsOf tHead c2_0_2) (litC 2 1 c15)) c17 (.need ((decide (a2_4.length = a2_4.length) && decide (a2_4.length + 1 ≤ 4294967296)) && decide (1 ≤ 1)) (.scal (fun _ => true) (.need (inR .i64 (x2_16 + (1 : Int))) (.frz 6 (((decide (c7 ≤ c7)) && true) && true) (.vle 13 (.list 2 c7 (rowsOf tCast c2)) (tCast.lst c2) (.frz 10 (c19 && (c19 && true)) (.vle 148 (.list 2 c9 c17) (tHead.lst c11) (.telc 0 [iI s.features, tMould.lst s.moulds, .list 2 c9 c17] [iI s.features, tMould.lst s.moulds, tHead.lst c11] (.telb 11 2 1 (litC 2 1 [iI (c5.mould), iI (c5.number)]) (rowsRev tCast ([c5])) (.go (.l2 x2_7 c2 (x2_16 + (1 : Int)) c11 (c5 :: a2_4))))))))))))))))))))
noncomputable def g43 (s : Shop) (x : Past) : P43 → List Item × St
  | .e => bd Tryz.f43 [.agg [iI s.features, tMould.lst s.moulds, tHead.lst s.heads], .agg [tu8.lst x.lasts, tu8.lst x.casts, tu8.lst x.unread]] 155
  | .l0 x0_8 x0_9 a0_3 => (cutOf Tryz.f43 0, ⟨mk 157 [(2, .ref 0 0 0), (3, .ref 1 0 0), (4, .ref 2 0 0), (7, .row 3 a0_3.length), (8, iI x0_8), (9, iI x0_9)], [.cells [iI s.features, tMould.lst s.moulds, tHead.lst s.heads], .cells [tu8.lst x.lasts, tu8.lst x.casts, tu8.lst x.unread], .cells [iI 0, .nils, .nils], .rows 26 1 a0_3.length (rowsRev (tlist tint) a0_3)], []⟩)
  | .l1 x0_9 a0_3 x1_8 x1_11 a1_4 => (cutOf Tryz.f43 1, ⟨mk 157 [(2, .ref 0 0 0), (3, .ref 1 0 0), (4, .ref 2 0 0), (7, .row 3 a0_3.length), (8, iI x1_8), (9, iI x0_9), (10, .row 4 a1_4.length), (11, iI x1_11)], [.cells [iI s.features, tMould.lst s.moulds, tHead.lst s.heads], .cells [tu8.lst x.lasts, tu8.lst x.casts, tu8.lst x.unread], .cells [iI 0, .nils, .nils], .rows 26 1 a0_3.length (rowsRev (tlist tint) a0_3), .rows 3 1 a1_4.length (rowsRev tint a1_4)], []⟩)
  | .l2 x2_7 x2_13 x2_16 c2_0_2 a2_4 => (cutOf Tryz.f43 2, ⟨mk 157 [(2, .ref 0 0 0), (3, .ref 1 0 0), (4, .ref 2 0 0), (7, (tlist tint).lst x2_7), (13, tCast.lst x2_13), (14, .row 4 a2_4.length), (15, tHead.lst s.heads), (16, iI x2_16)], [.cells [iI s.features, tMould.lst s.moulds, tHead.lst c2_0_2], .cells [tu8.lst x.lasts, tu8.lst x.casts, tu8.lst x.unread], .cells [iI 0, .nils, .nils], .gone, .rows 84 2 a2_4.length (rowsRev tCast a2_4)], []⟩)
  | .l3 x2_7 x2_13 x2_16 c2_0_2 a2_4 => (cutOf Tryz.f43 3, ⟨mk 157 [(2, .ref 0 0 0), (3, .ref 1 0 0), (4, .ref 2 0 0), (7, (tlist tint).lst x2_7), (13, .row 6 (((((turnR x.casts x2_16).tmod (x2_13.length : Int))).toNat - ((0 : Int)).toNat) + (((x2_13.length : Int)).toNat - ((((turnR x.casts x2_16).tmod (x2_13.length : Int)) + (1 : Int))).toNat))), (14, .row 4 a2_4.length), (15, tHead.lst s.heads), (16, iI x2_16), (18, .ref 5 0 0), (19, .ref 7 0 0), (20, iI 0), (77, tCast.lst x2_13), (78, iI (x2_13.length : Int)), (79, .bool (decide ((x2_13.length : Int) > (0 : Int))))], [.cells [iI s.features, tMould.lst s.moulds, tHead.lst c2_0_2], .cells [tu8.lst x.lasts, tu8.lst x.casts, tu8.lst x.unread], .cells [iI 0, .nils, .nils], .gone, .rows 84 2 a2_4.length (rowsRev tCast a2_4), .cells [iI ((x2_13.getD (((turnR x.casts x2_16).tmod (x2_13.length : Int))).toNat tCast.zero).mould), iI ((x2_13.getD (((turnR x.casts x2_16).tmod (x2_13.length : Int))).toNat tCast.zero).number)], .rows 84 2 (((((turnR x.casts x2_16).tmod (x2_13.length : Int))).toNat - ((0 : Int)).toNat) + (((x2_13.length : Int)).toNat - ((((turnR x.casts x2_16).tmod (x2_13.length : Int)) + (1 : Int))).toNat)) (rowsOf tCast (((x2_13.drop (((0 : Int)).toNat)).take ((((turnR x.casts x2_16).tmod (x2_13.length : Int))).toNat - ((0 : Int)).toNat)) ++ ((x2_13.drop (((((turnR x.casts x2_16).tmod (x2_13.length : Int)) + (1 : Int))).toNat)).take (((x2_13.length : Int)).toNat - ((((turnR x.casts x2_16).tmod (x2_13.length : Int)) + (1 : Int))).toNat)))), .cells [.str ((s.heads.getD (x2_16).toNat tHead.zero).name), .nils]], []⟩)
  | .l103 x2_7 x2_13 x2_16 c2_0_2 a2_4 x103_20 a103_9 => (cutOf Tryz.f43 3, ⟨mk 157 [(2, .ref 0 0 0), (3, .ref 1 0 0), (4, .ref 2 0 0), (7, (tlist tint).lst x2_7), (13, .row 6 (((((turnR x.casts x2_16).tmod (x2_13.length : Int))).toNat - ((0 : Int)).toNat) + (((x2_13.length : Int)).toNat - ((((turnR x.casts x2_16).tmod (x2_13.length : Int)) + (1 : Int))).toNat))), (14, .row 4 a2_4.length), (15, tHead.lst s.heads), (16, iI x2_16), (18, .ref 5 0 0), (19, .ref 7 0 0), (20, iI x103_20), (77, tCast.lst x2_13), (78, iI (x2_13.length : Int)), (79, .bool (decide ((x2_13.length : Int) > (0 : Int))))], [.cells [iI s.features, tMould.lst s.moulds, tHead.lst c2_0_2], .cells [tu8.lst x.lasts, tu8.lst x.casts, tu8.lst x.unread], .cells [iI 0, .nils, .nils], .gone, .rows 84 2 a2_4.length (rowsRev tCast a2_4), .cells [iI ((x2_13.getD (((turnR x.casts x2_16).tmod (x2_13.length : Int))).toNat tCast.zero).mould), iI ((x2_13.getD (((turnR x.casts x2_16).tmod (x2_13.length : Int))).toNat tCast.zero).number)], .rows 84 2 (((((turnR x.casts x2_16).tmod (x2_13.length : Int))).toNat - ((0 : Int)).toNat) + (((x2_13.length : Int)).toNat - ((((turnR x.casts x2_16).tmod (x2_13.length : Int)) + (1 : Int))).toNat)) (rowsOf tCast (((x2_13.drop (((0 : Int)).toNat)).take ((((turnR x.casts x2_16).tmod (x2_13.length : Int))).toNat - ((0 : Int)).toNat)) ++ ((x2_13.drop (((((turnR x.casts x2_16).tmod (x2_13.length : Int)) + (1 : Int))).toNat)).take (((x2_13.length : Int)).toNat - ((((turnR x.casts x2_16).tmod (x2_13.length : Int)) + (1 : Int))).toNat)))), .cells [.str ((s.heads.getD (x2_16).toNat tHead.zero).name), .row 9 a103_9.length], .gone, .rows 3 1 a103_9.length (rowsRev tint a103_9)], []⟩)
noncomputable def n43 : R43 → Exit × St
  | .r0 r0_0 r0_1 r0_2 r1 r2 => (.ret, ⟨mk 157 [(4, .ref 2 0 0), (5, .row 4 r1.length), (6, (tlist tint).lst r2)], [.gone, .gone, .cells [iI r0_0, tMould.lst r0_1, tHead.lst r0_2], .gone, .rows 84 2 r1.length (rowsRev tCast r1)], []⟩)
noncomputable def v43 : R43 → V
  | .r0 r0_0 r0_1 r0_2 r1 r2 => .tuple [.agg [iI r0_0, tMould.lst r0_1, tHead.lst r0_2], tCast.lst r1.reverse, (tlist tint).lst r2]
theorem s43 (s : Shop) (x : Past) : Sm 0 (g43 s x) (T43 s x) (n43)
  | .e => ⟨400, by kernel_rfl⟩
  | .l0 _ _ _ => ⟨400, by kernel_rfl⟩
  | .l1 _ _ _ _ _ => ⟨400, by kernel_rfl⟩
  | .l2 _ _ _ _ _ => ⟨400, by kernel_rfl⟩
  | .l3 _ _ _ _ _ => ⟨400, by kernel_rfl⟩
  | .l103 _ _ _ _ _ _ _ => ⟨400, by kernel_rfl⟩
theorem q43 : ∀ r, bodyQ Tryz.prog Tryz.f43 (· = v43 r) (n43 r).1 (n43 r).2
  | .r0 r0_0 r0_1 r0_2 r1 r2 => ⟨.inr rfl, by simp [n43], (.tuple [.agg [iI r0_0, tMould.lst r0_1, tHead.lst r0_2], .row 4 r1.length, (tlist tint).lst r2]), (.tuple [.agg [iI r0_0, tMould.lst r0_1, tHead.lst r0_2], tCast.lst r1.reverse, (tlist tint).lst r2]), by kernel_rfl, (.tuple rfl fun j hj => match j, hj with | 0, _ => .imm rfl | 1, _ => .weak (.row rfl (Nat.le_refl _)) (VLe.rev tCast r1) | 2, _ => .imm rfl), rfl⟩
theorem w43 (s : Shop) (x : Past) {post : V → Prop} (h : WQ (T43 s x) v43 post .e) : PC 43 [.agg [iI s.features, tMould.lst s.moulds, tHead.lst s.heads], .agg [tu8.lst x.lasts, tu8.lst x.casts, tu8.lst x.unread]] post :=
  PCalls.wq Tryz.func43 (s43 s x) q43 h
theorem sem43 (h : List Blk) (n : Int) : SemOK Tryz.prog (opAt Tryz.f43 33 4) [(.tmp 137, .nils), (.tmp 139, tint.lst ([n] : List Int))] h (.row h.length 1) (h ++ [.rows 3 1 1 (rowsOf tint ([n] : List Int))]) := by
  have e : opAt Tryz.f43 33 4 = .call { callee := .builtin .append, args := #[.tmp 137, .tmp 139], argTypes := #[26, 26] } := by kernel_rfl
  rw [e]
  show SemOK _ _ [(.tmp 137, .nils), (.tmp 139, .list 1 1 (rowsOf tint ([n] : List Int)))] _ _ _
  exact sem_fresh (t := 26) (e := 3) (w2 := 1) (k := 1) (zs := [iI 0]) (by kernel_rfl) (by kernel_rfl) (by kernel_rfl) (by omega) (by kernel_rfl) rfl (by decide +kernel) (by omega) (by omega) fun r hr j hj => by
    obtain rfl : r = 0 := by omega
    obtain rfl : j = 0 := by omega
    rfl
theorem tel_1one (n : Int) (r j : Nat) (hr : r < 1) (hj : j < 1) : VLe (litC 1 1 [iI n] r j) (rowsRev tint [n] r j) := by
  obtain rfl : r = 0 := by omega
  obtain rfl : j = 0 := by omega
  exact VLe.refl _
theorem tel_appH (H : List Head) (nm : ByteArray) (B : List Int) (r j : Nat) (hr : r < H.length + 1) : VLe (appC H.length (rowsOf tHead H) (litC 2 1 [.str nm, tint.lst B]) r j) (rowsOf tHead (H ++ [⟨nm, B⟩]) r j) := VLe.app tHead H ⟨nm, B⟩ rfl hr
theorem rev_int (B : List Int) : VLe (.list 1 B.length (rowsRev tint B)) (tint.lst B.reverse) := VLe.rev tint B
theorem rr_list (B : List (List Int)) : VLe (.list 1 B.reverse.length (rowsRev (tlist tint) B.reverse)) ((tlist tint).lst B) := VLe.rr (tlist tint) B
theorem tel_none (a b : V) (j : Nat) : VLe ([a, b, .nils].getD j uU) ([a, b, tHead.lst []].getD j uU) :=
  match j with
  | 0 => VLe.refl _
  | 1 => VLe.refl _
  | 2 => VLe.nils
  | _ + 3 => VLe.refl _
theorem tel_1rev (n : Int) (r j : Nat) (hr : r < [n].length) (hj : j < 1) : VLe (rowsOf tint [n] r j) (rowsRev tint [n] r j) := by
  have hr' : r < 1 := hr
  obtain rfl : r = 0 := by omega
  obtain rfl : j = 0 := by omega
  exact VLe.refl _
theorem tel_1list (l : List Int) (r j : Nat) (hr : r < 1) (hj : j < 1) : VLe (litC 1 1 [tint.lst l] r j) (rowsRev (tlist tint) [l] r j) := by
  obtain rfl : r = 0 := by omega
  obtain rfl : j = 0 := by omega
  exact VLe.refl _
theorem scal_cut (L : List Cast) (n m : Nat) : ((List.range n).all fun r => (List.range 2).all fun j => (rowsOf tCast L (m + r) j).scalar) = true := by
  rw [List.all_eq_true]; intro r _; rfl
theorem scal_row (L : List Cast) (m : Nat) : ((List.range 2).all fun j => (rowsOf tCast L m j).scalar) = true := rfl
theorem tel_cut (L : List Cast) {k : Int} (hk : 0 ≤ k ∧ k < L.length) (r j : Nat) (hr : r < (k.toNat - Int.toNat 0) + (L.length - (k + 1).toNat)) :
    VLe (appC (k.toNat - Int.toNat 0) (fun i j => rowsOf tCast L (Int.toNat 0 + i) j) (fun i j => rowsOf tCast L ((k + 1).toNat + i) j) r j) (rowsOf tCast (List.take (k.toNat - Int.toNat 0) (List.drop (Int.toNat 0) L) ++ List.take (L.length - (k + 1).toNat) (List.drop (k + 1).toNat L)) r j) := by
  have e : appC (k.toNat - Int.toNat 0) (fun i j => rowsOf tCast L (Int.toNat 0 + i) j) (fun i j => rowsOf tCast L ((k + 1).toNat + i) j) r j = rowsOf tCast (List.take (k.toNat - Int.toNat 0) (List.drop (Int.toNat 0) L) ++ List.take (L.length - (k + 1).toNat) (List.drop (k + 1).toNat L)) r j := by
    simp only [Int.toNat_zero, Nat.sub_zero, List.drop_zero] at hr ⊢
    have hl : (List.take k.toNat L).length = k.toNat := by rw [List.length_take]; omega
    unfold appC rowsOf
    by_cases h : r < k.toNat
    · rw [if_pos h]
      simp only [List.getD_eq_getElem?_getD, Nat.zero_add]
      rw [List.getElem?_append_left (by omega), List.getElem?_take_of_lt h]
    · rw [if_neg h]
      simp only [List.getD_eq_getElem?_getD]
      rw [List.getElem?_append_right (by omega), hl, List.getElem?_take_of_lt (by omega), List.getElem?_drop]
  rw [e]; exact VLe.refl _
theorem tel_1cast (c : Cast) (r j : Nat) (hr : r < 1) (hj : j < 2) : VLe (litC 2 1 [iI c.mould, iI c.number] r j) (rowsRev tCast [c] r j) := by
  obtain rfl : r = 0 := by omega
  rcases show j = 0 ∨ j = 1 by omega with rfl | rfl <;> exact VLe.refl _
theorem tel_head (nm : ByteArray) (B : List Int) (j : Nat) : VLe ([.str nm, .list 1 B.length (rowsRev tint B)].getD j uU) ([.str nm, tint.lst B.reverse].getD j uU) :=
  match j with
  | 0 => VLe.refl _
  | 1 => VLe.rev tint B
  | _ + 2 => VLe.refl _
theorem tel_third {a b c d : V} (h : VLe c d) (j : Nat) : VLe ([a, b, c].getD j uU) ([a, b, d].getD j uU) :=
  match j with
  | 0 => VLe.refl _
  | 1 => VLe.refl _
  | 2 => h
  | _ + 3 => VLe.refl _
theorem scal_heads (l : List Head) : ((List.range l.length).all fun r => (List.range 2).all fun j => (rowsOf tHead l r j).scalar) = true := by
  rw [List.all_eq_true]; intro r _; rfl
theorem w43_1 (s : Shop) (x : Past) (h : OkShop s) (hl : U8 x.lasts) (m : Nat) (hm : m < s.moulds.length) (A : List (List Int)) (n : Nat) (hn : n < s.features.toNat) :
    WP Tryz.prog ⟨none, 0⟩ (T43 s x) (fun y => y = .inl (.l1 (m : Int) A ((m * s.features.toNat + (n + 1) : Nat) : Int) ((n + 1 : Nat) : Int) (lastRow s x.lasts m (n + 1)).reverse)) (.l1 (m : Int) A ((m * s.features.toNat + n : Nat) : Int) (n : Int) (lastRow s x.lasts m n).reverse) := by
  have hF := h.feat
  have hM := h.nm
  have h2 := (h.mould _ (getD_mem zMould s.moulds m hm)).2.1
  have hat : m * s.features.toNat + n ≤ 12 := by
    have : m * s.features.toNat ≤ 1 * s.features.toNat := Nat.mul_le_mul_right _ (by omega)
    omega
  obtain ⟨l1, l2, l3, l4, l5⟩ := last_in h hl (n := ((m * s.features.toNat + n : Nat) : Int)) (by omega) hm hn
  have hk := c101 x.lasts ((m * s.features.toNat + n : Nat) : Int) hl (by omega)
  have hrow : (lastRow s x.lasts m (n + 1)).reverse = lastT s x.lasts ((m * s.features.toNat + n : Nat) : Int) m n :: (lastRow s x.lasts m n).reverse := by
    unfold lastRow; rw [List.range_succ]; simp
  have hlen : (lastRow s x.lasts m n).reverse.length + 1 ≤ 4294967296 := by simp only [lastRow, List.length_reverse, List.length_map, List.length_range]; omega
  rw [hrow]
  have hcast : ((m * s.features.toNat + (n + 1) : Nat) : Int) = ((m * s.features.toNat + n : Nat) : Int) + 1 := by omega
  rw [hcast]
  have hn' : (n : Int) < s.features := by omega
  have hn2 : n < (s.moulds.getD m zMould).lasts.length := by omega
  generalize (lastRow s x.lasts m n).reverse = B at *
  clear hcast hrow
  have hat2 : 0 ≤ ((m * s.features.toNat + n : Nat) : Int) ∧ ((m * s.features.toNat + n : Nat) : Int) ≤ 12 := by omega
  generalize ((m * s.features.toNat + n : Nat) : Int) = at1 at *
  unfold lastT at *
  generalize hw : ((s.moulds.getD m zMould).lasts).getD n zSpan = w at *
  have r1 : inR .i64 (w.hi - w.lo) = true := inR64 (by omega) (by omega)
  have r2 : inR .i64 (w.hi - w.lo + 1) = true := inR64 (by omega) (by omega)
  have r3 : inR .i64 (w.lo + (turnR x.lasts at1).tmod (w.hi - w.lo + 1)) = true := inR64 (by omega) (by omega)
  have r4 : inR .i64 (at1 + 1) = true := inR64 (by omega) (by omega)
  have r5 : inR .i64 ((n : Int) + 1) = true := inR64 (by omega) (by omega)
  have r6 : w.hi - w.lo + 1 ≠ 0 := by omega
  refine WP.once ?_
  simp only [T43, Tr.sure, SS, hn', hn2, hm, r6]
  repeat' with_reducible first | intro _ | apply And.intro
  all_goals first | exact hk | (simp [r1, r2, r3, r4, r5, hlen, hw, Go, Ends', v43, -List.getD_eq_getElem?_getD, *]; done)
theorem w43_3 (s : Shop) (x : Past) (h : OkShop s) (hu : U8 x.unread) (la : List (List Int)) (L : List Cast) (i : Nat) (hi : i < s.heads.length) (H : List Head) (A : List Cast) (c : Cast) (k : Int)
    (hk : (turnR x.casts (i : Int)).tmod (L.length : Int) = k) (hkl : 0 ≤ k ∧ k < L.length) (hc : L.getD k.toNat zCast = c) (h1 : 0 ≤ c.mould ∧ c.mould < la.length) (h2 : ((la.getD c.mould.toNat []).length : Int) = s.features) (hA : A.length ≤ 1000) (hH : H.length ≤ 1000) :
    WP Tryz.prog ⟨none, 0⟩ (T43 s x) (fun y => y = .inl (.l2 la (cutC L k) ((i : Int) + 1) (H ++ [⟨(s.heads.getD i zHead).name, showsT c la x.unread i s.features.toNat⟩]) (c :: A))) (.l3 la L (i : Int) H A) := by
  have hF := h.feat
  have hhd := h.nh
  obtain ⟨F, hFe⟩ : ∃ F : Nat, s.features = F := ⟨s.features.toNat, by omega⟩
  have hFt : s.features.toNat = F := by omega
  rw [hFt]
  have h101 : ∀ f : Int, 0 ≤ f → PC 101 [tu8.lst x.unread, iI ((i : Int) * 4 + f)] (· = iI (turnR x.unread ((i : Int) * 4 + f))) := fun f hf => c101 _ _ hu (by omega)
  have hm2 : ((la.getD c.mould.toNat []).length : Int) = F := by omega
  have r0 : inR .i64 ((i : Int) * 4) = true := inR64 (by omega) (by omega)
  have ri : inR .i64 ((i : Int) + 1) = true := inR64 (by omega) (by omega)
  have hi' : (i : Int) < s.heads.length := by omega
  have hmain : WP Tryz.prog ⟨none, 0⟩ (T43 s x) (fun y => y = .inl (.l2 la (cutC L k) ((i : Int) + 1) (H ++ [⟨(s.heads.getD i zHead).name, showsT c la x.unread i F⟩]) (c :: A))) (.l103 la L (i : Int) H A ((0 : Int) + (1 : Int)) [showV c la x.unread i 0]) := by
    refine WP.run (fun j => .l103 la L (i : Int) H A ((j + 1 : Nat) : Int) (showsT c la x.unread i (j + 1)).reverse) rfl (F - 1) (fun j hj => ?_) ?_
    · have hs : (showsT c la x.unread i (j + 1 + 1)).reverse = showV c la x.unread i (j + 1) :: (showsT c la x.unread i (j + 1)).reverse := by unfold showsT; rw [List.range_succ]; simp
      have hlen : (showsT c la x.unread i (j + 1)).reverse.length + 1 ≤ 4294967296 := by simp only [showsT, List.length_reverse, List.length_map, List.length_range]; omega
      rw [hs]
      generalize (showsT c la x.unread i (j + 1)).reverse = B at *
      obtain ⟨f, hf⟩ : ∃ f, j + 1 = f := ⟨_, rfl⟩
      rw [hf]
      have hcast : ((f + 1 : Nat) : Int) = (f : Int) + 1 := by omega
      rw [hcast]
      have hk1 := h101 (f : Int) (by omega)
      have r1 : inR .i64 ((i : Int) * 4 + (f : Int)) = true := inR64 (by omega) (by omega)
      have r2 : inR .i64 ((f : Int) + 1) = true := inR64 (by omega) (by omega)
      have hfF : (f : Int) < s.features := by omega
      have hf2 : (f : Int) < ((la.getD c.mould.toNat []).length : Int) := by omega
      by_cases q1 : (turnR x.unread ((i : Int) * 4 + (f : Int))).tmod 3 = 1
      · have hv : showV c la x.unread i f = 0 := by unfold showV; rw [if_pos q1]
        rw [hv]
        refine WP.once ?_
        simp only [T43, Tr.sure, SS, hk, hc, z5, z1, z6, hfF, h1, hf2, q1]
        repeat' with_reducible first | intro _ | apply And.intro
        all_goals first | exact hk1 | exact (by with_reducible exact tel_1one _ _ _ ‹_› ‹_›) | (simp [r0, r1, r2, hlen, q1, Go, Ends', v43, -List.getD_eq_getElem?_getD, *]; done)
      · by_cases q2 : c.number ≤ (la.getD c.mould.toNat []).getD f 0
        · have hv : showV c la x.unread i f = 1 := by unfold showV; rw [if_neg q1, if_pos q2]
          rw [hv]
          refine WP.once ?_
          simp only [T43, Tr.sure, SS, hk, hc, z5, z1, z6, hfF, h1, hf2, q1, q2]
          repeat' with_reducible first | intro _ | apply And.intro
          all_goals first | exact hk1 | exact (by with_reducible exact tel_1one _ _ _ ‹_› ‹_›) | (simp [r0, r1, r2, hlen, q1, q2, Go, Ends', v43, -List.getD_eq_getElem?_getD, *]; done)
        · have hv : showV c la x.unread i f = 2 := by unfold showV; rw [if_neg q1, if_neg q2]
          rw [hv]
          refine WP.once ?_
          simp only [T43, Tr.sure, SS, hk, hc, z5, z1, z6, hfF, h1, hf2, q1, q2]
          repeat' with_reducible first | intro _ | apply And.intro
          all_goals first | exact hk1 | exact (by with_reducible exact tel_1one _ _ _ ‹_› ‹_›) | (simp [r0, r1, r2, hlen, q1, q2, Go, Ends', v43, -List.getD_eq_getElem?_getD, *]; done)
    · have e : F - 1 + 1 = F := by omega
      rw [e]
      have hlen : (showsT c la x.unread i F).reverse.length ≤ 4294967296 := by simp only [showsT, List.length_reverse, List.length_map, List.length_range]; omega
      have hrr : (showsT c la x.unread i F).reverse.reverse = showsT c la x.unread i F := List.reverse_reverse _
      have hno : ¬ (F : Int) < s.features := by omega
      have hA1 : A.length + 1 ≤ 4294967296 := by omega
      have hH1 : H.length + 1 ≤ 4294967296 := by omega
      have hH2 : H.length ≤ 4294967296 := by omega
      generalize showsT c la x.unread i F = S at *
      generalize S.reverse = B at *
      subst hrr
      have hcut : ∀ K, K = k.toNat - Int.toNat 0 + (L.length - (k + 1).toNat) → VLe (.list 2 K (rowsOf tCast (List.take (k.toNat - Int.toNat 0) (List.drop (Int.toNat 0) L) ++ List.take (L.length - (k + 1).toNat) (List.drop (k + 1).toNat L)))) (tCast.lst (List.take (k.toNat - Int.toNat 0) (List.drop (Int.toNat 0) L) ++ List.take (L.length - (k + 1).toNat) (List.drop (k + 1).toNat L))) := fun K hK =>
        tel_one tCast _ (by subst hK; simp only [List.length_append, List.length_take, List.length_drop]; omega)
      have hH3 : ∀ y : Head, VLe (.list 2 (H.length + 1) (rowsOf tHead (H ++ [y]))) (tHead.lst (H ++ [y])) := fun y => tel_one tHead _ (by simp)
      refine WP.once ?_
      simp only [T43, Tr.sure, SS, hk, hc, z5, z1, z6, z3, hno, hi']
      repeat' with_reducible first | intro _ | apply And.intro
      all_goals first | exact (by with_reducible exact tel_head _ _ _) | exact (by with_reducible exact scal_heads _) | exact (by with_reducible exact tel_appH _ _ _ _ _ ‹_›) | exact (by with_reducible exact hcut _ rfl) | exact (by with_reducible exact hH3 _) | exact (by with_reducible exact tel_third (hH3 _) _) | exact (by with_reducible exact tel_1cast _ _ _ ‹_› ‹_›) | (simp [r0, ri, hlen, hA1, hH1, hH2, cutC, Go, Ends', v43, -List.getD_eq_getElem?_getD, *]; done)
  have hk1 := h101 0 (by omega)
  have r1 : inR .i64 ((i : Int) * 4 + 0) = true := inR64 (by omega) (by omega)
  have hf0 : (0 : Int) < s.features := by omega
  have hf2 : (0 : Int) < ((la.getD c.mould.toNat []).length : Int) := by omega
  have r01 : inR .i64 ((0 : Int) + 1) = true := by decide
  by_cases q1 : (turnR x.unread ((i : Int) * 4 + 0)).tmod 3 = 1
  · have hv : showV c la x.unread i 0 = 0 := by show (if (turnR x.unread ((i : Int) * 4 + 0)).tmod 3 = 1 then (0 : Int) else if c.number ≤ (la.getD c.mould.toNat []).getD 0 0 then 1 else 2) = _; rw [if_pos q1]
    rw [hv] at hmain
    refine WP.step ?_
    simp only [T43, Go, Ends', v43, Tr.sure, SS, hk, hc, z5, z1, z6, hf0, h1, hf2, q1]
    repeat' with_reducible first | intro _ | apply And.intro
    all_goals first | exact hk1 | exact (by with_reducible exact VLe.lit1 _) | exact (by with_reducible exact tel_1rev _ _ _ ‹_› ‹_›) | exact (by with_reducible exact r01) | exact (sem43 _ _) | exact hmain | (simp [r0, r1, Go, Ends', v43, -List.getD_eq_getElem?_getD, *]; done)
  · by_cases q2 : c.number ≤ (la.getD c.mould.toNat []).getD 0 0
    · have q2' : c.number ≤ (la.getD c.mould.toNat []).getD (Int.toNat 0) 0 := q2
      have hv : showV c la x.unread i 0 = 1 := by show (if (turnR x.unread ((i : Int) * 4 + 0)).tmod 3 = 1 then (0 : Int) else if c.number ≤ (la.getD c.mould.toNat []).getD 0 0 then 1 else 2) = _; rw [if_neg q1, if_pos q2]
      rw [hv] at hmain
      refine WP.step ?_
      simp only [T43, Go, Ends', v43, Tr.sure, SS, hk, hc, z5, z1, z6, hf0, h1, hf2, q1, q2']
      repeat' with_reducible first | intro _ | apply And.intro
      all_goals first | exact hk1 | exact (by with_reducible exact VLe.lit1 _) | exact (by with_reducible exact tel_1rev _ _ _ ‹_› ‹_›) | exact (by with_reducible exact r01) | exact (sem43 _ _) | exact hmain | (simp [r0, r1, Go, Ends', v43, -List.getD_eq_getElem?_getD, *]; done)
    · have q2' : ¬ c.number ≤ (la.getD c.mould.toNat []).getD (Int.toNat 0) 0 := q2
      have hv : showV c la x.unread i 0 = 2 := by show (if (turnR x.unread ((i : Int) * 4 + 0)).tmod 3 = 1 then (0 : Int) else if c.number ≤ (la.getD c.mould.toNat []).getD 0 0 then 1 else 2) = _; rw [if_neg q1, if_neg q2]
      rw [hv] at hmain
      refine WP.step ?_
      simp only [T43, Go, Ends', v43, Tr.sure, SS, hk, hc, z5, z1, z6, hf0, h1, hf2, q1, q2']
      repeat' with_reducible first | intro _ | apply And.intro
      all_goals first | exact hk1 | exact (by with_reducible exact VLe.lit1 _) | exact (by with_reducible exact tel_1rev _ _ _ ‹_› ‹_›) | exact (by with_reducible exact r01) | exact (sem43 _ _) | exact hmain | (simp [r0, r1, Go, Ends', v43, -List.getD_eq_getElem?_getD, *]; done)
theorem c43 (s : Shop) (x : Past) (h : OkShop s) (h1 : U8 x.lasts) (h2 : U8 x.casts) (h3 : U8 x.unread) : PC 43 [.agg (tShop.cells s), .agg [tu8.lst x.lasts, tu8.lst x.casts, tu8.lst x.unread]] (· = .tuple [.agg (tShop.cells (told s x).1), tCast.lst (told s x).2.1, (tlist tint).lst (told s x).2.2]) := by
  have hF := h.feat
  have hM := h.nm
  have hH := h.nh
  refine w43 s x (WP.step ?_)
  simp only [T43, Go, Ends', v43, Tr.sure, SS]
  repeat' with_reducible first | intro _ | apply And.intro
  refine WP.run (fun m => .l0 ((m * s.features.toNat : Nat) : Int) (m : Int) (lastsR s x.lasts m).reverse) (by simp [lastsR]) s.moulds.length (fun m hm => ?_) ?_
  · have r1 : inR .i64 ((m : Int) + 1) = true := inR64 (by omega) (by omega)
    have hm' : (m : Int) < s.moulds.length := by omega
    have hrow : (lastsR s x.lasts (m + 1)).reverse = lastRow s x.lasts m s.features.toNat :: (lastsR s x.lasts m).reverse := by unfold lastsR; rw [List.range_succ]; simp
    have hlen : (lastsR s x.lasts m).reverse.length + 1 ≤ 4294967296 := by simp only [lastsR, List.length_reverse, List.length_map, List.length_range]; omega
    rw [hrow]
    generalize (lastsR s x.lasts m).reverse = A at *
    have hmain : WP Tryz.prog ⟨none, 0⟩ (T43 s x) (fun y => y = .inl (.l0 (((m + 1) * s.features.toNat : Nat) : Int) ((m + 1 : Nat) : Int) (lastRow s x.lasts m s.features.toNat :: A))) (.l1 (m : Int) A ((m * s.features.toNat : Nat) : Int) 0 []) := by
      refine WP.run (fun n => .l1 (m : Int) A ((m * s.features.toNat + n : Nat) : Int) (n : Int) (lastRow s x.lasts m n).reverse) rfl s.features.toNat (fun n hn => w43_1 s x h h1 m hm A n hn) ?_
      have hno : ¬ ((s.features.toNat : Nat) : Int) < s.features := by omega
      have hrr : (lastRow s x.lasts m s.features.toNat).reverse.reverse = lastRow s x.lasts m s.features.toNat := List.reverse_reverse _
      have hlen2 : (lastRow s x.lasts m s.features.toNat).reverse.length ≤ 4294967296 := by simp only [lastRow, List.length_reverse, List.length_map, List.length_range]; omega
      have hmul : (m + 1) * s.features.toNat = m * s.features.toNat + s.features.toNat := Nat.succ_mul _ _
      rw [hmul]
      generalize m * s.features.toNat + s.features.toNat = at1 at *
      generalize lastRow s x.lasts m s.features.toNat = R at *
      generalize R.reverse = B at *
      subst hrr
      refine WP.once ?_
      simp only [T43, Tr.sure, SS, hno]
      repeat' with_reducible first | intro _ | apply And.intro
      all_goals first | exact (by with_reducible exact rev_int _) | exact (by with_reducible exact tel_1list _ _ _ ‹_› ‹_›) | (simp [r1, hlen, hlen2, Go, Ends', v43, -List.getD_eq_getElem?_getD, *]; done)
    refine WP.step ?_
    simp only [T43, Go, Ends', v43, Tr.sure, SS, hm']
    repeat' with_reducible first | intro _ | apply And.intro
    all_goals exact hmain
  · have hno : ¬ (s.moulds.length : Int) < (s.moulds.length : Int) := Int.lt_irrefl _
    have hrr : (lastsR s x.lasts s.moulds.length).reverse.reverse = lastsR s x.lasts s.moulds.length := List.reverse_reverse _
    have hlen : (lastsR s x.lasts s.moulds.length).reverse.length ≤ 4294967296 := by simp only [lastsR, List.length_reverse, List.length_map, List.length_range]; omega
    have h102 := c102 s h
    have hmain : WP Tryz.prog ⟨none, 0⟩ (T43 s x) (Ends' fun r => v43 r = .tuple [.agg (tShop.cells (told s x).1), tCast.lst (told s x).2.1, (tlist tint).lst (told s x).2.2]) (.l2 (lastsR s x.lasts s.moulds.length) (allCasts s) 0 [] []) := by
      refine WP.run (fun i => .l2 (lastsR s x.lasts s.moulds.length) (leftN s x.casts i) (i : Int) (headsT s (lastsR s x.lasts s.moulds.length) x.casts x.unread i) (castsT s x.casts i).reverse) rfl (manyT s) (fun i hi => ?_) ?_
      · have hi1 : i < s.heads.length := by unfold manyT at hi; omega
        have hi2 : i < (allCasts s).length := by unfold manyT at hi; omega
        have hleft := left_len s h2 i (by omega)
        obtain ⟨hcm, hok⟩ := cast_in s h2 hi2
        have hca : (castsT s x.casts (i + 1)).reverse = castT s x.casts i :: (castsT s x.casts i).reverse := by unfold castsT; rw [List.range_succ]; simp
        have hhe : headsT s (lastsR s x.lasts s.moulds.length) x.casts x.unread (i + 1) = headsT s (lastsR s x.lasts s.moulds.length) x.casts x.unread i ++ [headT s (lastsR s x.lasts s.moulds.length) x.casts x.unread i] := by unfold headsT; rw [List.range_succ]; simp
        have hcl : (castsT s x.casts i).reverse.length ≤ 1000 := by simp only [castsT, List.length_reverse, List.length_map, List.length_range]; omega
        have hhl : (headsT s (lastsR s x.lasts s.moulds.length) x.casts x.unread i).length ≤ 1000 := by simp only [headsT, List.length_map, List.length_range]; omega
        have hlm : (lastsR s x.lasts s.moulds.length).length = s.moulds.length := by simp [lastsR]
        have hlf : (((lastsR s x.lasts s.moulds.length).getD (castT s x.casts i).mould.toNat []).length : Int) = s.features := by
          have : (castT s x.casts i).mould.toNat < s.moulds.length := by have := hok.1; have := hok.2.1; omega
          simp only [lastsR, List.getD_eq_getElem?_getD, List.getElem?_map, List.getElem?_range this, Option.map_some, Option.getD_some, lastRow, List.length_map, List.length_range]; omega
        have hsub : leftN s x.casts (i + 1) = cutC (leftN s x.casts i) ((turnR x.casts (i : Int)).tmod ((leftN s x.casts i).length : Int)) := rfl
        have hk := tmod_in (m := (leftN s x.casts i).length) (turn_in h2 (n := (i : Int)) (by omega)).1 (by omega)
        have hc8 : (allCasts s).length ≤ 8 := allCasts_le h
        have hw3 := w43_3 s x h h3 (lastsR s x.lasts s.moulds.length) (leftN s x.casts i) i hi1 (headsT s (lastsR s x.lasts s.moulds.length) x.casts x.unread i) (castsT s x.casts i).reverse (castT s x.casts i) _ rfl hk rfl (by rw [hlm]; exact ⟨hok.1, hok.2.1⟩) hlf hcl hhl
        rw [hca, hhe, hsub]
        have hh : headT s (lastsR s x.lasts s.moulds.length) x.casts x.unread i = ⟨(s.heads.getD i zHead).name, showsT (castT s x.casts i) (lastsR s x.lasts s.moulds.length) x.unread i s.features.toNat⟩ := rfl
        rw [hh]
        have h101 := c101 x.casts (i : Int) h2 (by omega)
        have hi3 : (i : Int) < s.heads.length := by omega
        generalize leftN s x.casts i = L at *
        generalize headsT s (lastsR s x.lasts s.moulds.length) x.casts x.unread i = H at *
        generalize (castsT s x.casts i).reverse = A at *
        generalize hke : (turnR x.casts (i : Int)).tmod (L.length : Int) = k at *
        have hL0 : (L.length : Int) > 0 := by omega
        have hL1 : (L.length : Int) ≠ 0 := by omega
        have r1 : inR .i64 (k + 1) = true := inR64 (by omega) (by omega)
        have hcast : ((i + 1 : Nat) : Int) = (i : Int) + 1 := by omega
        rw [hcast]
        have b1 : k ≤ (L.length : Int) := by omega
        have b2 : 0 ≤ k + 1 := by omega
        have b3 : k + 1 ≤ (L.length : Int) := by omega
        have b4 : k.toNat - Int.toNat 0 ≤ 4294967296 := by omega
        have b5 : k.toNat - Int.toNat 0 + (L.length - (k + 1).toNat) ≤ 4294967296 := by omega
        have b6 : L.length - (k + 1).toNat ≤ 4294967296 := by omega
        refine WP.step ?_
        simp only [T43, Go, Ends', v43, Tr.sure, SS, hi3, hL0, hL1, hke, hk, b1, b2, b3]
        repeat' with_reducible first | intro _ | apply And.intro
        all_goals first | exact h101 | exact (by with_reducible exact scal_cut _ _ _) | exact (by with_reducible exact scal_row _ _) | exact (by with_reducible exact tel_cut _ hk _ _ ‹_›) | exact hw3 | (simp [r1, b4, b5, b6, Go, Ends', v43, -List.getD_eq_getElem?_getD, *]; done) | (simp_all [r1, b4, b5, b6, Go, Ends', v43, -List.getD_eq_getElem?_getD]; done)
      · have hrr : (castsT s x.casts (manyT s)).reverse.reverse = castsT s x.casts (manyT s) := List.reverse_reverse _
        have hleft := left_len s h2 (manyT s) (by unfold manyT; omega)
        have htold : told s x = (⟨s.features, s.moulds, headsT s (lastsR s x.lasts s.moulds.length) x.casts x.unread (manyT s)⟩, castsT s x.casts (manyT s), lastsR s x.lasts s.moulds.length) := rfl
        rw [htold]
        by_cases q : (manyT s : Int) < s.heads.length
        · have hL : ¬ 0 < ((leftN s x.casts (manyT s)).length : Int) := by unfold manyT at *; omega
          refine WP.step ?_
          simp only [T43, Go, Ends', v43, Tr.sure, SS, q, hL]
          repeat' with_reducible first | intro _ | apply And.intro
          all_goals simp [hrr, tShop, Go, Ends', v43, -List.getD_eq_getElem?_getD, *]
        · refine WP.step ?_
          simp only [T43, Go, Ends', v43, Tr.sure, SS, q]
          repeat' with_reducible first | intro _ | apply And.intro
          all_goals simp [hrr, tShop, Go, Ends', v43, -List.getD_eq_getElem?_getD, *]
    refine WP.step ?_
    simp only [T43, Go, Ends', v43, Tr.sure, SS, hno, hrr]
    repeat' with_reducible first | intro _ | apply And.intro
    all_goals first | exact h102 | exact (by with_reducible exact rr_list _) | exact (by with_reducible exact tel_none _ _ _) | exact hmain | (simp [hlen, Go, Ends', v43, -List.getD_eq_getElem?_getD, *]; done)
end
noncomputable section
theorem hasZ_test : ∀ n : Nat, n < 32 → ∀ i : Nat, i < 6 → hasZ (n : Int) (i : Int) = n.testBit i := by decide +kernel
theorem hasZ_mask {p : Nat → Bool} {n i : Nat} (hn : n ≤ 5) (hi : i < n) : hasZ (maskTo p n) (i : Int) = p i := by
  have h := mN_lt p n
  have h2 : 2 ^ n ≤ 2 ^ 5 := Nat.pow_le_pow_right (by omega) hn
  rw [mask_mN, hasZ_test _ (by omega) i (by omega), mN_test]
  simp [hi]
theorem nodup_le : ∀ {l m : List Cast}, l.Nodup → (∀ c ∈ l, c ∈ m) → l.length ≤ m.length
  | [], _, _, _ => Nat.zero_le _
  | x :: xs, m, hn, hs => by
    have hx : x ∈ m := hs x (by simp)
    rw [List.nodup_cons] at hn
    have h1 : ∀ c ∈ xs, c ∈ m.erase x := fun c hc => (List.mem_erase_of_ne (show c ≠ x from fun e => hn.1 (by rw [← e]; exact hc))).2 (hs c (by simp [hc]))
    have h2 := nodup_le hn.2 h1
    rw [List.length_erase_of_mem hx] at h2
    have := List.length_pos_of_mem hx
    simp only [List.length_cons]; omega
theorem dup_nodup {l : List Cast} (h : dup l = false) : l.Nodup := by
  unfold List.Nodup
  rw [List.pairwise_iff_getElem]
  intro i j hi hj hij e
  have : dup l = true := by
    unfold dup
    refine List.any_eq_true.2 ⟨j, List.mem_range.2 hj, List.any_eq_true.2 ⟨i, List.mem_range.2 hij, sameC_iff.2 ?_⟩⟩
    simp only [List.getD_eq_getElem?_getD, List.getElem?_eq_getElem hi, List.getElem?_eq_getElem hj, Option.getD_some, e, and_self]
  rw [this] at h; cases h
theorem dup_no {l : List Cast} (h : ∀ k i, k < i → i < l.length → l.getD i zCast ≠ l.getD k zCast) : dup l = false := by
  cases hd : dup l with
  | false => rfl
  | true =>
    exfalso
    unfold dup at hd
    obtain ⟨i, hi, hd⟩ := List.any_eq_true.1 hd
    obtain ⟨k, hk, hd⟩ := List.any_eq_true.1 hd
    rw [List.mem_range] at hi hk
    have := sameC_iff.1 hd
    refine h k i hk hi ?_
    generalize l.getD i zCast = a at *
    generalize l.getD k zCast = b at *
    cases a; cases b; simp_all
theorem all_nodup (s : Shop) : (allCasts s).Nodup := by
  unfold allCasts
  generalize s.moulds.length = M
  induction M with
  | zero => simp
  | succ M ih =>
    rw [List.range_succ, List.flatMap_append]
    rw [List.nodup_append]
    refine ⟨ih, ?_, ?_⟩
    · simp only [List.flatMap_cons, List.flatMap_nil, List.append_nil, castsAt]
      unfold List.Nodup
      rw [List.pairwise_map]
      refine List.Pairwise.imp ?_ List.nodup_range
      intro a b hab e
      simp only [Cast.mk.injEq] at e
      omega
    · intro a ha b hb e
      simp only [castsAt, List.mem_flatMap, List.mem_range, List.mem_map, List.mem_singleton] at ha hb
      obtain ⟨i, hi, n, hn, rfl⟩ := ha
      obtain ⟨j, rfl, m, hm, rfl⟩ := hb
      simp only [Cast.mk.injEq] at e
      omega
theorem cut_erase (l : List Cast) {k : Int} (hk : 0 ≤ k ∧ k < l.length) : cutC l k = l.eraseIdx k.toNat := by rw [cut_eq l hk, List.eraseIdx_eq_take_drop_succ]
theorem left_nodup (s : Shop) {ca : List Int} (h : U8 ca) : ∀ i, i ≤ (allCasts s).length → (leftN s ca i).Nodup
  | 0, _ => all_nodup s
  | i + 1, hi => by
    have h0 := left_nodup s h i (by omega)
    have h1 := left_len s h i (by omega)
    have h2 := tmod_in (m := (leftN s ca i).length) (turn_in h (n := (i : Int)) (by omega)).1 (by omega)
    show (cutC _ _).Nodup
    rw [cut_erase _ h2]
    exact h0.sublist (List.eraseIdx_sublist _ _)
theorem cast_gone (s : Shop) {ca : List Int} (h : U8 ca) {i : Nat} (hi : i < (allCasts s).length) : castT s ca i ∉ leftN s ca (i + 1) := by
  have h0 := left_nodup s h i (by omega)
  have h1 := left_len s h i (by omega)
  have h2 := tmod_in (m := (leftN s ca i).length) (turn_in h (n := (i : Int)) (by omega)).1 (by omega)
  show _ ∉ cutC _ _
  rw [cut_erase _ h2]
  unfold castT
  generalize leftN s ca i = l at *
  generalize (turnR ca (i : Int)).tmod (l.length : Int) = k at *
  intro hm
  rw [List.mem_eraseIdx_iff_getElem] at hm
  obtain ⟨j, hj, hne, he⟩ := hm
  have hk : k.toNat < l.length := by omega
  rw [List.getD_eq_getElem?_getD, List.getElem?_eq_getElem hk, Option.getD_some] at he
  unfold List.Nodup at h0
  rw [List.pairwise_iff_getElem] at h0
  rcases Nat.lt_or_gt_of_ne hne with q | q
  · exact h0 _ _ hj hk q he
  · exact h0 _ _ hk hj q he.symm
theorem left_mono (s : Shop) (ca : List Int) {i : Nat} : ∀ d, ∀ c ∈ leftN s ca (i + d), c ∈ leftN s ca i
  | 0, _, h => h
  | d + 1, c, h => by
    refine left_mono s ca d c ?_
    have h' : c ∈ cutC (leftN s ca (i + d)) ((turnR ca ((i + d : Nat) : Int)).tmod ((leftN s ca (i + d)).length : Int)) := h
    unfold cutC at h'
    rcases List.mem_append.1 h' with q | q
    · exact List.mem_of_mem_drop (List.mem_of_mem_take q)
    · exact List.mem_of_mem_drop (List.mem_of_mem_take q)
theorem cast_ne (s : Shop) {ca : List Int} (h : U8 ca) {i k : Nat} (hk : k < i) (hi : i < (allCasts s).length) : castT s ca i ≠ castT s ca k := fun e => by
  have h1 := cast_gone s h (i := k) (by omega)
  have h2 := (cast_in s h hi).1
  rw [e] at h2
  refine h1 (left_mono s ca (i - (k + 1)) _ ?_)
  rwa [show k + 1 + (i - (k + 1)) = i by omega]
theorem casts_get (s : Shop) (ca : List Int) {n i : Nat} (hi : i < n) : (castsT s ca n).getD i zCast = castT s ca i := by
  simp only [castsT, List.getD_eq_getElem?_getD, List.getElem?_map, List.getElem?_range hi, Option.map_some, Option.getD_some]
theorem heads_get (s : Shop) (la : List (List Int)) (ca un : List Int) {n i : Nat} (hi : i < n) : (headsT s la ca un n).getD i zHead = headT s la ca un i := by
  simp only [headsT, List.getD_eq_getElem?_getD, List.getElem?_map, List.getElem?_range hi, Option.map_some, Option.getD_some]
theorem shows_get (c : Cast) (la : List (List Int)) (un : List Int) (i : Nat) {n f : Nat} (hf : f < n) : (showsT c la un i n).getD f 0 = showV c la un i f := by
  simp only [showsT, List.getD_eq_getElem?_getD, List.getElem?_map, List.getElem?_range hf, Option.map_some, Option.getD_some]
theorem show_in (c : Cast) (la : List (List Int)) (un : List Int) (i f : Nat) : 0 ≤ showV c la un i f ∧ showV c la un i f ≤ 2 := by
  unfold showV; split
  · omega
  · split <;> omega
theorem lasts_get (s : Shop) (la : List Int) {m : Nat} (hm : m < s.moulds.length) : (lastsR s la s.moulds.length).getD m [] = lastRow s la m s.features.toNat := by
  simp only [lastsR, List.getD_eq_getElem?_getD, List.getElem?_map, List.getElem?_range hm, Option.map_some, Option.getD_some]
theorem row_get (s : Shop) (la : List Int) (m : Nat) {f : Nat} (hf : f < s.features.toNat) : (lastRow s la m s.features.toNat).getD f 0 = lastT s la ((m * s.features.toNat + f : Nat) : Int) m f := by
  simp only [lastRow, List.getD_eq_getElem?_getD, List.getElem?_map, List.getElem?_range hf, Option.map_some, Option.getD_some]
def lastL (s : Shop) (x : Past) (m f : Int) : Int := ((lastsR s x.lasts s.moulds.length).getD m.toNat []).getD f.toNat 0
theorem lastL_in {s : Shop} (h : OkShop s) {x : Past} (hl : U8 x.lasts) {m f : Int} (hm : 0 ≤ m ∧ m < s.moulds.length) (hf : 0 ≤ f ∧ f < s.features) : (span0 s m f).lo ≤ lastL s x m f ∧ lastL s x m f ≤ (span0 s m f).hi := by
  unfold lastL span0
  rw [lasts_get s x.lasts (by omega), row_get s x.lasts m.toNat (by omega)]
  have := last_in h hl (n := ((m.toNat * s.features.toNat + f.toNat : Nat) : Int)) (by omega) (m := m.toNat) (f := f.toNat) (by omega) (by omega)
  exact ⟨this.1, this.2.1⟩
theorem told_narrow {s : Shop} (h : OkShop s) {x : Past} (hl : U8 x.lasts) {n : Nat} {m f : Int} (hm : 0 ≤ m ∧ m < s.moulds.length) (hf : 0 ≤ f ∧ f < s.features) {k : Nat} (hk : k ≤ n) (hn : n ≤ manyT s) : ∀ j, j ≤ k →
    (lastTo (told s x).1 (castsT s x.casts k) m f j).lo ≤ lastL s x m f ∧ lastL s x m f ≤ (lastTo (told s x).1 (castsT s x.casts k) m f j).hi
  | 0, _ => lastL_in h hl hm hf
  | j + 1, hj => by
    have ih := told_narrow h hl hm hf hk hn j (by omega)
    show (lastStep (told s x).1 m f j ((castsT s x.casts k).getD j zCast) (lastTo (told s x).1 (castsT s x.casts k) m f j)).lo ≤ _ ∧ _ ≤ (lastStep (told s x).1 m f j ((castsT s x.casts k).getD j zCast) (lastTo (told s x).1 (castsT s x.casts k) m f j)).hi
    rw [casts_get s x.casts (show j < k by omega)]
    generalize lastTo (told s x).1 (castsT s x.casts k) m f j = y at *
    unfold lastStep
    split
    · rename_i he
      have e1 : ((told s x).1.heads.getD j zHead).shows.getD f.toNat 0 = showV (castT s x.casts j) (lastsR s x.lasts s.moulds.length) x.unread j f.toNat := by
        show ((headsT s (lastsR s x.lasts s.moulds.length) x.casts x.unread (manyT s)).getD j zHead).shows.getD f.toNat 0 = _
        rw [heads_get _ _ _ _ (show j < manyT s by omega)]
        exact shows_get _ _ _ _ (show f.toNat < s.features.toNat by omega)
      rw [e1]
      unfold showV lastL at *
      rw [he]
      split
      · simp [narrow]; exact ih
      · split
        · rename_i q; have e2 : ∀ z : Span, narrow 1 (castT s x.casts j).number z = ⟨max z.lo (castT s x.casts j).number, z.hi⟩ := fun z => by simp [narrow]
          rw [e2]
          exact ⟨by simp only; omega, ih.2⟩
        · rename_i q
          have e2 : ∀ z : Span, narrow 2 (castT s x.casts j).number z = ⟨z.lo, min z.hi ((castT s x.casts j).number - 1)⟩ := fun z => by simp [narrow]
          rw [e2]
          exact ⟨ih.1, by simp only; omega⟩
    · exact ih
theorem told_grow {s : Shop} (h : OkShop s) {x : Past} (h1 : U8 x.lasts) (h2 : U8 x.casts) : ∀ n, n ≤ manyT s → castsT s x.casts n ∈ growN (told s x).1 n
  | 0, _ => by simp [castsT, growN]
  | n + 1, hn => by
    have ih := told_grow h h1 h2 n (by omega)
    have hA : n < (allCasts s).length := by unfold manyT at hn; omega
    have hca : castsT s x.casts (n + 1) = castsT s x.casts n ++ [castT s x.casts n] := by unfold castsT; rw [List.range_succ]; simp
    simp only [growN, List.mem_flatMap]
    refine ⟨_, ih, ?_⟩
    have hc : allCasts (told s x).1 = allCasts s := rfl
    simp only [ext, List.mem_filter, List.mem_map, hc]
    refine ⟨⟨castT s x.casts n, left_sub s x.casts n _ (cast_in s h2 hA).1, hca.symm⟩, ?_⟩
    have hlen : (castsT s x.casts (n + 1)).length = n + 1 := by simp [castsT]
    simp only [agrees, Bool.and_eq_true, Bool.not_eq_true']
    constructor
    · refine dup_no fun k i hk hi => ?_
      rw [hlen] at hi
      rw [casts_get _ _ hi, casts_get _ _ (by omega)]
      exact cast_ne s h2 hk (by omega)
    · cases hb : bad (told s x).1 (castsT s x.casts (n + 1)) with
      | false => rfl
      | true =>
        exfalso
        unfold bad at hb
        obtain ⟨m, hm1, hb⟩ := List.any_eq_true.1 hb
        obtain ⟨f, hf1, hb⟩ := List.any_eq_true.1 hb
        have hb := of_decide_eq_true hb
        rw [List.mem_range] at hm1 hf1
        have hm2 : m < s.moulds.length := hm1
        have hf2 : f < s.features.toNat := hf1
        have := told_narrow h h1 (m := (m : Int)) (f := (f : Int)) (by omega) (by omega) (k := n + 1) (n := n + 1) (Nat.le_refl _) hn (n + 1) (Nat.le_refl _)
        unfold lastOf at hb
        rw [hlen] at hb
        omega
theorem told_check {c : Case} {x : Past} (h : (caseCheck c).2.2 = 0) (hn : manyT c.shop = c.shop.heads.length) : (caseCheck ⟨(told c.shop x).1, c.owners, c.claims⟩).2.2 = 0 := by
  obtain ⟨a1, a2, a3, a4, a5⟩ := case_parts h
  obtain ⟨b1, b2, b3, b4, b5⟩ := shop_parts a1
  obtain ⟨S, hS⟩ : ∃ S, (told c.shop x).1 = S := ⟨_, rfl⟩
  rw [hS]
  have hH : S.heads = headsT c.shop (lastsR c.shop x.lasts c.shop.moulds.length) x.casts x.unread (manyT c.shop) := by rw [← hS]; rfl
  have hM : S.moulds = c.shop.moulds := by rw [← hS]; rfl
  have hFt : S.features = c.shop.features := by rw [← hS]; rfl
  rw [hn] at hH
  have hlen : S.heads.length = c.shop.heads.length := by rw [hH]; simp [headsT]
  have hget : ∀ j, j < c.shop.heads.length → S.heads.getD j zHead = headT c.shop (lastsR c.shop x.lasts c.shop.moulds.length) x.casts x.unread j := fun j hj => by rw [hH]; exact heads_get _ _ _ _ hj
  have hnames : S.heads.map (·.name) = c.shop.heads.map (·.name) := by
    apply List.ext_getElem?
    intro j
    by_cases hj : j < c.shop.heads.length
    · have e := hget j hj
      rw [List.getD_eq_getElem?_getD, List.getElem?_eq_getElem (by omega), Option.getD_some] at e
      rw [List.getElem?_map, List.getElem?_map, List.getElem?_eq_getElem (by omega), List.getElem?_eq_getElem hj, e]
      simp only [Option.map_some, headT, List.getD_eq_getElem?_getD, List.getElem?_eq_getElem hj, Option.getD_some]
    · rw [List.getElem?_eq_none (by simp; omega), List.getElem?_eq_none (by simp; omega)]
  have e5 : firstE (headAt S) 0 S.heads = none := by
    refine firstE_all zHead fun j hj => ?_
    rw [hlen] at hj
    have h0 := firstE_get zHead b5 j hj
    rw [Nat.zero_add] at h0 ⊢
    rw [hget j hj]
    unfold headAt at h0 ⊢
    rw [hnames]
    have e6 : (headT c.shop (lastsR c.shop x.lasts c.shop.moulds.length) x.casts x.unread j).name = (c.shop.heads.getD j zHead).name := rfl
    rw [e6]
    split at h0
    · rename_i hne; exact absurd h0 hne
    rename_i hz
    rw [if_neg hz]
    unfold headErr
    have f0 : 1 ≤ c.shop.features := by have := within_iff.1 b1; omega
    have e7 : ((headT c.shop (lastsR c.shop x.lasts c.shop.moulds.length) x.casts x.unread j).shows.length : Int) = S.features := by rw [hFt]; simp only [headT, showsT, List.length_map, List.length_range]; omega
    rw [if_neg (fun q => q e7), if_neg]
    intro hb
    obtain ⟨y, hy1, hy2⟩ := List.any_eq_true.1 hb
    simp only [headT, showsT, List.mem_map] at hy1
    obtain ⟨f, -, rfl⟩ := hy1
    have := show_in (castT c.shop x.casts j) (lastsR c.shop x.lasts c.shop.moulds.length) x.unread j f
    simp [within] at hy2
    omega
  have e1 : (shopCheck S).2.2 = 0 := by
    unfold shopCheck
    have f1 : within S.features 1 4 = true := by rw [hFt]; exact b1
    have f2 : ¬ (2 : Int) < S.moulds.length := by rw [hM]; exact b2
    have f3 : firstE (mouldAt S) 0 S.moulds = none := by
      have : mouldAt S = mouldAt c.shop := by funext i m; unfold mouldAt; rw [hM, hFt]
      rw [this, hM]; exact b3
    have f4 : ¬ (4 : Int) < S.heads.length := by rw [hlen]; exact b4
    rw [f1, f3, e5, if_neg f2, if_neg f4]; rfl
  have e2 : ∀ y, claimErr S y = claimErr c.shop y := fun y => by unfold claimErr named; rw [hlen, hM, hFt]
  unfold caseCheck
  simp only
  have g2 : (c.owners.length : Int) = S.heads.length := by rw [hlen]; exact a2
  have g5 : firstE (fun _ y => claimErr S y) 0 c.claims = none := by simp only [e2]; exact a5
  rw [if_neg (fun q => q e1), if_neg (fun q => q g2), a3]
  simp only
  rw [if_neg a4, g5]
def soP (c : Case) (x : Past) (i : Nat) : Bool := so (cl c i) (told c.shop x).2.1 (if (cl c i).kind = 4 ∨ (cl c i).kind = 5 then lastL c.shop x (cl c i).mould (cl c i).feature else 0)
theorem lasting_iff {k : Int} : lasting k = true ↔ k = 4 ∨ k = 5 := by simp [lasting]
theorem told_set {c : Case} {x : Past} (h : (caseCheck c).2.2 = 0) (h1 : U8 x.lasts) (h2 : U8 x.casts) (hn : manyT c.shop = c.shop.heads.length) :
    maskTo (soP c x) c.claims.length ∈ caseSets ⟨(told c.shop x).1, c.owners, c.claims⟩ := by
  have hok := okCase h
  have h5 := hok.five
  have hlen : (told c.shop x).1.heads.length = c.shop.heads.length := by
    show (headsT _ _ _ _ (manyT c.shop)).length = _
    rw [hn]; simp [headsT]
  refine (mem_caseSets (c := ⟨(told c.shop x).1, c.owners, c.claims⟩) h5).2 ⟨castsT c.shop x.casts (manyT c.shop), ?_, (mem_casesR (c := ⟨(told c.shop x).1, c.owners, c.claims⟩) h5 _).2 ⟨lastL c.shop x, fun p hp => ?_, ?_⟩⟩
  · show _ ∈ growN _ (told c.shop x).1.heads.length
    rw [hlen, ← hn]
    exact told_grow hok.shop h1 h2 _ (Nat.le_refl _)
  · simp only [pairsOf, List.mem_flatMap, List.mem_map, List.mem_range] at hp
    obtain ⟨m, hm, f, hf, rfl⟩ := hp
    have hm2 : m < c.shop.moulds.length := hm
    have hf2 : f < c.shop.features.toNat := hf
    have hl : (castsT c.shop x.casts (manyT c.shop)).length = manyT c.shop := by simp [castsT]
    have := told_narrow hok.shop h1 (x := x) (m := (m : Int)) (f := (f : Int)) (by omega) (by omega) (k := manyT c.shop) (n := manyT c.shop) (Nat.le_refl _) (Nat.le_refl _) (manyT c.shop) (Nat.le_refl _)
    unfold lastOf
    rw [hl]; exact this
  · show _ = maskTo _ c.claims.length
    refine mask_congr fun i hi => ?_
    have hk := hok.claim _ (getD_mem zClaim c.claims i hi)
    show so (cl c i) _ _ = if lasting (cl c i).kind = true then _ else _
    unfold so
    by_cases hl : lasting (cl c i).kind = true
    · rw [if_pos hl, if_pos hl, if_pos (lasting_iff.1 hl)]
      have hb := hk.last (lasting_iff.1 hl)
      have hc : (pairsOf c.shop.moulds.length c.shop.features.toNat).contains ((cl c i).mould, (cl c i).feature) = true := by
        rw [List.contains_iff_mem]
        simp only [pairsOf, List.mem_flatMap, List.mem_map, List.mem_range]
        unfold cl
        exact ⟨(c.claims.getD i zClaim).mould.toNat, by omega, (c.claims.getD i zClaim).feature.toNat, by omega, by ext <;> simp only <;> omega⟩
      show soL _ _ = ((pairsOf c.shop.moulds.length c.shop.features.toNat).contains ((cl c i).mould, (cl c i).feature) && soL _ _)
      rw [hc]; rfl
    · rw [if_neg hl, if_neg hl]; rfl
theorem told_none {c : Case} (h : (caseCheck c).2.2 = 0) (hn : manyT c.shop ≠ c.shop.heads.length) : truthsE c 0 = ([], 8) := by
  have hz : (caseSets c).length = 0 := by
    rw [sets_truths (okCase h), List.length_eq_zero_iff, List.eq_nil_iff_forall_not_mem]
    intro l hl
    have h1 := grow_mem (s := c.shop) hl
    have hd : l = [] ∨ dup l = false := by
      have hg : l ∈ growN c.shop c.shop.heads.length := hl
      revert hg
      generalize c.shop.heads.length = n
      cases n with
      | zero => intro h; simp [growN] at h; exact .inl h
      | succ n =>
        intro h
        simp only [growN, List.mem_flatMap, ext, List.mem_filter] at h
        obtain ⟨p, -, -, ha⟩ := h
        simp only [agrees, Bool.and_eq_true, Bool.not_eq_true'] at ha
        exact .inr ha.1
    have h2 : l.length ≤ (allCasts c.shop).length := by
      rcases hd with rfl | hd
      · exact Nat.zero_le _
      · exact nodup_le (dup_nodup hd) fun y hy => mem_allCasts.2 (h1.2 y hy)
    unfold manyT at hn
    omega
  unfold truthsE
  rw [if_neg (fun q => q h), if_neg (fun q => q rfl), if_pos hz]
theorem told_law {c : Case} {x : Past} (h : (caseCheck c).2.2 = 0) (h1 : U8 x.lasts) (h2 : U8 x.casts) (hn : manyT c.shop = c.shop.heads.length) :
    ∃ sets : List Int, truthsE ⟨(told c.shop x).1, c.owners, c.claims⟩ 0 = (sets, 0) ∧ hasN sets (maskTo (soP c x) c.claims.length) = true ∧
      ∀ i : Nat, i < c.claims.length → ∃ n : Int, holdsR ⟨(told c.shop x).1, c.owners, c.claims⟩ i = (n, 0) ∧ (n = 0 ∨ n = 1 ∧ soP c x i = true ∨ n = 2 ∧ soP c x i = false) := by
  have hs := told_set h h1 h2 hn
  have hc := told_check (x := x) h hn
  have h5 := (okCase h).five
  obtain ⟨C, hC⟩ : ∃ C : Case, C = ⟨(told c.shop x).1, c.owners, c.claims⟩ := ⟨_, rfl⟩
  have hcl : C.claims = c.claims := by rw [hC]
  rw [← hC] at hs hc ⊢
  have hne : caseSets C ≠ [] := fun e => by rw [e] at hs; cases hs
  have ht : truthsE C 0 = (caseSets C, 0) := by
    unfold truthsE
    rw [if_neg (fun q => q hc), if_neg (fun q => q rfl), if_neg]
    intro e; exact hne (List.length_eq_zero_iff.1 e)
  have hsome : someR C = true := some_iff.2 (by rw [ht])
  refine ⟨_, ht, hasN_mem.2 hs, fun i hi => ⟨settled (caseSets C) i, holds_eq hsome (by rw [hcl]; omega), ?_⟩⟩
  have hb := hasZ_mask (p := soP c x) h5 hi
  by_cases q1 : settled (caseSets C) i = 1
  · exact .inr (.inl ⟨q1, by rw [← hb]; exact settled_one.1 q1 _ hs⟩)
  · by_cases q2 : settled (caseSets C) i = 2
    · refine .inr (.inr ⟨q2, ?_⟩)
      have := (settled_two hne).1 q2 _ hs
      rw [hb] at this
      exact Bool.eq_false_iff.2 this
    · left
      unfold settled at q1 q2 ⊢
      split
      · rename_i e; rw [if_pos e] at q1; exact absurd rfl q1
      · rename_i e
        rw [if_neg e] at q2
        split
        · rename_i e2; rw [if_pos e2] at q2; exact absurd rfl q2
        · rfl
inductive P8
  | e
  | l0 (x0_12 : Int) (x0_13 : Int) (x0_14 : Int)
inductive R8
  | r0 (r0 : Bool)
noncomputable def T8 (c : Case) (x : Past) : P8 → Tr P8 R8
  | .e => let c1 := told c.shop x; let c2 : V := .tuple [tint.lst ((truthsE c 0).1), iI ((truthsE c 0).2)]; let c3 : Tr P8 R8 := .call 23 [] (.bool true) true true (.out (.r0 true)); (.call 42 [.agg (cC c)] (.bool (validR c)) true true (.br (!(validR c)) (.call 18 [.agg (cC c)] c2 true true (.br ((truthsE c 0).2 != (0 : Int)) c3 (.out (.r0 false)))) (.call 43 [.agg [iI c.shop.features, tMould.lst c.shop.moulds, tHead.lst c.shop.heads], .agg [tu8.lst x.lasts, tu8.lst x.casts, tu8.lst x.unread]] (.tuple [.agg [iI (c1.1.features), tMould.lst (c1.1.moulds), tHead.lst (c1.1.heads)], tCast.lst (c1.2.1), (tlist tint).lst (c1.2.2)]) true true (.br (((c1.2.1.length) : Int) != (c.owners.length : Int)) (.call 18 [.agg (cC c)] c2 true true (.br ((truthsE c 0).2 == (8 : Int)) c3 (.out (.r0 false)))) (.go (.l0 0 1 0))))))
  | .l0 x0_12 x0_13 x0_14 => let c1 := (⟨(⟨(told c.shop x).1.features, (told c.shop x).1.moulds, (told c.shop x).1.heads⟩ : Shop), c.owners, c.claims⟩ : Case); let c5 := c.claims.getD (x0_14).toNat tClaim.zero; let c6 : Tr P8 R8 := .lit true (.lit true (.out (.r0 false))); let c7 := so c5 ((told c.shop x).2.1) 0; let c8 : List V := [iI ((told c.shop x).1.features), tMould.lst ((told c.shop x).1.moulds), tHead.lst ((told c.shop x).1.heads), tint.lst c.owners, tClaim.lst c.claims]; let c9 := holdsR c1 x0_14; let c3 : Tr P8 R8 := .br (decide (c9.1 < (0 : Int))) (.lit true (.out (.r0 false))) (.br (decide (c9.1 > (2 : Int))) (.out (.r0 false)) (.need (inR .i64 (x0_14 + (1 : Int))) (.go (.l0 (x0_12 + x0_13) ((2 : Int) * x0_13) (x0_14 + (1 : Int)))))); let c4 : Tr P8 R8 := .br (decide (c9.1 < (0 : Int))) (.lit true (.out (.r0 false))) (.br (decide (c9.1 > (2 : Int))) (.out (.r0 false)) (.need (inR .i64 (x0_14 + (1 : Int))) (.go (.l0 x0_12 ((2 : Int) * x0_13) (x0_14 + (1 : Int)))))); let c10 : Tr P8 R8 := .br (c9.1 == (1 : Int)) (.lit false (.br (!c7) c6 c4)) (.lit false (.lit false c4)); let c11 : Tr P8 R8 := .br (c9.1 == (1 : Int)) (.lit false (.br (!c7) c6 c3)) (.lit false (.lit false c3)); let c12 : Tr P8 R8 := .lit true (.lit true c6); let c13 := truthsE c1 0; let c14 := x0_14 < (c.claims.length : Int); let c15 := inR .i64 ((2 : Int) * x0_13); let c16 : Tr P8 R8 := .lit true (.lit true c12); let c2 : Tr P8 R8 := .front [] [] (((decide (0 ≤ c5.mould) && decide (c5.mould < (((told c.shop x).2.2.length) : Int))) && true) && true) true (.need (decide (0 ≤ c5.feature) && decide (c5.feature < (((((told c.shop x).2.2).getD (c5.mould).toNat (tlist tint).zero).length) : Int))) (.call 21 [.agg c8, iI x0_14] (.tuple [iI (c9.1), iI (c9.2)]) true true (.call 44 [.agg [iI (c5.own), iI (c5.kind), iI (c5.a), iI (c5.b), iI (c5.mould), iI (c5.feature), iI (c5.number), iI (c5.worth)], tCast.lst ((told c.shop x).2.1), iI ((((told c.shop x).2.2).getD (c5.mould).toNat (tlist tint).zero).getD (c5.feature).toNat tint.zero)] (.bool (so c5 ((told c.shop x).2.1) ((((told c.shop x).2.2).getD (c5.mould).toNat (tlist tint).zero).getD (c5.feature).toNat tint.zero))) true true (.br (so c5 ((told c.shop x).2.1) ((((told c.shop x).2.2).getD (c5.mould).toNat (tlist tint).zero).getD (c5.feature).toNat tint.zero)) (.need (inR .i64 (x0_12 + x0_13)) (.need c15 (.br (c9.2 != (0 : Int)) c16 (.br (c9.1 == (2 : Int)) (.lit false (.br (so c5 ((told c.shop x).2.1) ((((told c.shop x).2.2).getD (c5.mould).toNat (tlist tint).zero).getD (c5.feature).toNat tint.zero)) c12 (.br (c9.1 == (1 : Int)) (.lit false (.br (!(so c5 ((told c.shop x).2.1) ((((told c.shop x).2.2).getD (c5.mould).toNat (tlist tint).zero).getD (c5.feature).toNat tint.zero))) c6 c3)) (.lit false (.lit false c3))))) (.lit false (.lit false (.br (c9.1 == (1 : Int)) (.lit false (.br (!(so c5 ((told c.shop x).2.1) ((((told c.shop x).2.2).getD (c5.mould).toNat (tlist tint).zero).getD (c5.feature).toNat tint.zero))) c6 c3)) (.lit false (.lit false c3))))))))) (.need c15 (.br (c9.2 != (0 : Int)) c16 (.br (c9.1 == (2 : Int)) (.lit false (.br (so c5 ((told c.shop x).2.1) ((((told c.shop x).2.2).getD (c5.mould).toNat (tlist tint).zero).getD (c5.feature).toNat tint.zero)) c12 (.br (c9.1 == (1 : Int)) (.lit false (.br (!(so c5 ((told c.shop x).2.1) ((((told c.shop x).2.2).getD (c5.mould).toNat (tlist tint).zero).getD (c5.feature).toNat tint.zero))) c6 c4)) (.lit false (.lit false c4))))) (.lit false (.lit false (.br (c9.1 == (1 : Int)) (.lit false (.br (!(so c5 ((told c.shop x).2.1) ((((told c.shop x).2.2).getD (c5.mould).toNat (tlist tint).zero).getD (c5.feature).toNat tint.zero))) c6 c4)) (.lit false (.lit false c4)))))))))))); (.br (decide c14) (.need (decide (0 ≤ x0_14) && decide c14) (.br (c5.kind == (4 : Int)) (.lit true c2) (.br (c5.kind == (5 : Int)) c2 (.call 21 [.agg c8, iI x0_14] (.tuple [iI (c9.1), iI (c9.2)]) true true (.call 44 [.agg [iI (c5.own), iI (c5.kind), iI (c5.a), iI (c5.b), iI (c5.mould), iI (c5.feature), iI (c5.number), iI (c5.worth)], tCast.lst ((told c.shop x).2.1), iI 0] (.bool c7) true true (.br c7 (.need (inR .i64 (x0_12 + x0_13)) (.need c15 (.br (c9.2 != (0 : Int)) c16 (.br (c9.1 == (2 : Int)) (.lit false (.br c7 c12 c11)) (.lit false (.lit false c11)))))) (.need c15 (.br (c9.2 != (0 : Int)) c16 (.br (c9.1 == (2 : Int)) (.lit false (.br c7 c12 c10)) (.lit false (.lit false c10))))))))))) (.call 18 [.agg c8] (.tuple [tint.lst (c13.1), iI (c13.2)]) true true (.br (c13.2 == (0 : Int)) (.call 45 [tint.lst (c13.1), iI x0_12] (.bool (hasN (c13.1) x0_12)) true true (.br (hasN (c13.1) x0_12) (.call 23 [] (.bool true) true true (.out (.r0 true))) (.out (.r0 false)))) (.lit false (.out (.r0 false))))))
noncomputable def g8 (c : Case) (x : Past) : P8 → List Item × St
  | .e => bd Tryz.f8 [.agg (cC c), .agg [tu8.lst x.lasts, tu8.lst x.casts, tu8.lst x.unread]] 144
  | .l0 x0_12 x0_13 x0_14 => (cutOf Tryz.f8 0, ⟨mk 146 [(2, .ref 0 0 0), (8, tCast.lst ((told c.shop x).2.1)), (9, (tlist tint).lst ((told c.shop x).2.2)), (12, iI x0_12), (13, iI x0_13), (14, iI x0_14)], [.cells [iI ((told c.shop x).1.features), tMould.lst ((told c.shop x).1.moulds), tHead.lst ((told c.shop x).1.heads), tint.lst c.owners, tClaim.lst c.claims]], []⟩)
noncomputable def n8 : R8 → Exit × St
  | .r0 r0 => (.ret, ⟨mk 146 [(4, .bool r0)], [], []⟩)
noncomputable def v8 : R8 → V
  | .r0 r0 => .bool r0
theorem s8 (c : Case) (x : Past) : Sm 0 (g8 c x) (T8 c x) (n8)
  | .e => ⟨400, by kernel_rfl⟩
  | .l0 _ _ _ => ⟨400, by kernel_rfl⟩
theorem q8 : ∀ r, bodyQ Tryz.prog Tryz.f8 (· = v8 r) (n8 r).1 (n8 r).2
  | .r0 r0 => bq (.bool r0) (by kernel_rfl)
theorem w8 (c : Case) (x : Past) {post : V → Prop} (h : WQ (T8 c x) v8 post .e) : PC 8 [.agg (cC c), .agg [tu8.lst x.lasts, tu8.lst x.casts, tu8.lst x.unread]] post :=
  PCalls.wq Tryz.func8 (s8 c x) q8 h
theorem w8_1 (c : Case) (x : Past) (F : Int) (M : List Mould) (H : List Head) (CA : List Cast) (LA : List (List Int)) (hT : told c.shop x = (⟨F, M, H⟩, CA, LA)) (hok : OkCase c) (hCA : CA.length = c.shop.heads.length)
    (hLA : LA.length = c.shop.moulds.length) (hrow : ∀ m f : Int, 0 ≤ m ∧ m < c.shop.moulds.length → 0 ≤ f ∧ f < c.shop.features → f < ((LA.getD m.toNat []).length : Int)) (p : Nat → Bool)
    (hp : ∀ i, i < c.claims.length → p i = so (cl c i) CA (if (cl c i).kind = 4 ∨ (cl c i).kind = 5 then (LA.getD (cl c i).mould.toNat []).getD (cl c i).feature.toNat 0 else 0))
    (i : Nat) (hi : i < c.claims.length) (n : Int) (hn : holdsR ⟨⟨F, M, H⟩, c.owners, c.claims⟩ i = (n, 0)) (hq : n = 0 ∨ n = 1 ∧ p i = true ∨ n = 2 ∧ p i = false) :
    WP Tryz.prog ⟨none, 0⟩ (T8 c x) (fun y => y = .inl (.l0 (maskTo p (i + 1)) (bitZ ((i + 1 : Nat) : Int)) ((i + 1 : Nat) : Int))) (.l0 (maskTo p i) (bitZ (i : Int)) (i : Int)) := by
  have h5 := hok.five
  have hk := hok.claim _ (getD_mem zClaim c.claims i hi)
  have k21 := c21 ⟨⟨F, M, H⟩, c.owners, c.claims⟩ (i : Int)
  rw [hn] at k21
  have hpi := hp i hi
  have k44 := fun last => c44 (cl c i) CA last hk.kind (fun e => by rw [hCA]; exact (hk.cast e).1) (fun e => by rw [hCA]; exact hk.pair e)
  have hm := mask_lt (p := p) (n := i) (by omega)
  have hb : 0 ≤ bitZ (i : Int) ∧ bitZ (i : Int) ≤ 16 := by
    rcases show i = 0 ∨ i = 1 ∨ i = 2 ∨ i = 3 ∨ i = 4 by omega with rfl | rfl | rfl | rfl | rfl <;> decide
  have hb2 : bitZ ((i + 1 : Nat) : Int) = 2 * bitZ (i : Int) := by rw [bitZ_nat, bitZ_nat, Int.pow_succ]; omega
  have r1 : inR .i64 (maskTo p i + bitZ (i : Int)) = true := inR64 (by omega) (by omega)
  have r2 : inR .i64 (2 * bitZ (i : Int)) = true := inR64 (by omega) (by omega)
  have r3 : inR .i64 ((i : Int) + 1) = true := inR64 (by omega) (by omega)
  have hi' : (i : Int) < c.claims.length := by omega
  have hcast : ((i + 1 : Nat) : Int) = (i : Int) + 1 := by omega
  rw [hb2, mask_succ, hcast]
  unfold cl at *
  generalize hC : c.claims.getD i zClaim = C at *
  generalize maskTo p i = m at *
  generalize bitZ (i : Int) = b at *
  generalize p i = pi at *
  by_cases q4 : C.kind = 4
  · rw [if_pos (.inl q4)] at hpi
    have k := k44 ((LA.getD C.mould.toNat []).getD C.feature.toNat 0)
    have kc : tClaim.cells C = [iI C.own, iI 4, iI C.a, iI C.b, iI C.mould, iI C.feature, iI C.number, iI C.worth] := by rw [← q4]; rfl
    rw [kc, ← hpi] at k
    obtain ⟨l1, l2, -⟩ := hk.last (.inl q4)
    have l3 := hrow C.mould C.feature l1 l2
    have l4 : C.mould < (LA.length : Int) := by omega
    rcases hq with rfl | ⟨rfl, rfl⟩ | ⟨rfl, rfl⟩
    · cases pi with
      | true =>
        refine WP.once ?_
        simp only [T8, Tr.sure, SS, hT, hn, hC, z8, z1, z6, q4, hi', l1, l2, l3, l4, hpi.symm]
        repeat' with_reducible first | intro _ | apply And.intro
        all_goals first | exact k21 | exact k | (simp [r1, r2, r3, Go, Ends', v8, -List.getD_eq_getElem?_getD, *]; done) | (simp_all [r1, r2, r3, Go, Ends', v8, -List.getD_eq_getElem?_getD]; done)
      | false =>
        refine WP.once ?_
        simp only [T8, Tr.sure, SS, hT, hn, hC, z8, z1, z6, q4, hi', l1, l2, l3, l4, hpi.symm]
        repeat' with_reducible first | intro _ | apply And.intro
        all_goals first | exact k21 | exact k | (simp [r1, r2, r3, Go, Ends', v8, -List.getD_eq_getElem?_getD, *]; done) | (simp_all [r1, r2, r3, Go, Ends', v8, -List.getD_eq_getElem?_getD]; done)
    · refine WP.once ?_
      simp only [T8, Tr.sure, SS, hT, hn, hC, z8, z1, z6, q4, hi', l1, l2, l3, l4, hpi.symm]
      repeat' with_reducible first | intro _ | apply And.intro
      all_goals first | exact k21 | exact k | (simp [r1, r2, r3, Go, Ends', v8, -List.getD_eq_getElem?_getD, *]; done) | (simp_all [r1, r2, r3, Go, Ends', v8, -List.getD_eq_getElem?_getD]; done)
    · refine WP.once ?_
      simp only [T8, Tr.sure, SS, hT, hn, hC, z8, z1, z6, q4, hi', l1, l2, l3, l4, hpi.symm]
      repeat' with_reducible first | intro _ | apply And.intro
      all_goals first | exact k21 | exact k | (simp [r1, r2, r3, Go, Ends', v8, -List.getD_eq_getElem?_getD, *]; done) | (simp_all [r1, r2, r3, Go, Ends', v8, -List.getD_eq_getElem?_getD]; done)
  · by_cases q5 : C.kind = 5
    · rw [if_pos (.inr q5)] at hpi
      have k := k44 ((LA.getD C.mould.toNat []).getD C.feature.toNat 0)
      have kc : tClaim.cells C = [iI C.own, iI 5, iI C.a, iI C.b, iI C.mould, iI C.feature, iI C.number, iI C.worth] := by rw [← q5]; rfl
      rw [kc, ← hpi] at k
      obtain ⟨l1, l2, -⟩ := hk.last (.inr q5)
      have l3 := hrow C.mould C.feature l1 l2
      have l4 : C.mould < (LA.length : Int) := by omega
      rcases hq with rfl | ⟨rfl, rfl⟩ | ⟨rfl, rfl⟩
      · cases pi with
        | true =>
          refine WP.once ?_
          simp only [T8, Tr.sure, SS, hT, hn, hC, z8, z1, z6, q4, q5, hi', l1, l2, l3, l4, hpi.symm]
          repeat' with_reducible first | intro _ | apply And.intro
          all_goals first | exact k21 | exact k | (simp [r1, r2, r3, Go, Ends', v8, -List.getD_eq_getElem?_getD, *]; done) | (simp_all [r1, r2, r3, Go, Ends', v8, -List.getD_eq_getElem?_getD]; done)
        | false =>
          refine WP.once ?_
          simp only [T8, Tr.sure, SS, hT, hn, hC, z8, z1, z6, q4, q5, hi', l1, l2, l3, l4, hpi.symm]
          repeat' with_reducible first | intro _ | apply And.intro
          all_goals first | exact k21 | exact k | (simp [r1, r2, r3, Go, Ends', v8, -List.getD_eq_getElem?_getD, *]; done) | (simp_all [r1, r2, r3, Go, Ends', v8, -List.getD_eq_getElem?_getD]; done)
      · refine WP.once ?_
        simp only [T8, Tr.sure, SS, hT, hn, hC, z8, z1, z6, q4, q5, hi', l1, l2, l3, l4, hpi.symm]
        repeat' with_reducible first | intro _ | apply And.intro
        all_goals first | exact k21 | exact k | (simp [r1, r2, r3, Go, Ends', v8, -List.getD_eq_getElem?_getD, *]; done) | (simp_all [r1, r2, r3, Go, Ends', v8, -List.getD_eq_getElem?_getD]; done)
      · refine WP.once ?_
        simp only [T8, Tr.sure, SS, hT, hn, hC, z8, z1, z6, q4, q5, hi', l1, l2, l3, l4, hpi.symm]
        repeat' with_reducible first | intro _ | apply And.intro
        all_goals first | exact k21 | exact k | (simp [r1, r2, r3, Go, Ends', v8, -List.getD_eq_getElem?_getD, *]; done) | (simp_all [r1, r2, r3, Go, Ends', v8, -List.getD_eq_getElem?_getD]; done)
    · rw [if_neg (fun e => e.elim q4 q5)] at hpi
      have k := k44 0
      rw [← hpi] at k
      rcases hq with rfl | ⟨rfl, rfl⟩ | ⟨rfl, rfl⟩
      · cases pi with
        | true =>
          refine WP.once ?_
          simp only [T8, Tr.sure, SS, hT, hn, hC, z8, z1, z6, q4, q5, hi', hpi.symm]
          repeat' with_reducible first | intro _ | apply And.intro
          all_goals first | exact k21 | exact k | (simp [r1, r2, r3, Go, Ends', v8, -List.getD_eq_getElem?_getD, *]; done) | (simp_all [r1, r2, r3, Go, Ends', v8, -List.getD_eq_getElem?_getD]; done)
        | false =>
          refine WP.once ?_
          simp only [T8, Tr.sure, SS, hT, hn, hC, z8, z1, z6, q4, q5, hi', hpi.symm]
          repeat' with_reducible first | intro _ | apply And.intro
          all_goals first | exact k21 | exact k | (simp [r1, r2, r3, Go, Ends', v8, -List.getD_eq_getElem?_getD, *]; done) | (simp_all [r1, r2, r3, Go, Ends', v8, -List.getD_eq_getElem?_getD]; done)
      · refine WP.once ?_
        simp only [T8, Tr.sure, SS, hT, hn, hC, z8, z1, z6, q4, q5, hi', hpi.symm]
        repeat' with_reducible first | intro _ | apply And.intro
        all_goals first | exact k21 | exact k | (simp [r1, r2, r3, Go, Ends', v8, -List.getD_eq_getElem?_getD, *]; done) | (simp_all [r1, r2, r3, Go, Ends', v8, -List.getD_eq_getElem?_getD]; done)
      · refine WP.once ?_
        simp only [T8, Tr.sure, SS, hT, hn, hC, z8, z1, z6, q4, q5, hi', hpi.symm]
        repeat' with_reducible first | intro _ | apply And.intro
        all_goals first | exact k21 | exact k | (simp [r1, r2, r3, Go, Ends', v8, -List.getD_eq_getElem?_getD, *]; done) | (simp_all [r1, r2, r3, Go, Ends', v8, -List.getD_eq_getElem?_getD]; done)
theorem c8 (c : Case) (x : Past) (h1 : U8 x.lasts) (h2 : U8 x.casts) (h3 : U8 x.unread) : PC 8 [.agg (tCase.cells c), .agg [tu8.lst x.lasts, tu8.lst x.casts, tu8.lst x.unread]] (· = .bool true) := by
  by_cases hv : (caseCheck c).2.2 = 0
  · have hval : validR c = true := by simp [validR, hv]
    have hok := okCase hv
    have h5 := hok.five
    have k43 := c43 c.shop x hok.shop h1 h2 h3
    by_cases hn : manyT c.shop = c.shop.heads.length
    · obtain ⟨sets, g1, g2, g3⟩ := told_law hv h1 h2 hn
      have hCA : (told c.shop x).2.1.length = c.shop.heads.length := by show (castsT _ _ _).length = _; rw [← hn]; simp [castsT]
      have hLA : (told c.shop x).2.2.length = c.shop.moulds.length := by show (lastsR _ _ _).length = _; simp [lastsR]
      have hrow : ∀ m f : Int, 0 ≤ m ∧ m < c.shop.moulds.length → 0 ≤ f ∧ f < c.shop.features → f < ((((told c.shop x).2.2).getD m.toNat []).length : Int) := fun m f hm hf => by
        show f < (((lastsR c.shop x.lasts c.shop.moulds.length).getD m.toNat []).length : Int)
        rw [lasts_get c.shop x.lasts (by omega)]
        simp only [lastRow, List.length_map, List.length_range]; omega
      have hp : ∀ i, i < c.claims.length → soP c x i = so (cl c i) (told c.shop x).2.1 (if (cl c i).kind = 4 ∨ (cl c i).kind = 5 then ((told c.shop x).2.2.getD (cl c i).mould.toNat []).getD (cl c i).feature.toNat 0 else 0) := fun i _ => rfl
      have k18 := c18s ⟨(told c.shop x).1, c.owners, c.claims⟩
      rw [g1] at k18
      generalize soP c x = p at *
      obtain ⟨q, hT⟩ : ∃ q : Shop × List Cast × List (List Int), told c.shop x = q := ⟨_, rfl⟩
      obtain ⟨⟨F, M, H⟩, CA, LA⟩ := q
      have hs := w8_1 c x F M H CA LA hT hok (by rw [hT] at hCA; exact hCA) (by rw [hT] at hLA; exact hLA) (by rw [hT] at hrow; exact hrow) p (by rw [hT] at hp; exact hp)
      rw [hT] at k18 g1 g3 k43 hCA
      have hc : (CA.length : Int) = (c.owners.length : Int) := by have := hok.many; simp only at hCA; omega
      have hmain : WP Tryz.prog ⟨none, 0⟩ (T8 c x) (Ends' fun r => v8 r = .bool true) (.l0 0 1 0) := by
        refine WP.run (fun i => .l0 (maskTo p i) (bitZ (i : Int)) (i : Int)) rfl c.claims.length (fun i hi => ?_) ?_
        · obtain ⟨n, q1, q2⟩ := g3 i hi
          exact hs i hi n q1 q2
        · have k45 := c45 sets (maskTo p c.claims.length)
          rw [g2] at k45
          refine WP.step ?_
          simp only [T8, Go, Ends', v8, Tr.sure, SS, hT, g1, g2, Int.lt_irrefl]
          repeat' with_reducible first | intro _ | apply And.intro
          all_goals first | exact k18 | exact k45 | exact c23
      have k42 := c42 c
      rw [hval] at k42
      refine w8 c x (WP.step ?_)
      simp only [T8, Go, Ends', v8, Tr.sure, SS, hT, hval, hc]
      repeat' with_reducible first | intro _ | apply And.intro
      all_goals first | exact k42 | exact k43 | exact hmain
    · have hc : ((told c.shop x).2.1.length : Int) ≠ (c.owners.length : Int) := by
        have : (told c.shop x).2.1.length = manyT c.shop := by show (castsT _ _ _).length = _; simp [castsT]
        have := hok.many
        omega
      have ht := told_none hv hn
      have k18 := c18s c
      rw [ht] at k18
      refine w8 c x (WP.step ?_)
      simp only [T8, Go, Ends', v8, Tr.sure, SS, ht]
      repeat' with_reducible first | intro _ | apply And.intro
      all_goals first | exact (c42 c) | exact k43 | exact k18 | exact c23 | (simp_all [hval, hc, Go, Ends', v8, -List.getD_eq_getElem?_getD]; done)
  · have hval : validR c = false := by simp [validR, hv]
    have ht : (truthsE c 0).2 ≠ 0 := by unfold truthsE; rw [if_pos hv]; exact hv
    refine w8 c x (WP.step ?_)
    simp only [T8, Go, Ends', v8, Tr.sure, SS]
    repeat' with_reducible first | intro _ | apply And.intro
    all_goals first | exact (c42 c) | exact (c18s c) | exact c23 | (simp_all [hval, ht, Go, Ends', v8, -List.getD_eq_getElem?_getD]; done)
end
end Go.Proofs.YtdamoemndifpmaaGreat
