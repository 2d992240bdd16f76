/-
  Part of the proof of the Claim laws. Conditions: those that stand in each theorem.
-/
import Derived.Test.YtdamoemndifpmaaGreatB09
set_option linter.unusedSimpArgs false
set_option linter.unusedVariables false
set_option maxRecDepth 100000
namespace Go.Proofs.YtdamoemndifpmaaGreat
open Ab Go
noncomputable section
def Asks1 (g : Nat) (lo : Int) (p : Int → Bool) (ok : Int → Prop) : Prop := ∀ n, ok n → PC g [iI n, rR (iI lo)] (· = .bool (p n))
inductive P136_1
  | e
  | l0 (x0_8 : Int)
inductive R136_1
  | r0 (r0 : Int)
noncomputable def T136_1 (g : Nat) (lo : Int) (p : Int → Bool) (s : List Int) : P136_1 → Tr P136_1 R136_1
  | .e => (.go (.l0 0))
  | .l0 x0_8 => let c1 := s.getD (x0_8).toNat tint.zero; (.br (decide (x0_8 < (s.length : Int))) (.need (decide (0 ≤ x0_8) && decide (x0_8 < (s.length : Int))) (.call g [iI c1, rR (iI lo)] (.bool (p c1)) true true (.br (p c1) (.out (.r0 x0_8)) (.need (inR .i64 (x0_8 + (1 : Int))) (.go (.l0 (x0_8 + (1 : Int)))))))) (.out (.r0 (-1))))
noncomputable def g136_1 (g : Nat) (lo : Int) (p : Int → Bool) (s : List Int) : P136_1 → List Item × St
  | .e => bd Tryz.f136 [tint.lst s, .func (.func g) [] [rR (iI lo)]] 17
  | .l0 x0_8 => (cutOf Tryz.f136 0, ⟨mk 19 [(0, tint.lst s), (1, .func (.func g) [] [rR (iI lo)]), (4, iI 0), (7, iI (s.length : Int)), (8, iI x0_8)], [], []⟩)
noncomputable def n136_1 : R136_1 → Exit × St
  | .r0 r0 => (.ret, ⟨mk 19 [(4, iI r0)], [], []⟩)
noncomputable def v136_1 : R136_1 → V
  | .r0 r0 => iI r0
theorem s136_1 (g : Nat) (lo : Int) (p : Int → Bool) (s : List Int) : Sm 0 (g136_1 g lo p s) (T136_1 g lo p s) (n136_1)
  | .e => ⟨400, by kernel_rfl⟩
  | .l0 _ => ⟨400, by kernel_rfl⟩
theorem q136_1 : ∀ r, bodyQ Tryz.prog Tryz.f136 (· = v136_1 r) (n136_1 r).1 (n136_1 r).2
  | .r0 r0 => bq (iI r0) (by kernel_rfl)
theorem w136_1 (g : Nat) (lo : Int) (p : Int → Bool) (s : List Int) {post : V → Prop} (h : WQ (T136_1 g lo p s) v136_1 post .e) : PC 136 [tint.lst s, .func (.func g) [] [rR (iI lo)]] post :=
  PCalls.wq Tryz.func136 (s136_1 g lo p s) q136_1 h
theorem c136_1 {g : Nat} {lo : Int} {p : Int → Bool} {ok : Int → Prop} (s : List Int) (hg : Asks1 g lo p ok) (hok : ∀ n ∈ s, ok n) : PC 136 [tint.lst s, .func (.func g) [] [rR (iI lo)]] (· = iI (place (firstI p 0 s))) := by
  refine PCalls.assume e136 0 (by simp) .list fun hs => ?_
  refine w136_1 g lo p s (WP.step ?_)
  simp only [T136_1, Go, Ends', v136_1, Tr.sure, SS]
  repeat' with_reducible first | intro _ | apply And.intro
  refine WP.findI (fun i => .l0 i) rfl s 0 p (fun i hi => ?_) fun hI => ?_
  · have hr := inRi hi hs
    refine WP.once ?_
    simp only [T136_1, Tr.sure, SS, hi, z1]
    repeat' with_reducible first | intro _ | apply And.intro
    all_goals first | exact hg _ (hok _ (getD_mem 0 s i hi)) | (simp [hr, place, Go, Ends', v136_1, -List.getD_eq_getElem?_getD, *]; done) | (simp_all [hr, place, Go, Ends', v136_1, -List.getD_eq_getElem?_getD]; done)
  · refine WP.step ?_
    simp only [T136_1, Go, Ends', v136_1, Tr.sure, SS]
    repeat' with_reducible first | intro _ | apply And.intro
    all_goals simp [hI, place, Go, Ends', v136_1, -List.getD_eq_getElem?_getD, *]
inductive P120_1
  | e
inductive R120_1
  | r0 (r0 : Bool)
noncomputable def T120_1 (g : Nat) (lo : Int) (p : Int → Bool) (s : List Int) : P120_1 → Tr P120_1 R120_1
  | .e => (.call 136 [tint.lst s, .func (.func g) [] [rR (iI lo)]] (iI (place (firstI p 0 s))) true true (.out (.r0 (decide ((place (firstI p 0 s)) ≥ (0 : Int))))))
noncomputable def g120_1 (g : Nat) (lo : Int) (p : Int → Bool) (s : List Int) : P120_1 → List Item × St
  | .e => bd Tryz.f120 [tint.lst s, .func (.func g) [] [rR (iI lo)]] 7
noncomputable def n120_1 : R120_1 → Exit × St
  | .r0 r0 => (.ret, ⟨mk 9 [(4, .bool r0)], [], []⟩)
noncomputable def v120_1 : R120_1 → V
  | .r0 r0 => .bool r0
theorem s120_1 (g : Nat) (lo : Int) (p : Int → Bool) (s : List Int) : Sm 0 (g120_1 g lo p s) (T120_1 g lo p s) (n120_1)
  | .e => ⟨400, by kernel_rfl⟩
theorem q120_1 : ∀ r, bodyQ Tryz.prog Tryz.f120 (· = v120_1 r) (n120_1 r).1 (n120_1 r).2
  | .r0 r0 => bq (.bool r0) (by kernel_rfl)
theorem w120_1 (g : Nat) (lo : Int) (p : Int → Bool) (s : List Int) {post : V → Prop} (h : WQ (T120_1 g lo p s) v120_1 post .e) : PC 120 [tint.lst s, .func (.func g) [] [rR (iI lo)]] post :=
  PCalls.wq Tryz.func120 (s120_1 g lo p s) q120_1 h
theorem c120_1 {g : Nat} {lo : Int} {p : Int → Bool} {ok : Int → Prop} (s : List Int) (hg : Asks1 g lo p ok) (hok : ∀ n ∈ s, ok n) : PC 120 [tint.lst s, .func (.func g) [] [rR (iI lo)]] (· = .bool (s.any p)) := by
  have h1 : decide (0 ≤ place (firstI p 0 s)) = s.any p := by rw [← firstI_any p s 0, Bool.eq_iff_iff, decide_eq_true_iff]; exact place_ge _
  refine w120_1 g lo p s (WP.step ?_)
  simp only [T120_1, Go, Ends', v120_1, Tr.sure, SS]
  repeat' with_reducible first | intro _ | apply And.intro
  all_goals first | exact (c136_1 s hg hok) | (simp [h1, Go, Ends', v120_1, -List.getD_eq_getElem?_getD, *]; done)
def courtCells (c : Case) (l : List Int) : List V := tCase.cells c ++ kindCells ++ [tint.lst l]
def court (c : Case) (l : List Int) : V := .cref 30 fun q => (courtCells c l).getD q uU
inductive P71
  | e
inductive R71
  | r0 (r0 : Bool)
noncomputable def T71 (l : List Int) (c : Case) (x : Int) : P71 → Tr P71 R71
  | .e => (.call 120 [tint.lst l, fG 135 [rR (iI x)]] (.bool (l.any fun s => bitsOf .and .i64 s x == x)) true true (.out (.r0 (l.any fun s => bitsOf .and .i64 s x == x))))
noncomputable def g71 (l : List Int) (c : Case) (x : Int) : P71 → List Item × St
  | .e => bd Tryz.f71 [court c l, iI x] 9
noncomputable def n71 : R71 → Exit × St
  | .r0 r0 => (.ret, ⟨mk 11 [(4, .bool r0)], [], []⟩)
noncomputable def v71 : R71 → V
  | .r0 r0 => .bool r0
theorem s71 (l : List Int) (c : Case) (x : Int) : Sm 0 (g71 l c x) (T71 l c x) (n71)
  | .e => ⟨400, by kernel_rfl⟩
theorem q71 : ∀ r, bodyQ Tryz.prog Tryz.f71 (· = v71 r) (n71 r).1 (n71 r).2
  | .r0 r0 => bq (.bool r0) (by kernel_rfl)
theorem w71 (l : List Int) (c : Case) (x : Int) {post : V → Prop} (h : WQ (T71 l c x) v71 post .e) : PC 71 [court c l, iI x] post :=
  PCalls.wq Tryz.func71 (s71 l c x) q71 h
theorem c71 (c : Case) (l : List Int) (x : Int) : PC 71 [court c l, iI x] (· = .bool (l.any fun s => bitsOf .and .i64 s x == x)) := by
  refine w71 _ _ _ (WP.step ?_)
  simp only [T71, Go, Ends', v71, Tr.sure, SS]
  repeat' with_reducible first | intro _ | apply And.intro
  all_goals exact (c120_1 (ok := fun _ => True) l (fun n _ => c135 n x) fun _ _ => trivial)
inductive P79
  | e
  | l0 (x0_14 : Int) (a0_0 : List Int)
inductive R79
  | r0 (r0 : List Int)
noncomputable def T79 (l : List Int) (c : Case) (s : List Int) (n : Int) : P79 → Tr P79 R79
  | .e => (.wait 2 (.own 6 3 1 (.go (.l0 0 ([])))))
  | .l0 x0_14 a0_0 => let c1 := x0_14 + (1 : Int); (.br (decide (x0_14 < (c.claims.length : Int))) (.call 67 [tint.lst s, iI x0_14] (iI (settled s x0_14)) true true (.br ((settled s x0_14) == n) (.need ((decide (a0_0.length = a0_0.length) && decide (a0_0.length + 1 ≤ 4294967296)) && decide (1 ≤ 1)) (.scal (fun _ => true) (.need (inR .i64 c1) (.go (.l0 c1 (x0_14 :: a0_0)))))) (.need (inR .i64 c1) (.go (.l0 c1 a0_0))))) (.out (.r0 a0_0)))
noncomputable def g79 (l : List Int) (c : Case) (s : List Int) (n : Int) : P79 → List Item × St
  | .e => bd Tryz.f79 [court c l, tint.lst s, iI n] 25
  | .l0 x0_14 a0_0 => (cutOf Tryz.f79 0, ⟨mk 28 [(1, tint.lst s), (2, iI n), (6, .row 0 a0_0.length), (13, iI (c.claims.length : Int)), (14, iI x0_14)], [.rows 3 1 a0_0.length (rowsRev tint a0_0)], []⟩)
noncomputable def n79 : R79 → Exit × St
  | .r0 r0 => (.ret, ⟨mk 28 [(6, .row 0 r0.length)], [.rows 3 1 r0.length (rowsRev tint r0)], []⟩)
noncomputable def v79 : R79 → V
  | .r0 r0 => tint.lst r0.reverse
theorem s79 (l : List Int) (c : Case) (s : List Int) (n : Int) : Sm 0 (g79 l c s n) (T79 l c s n) (n79)
  | .e => ⟨400, by kernel_rfl⟩
  | .l0 _ _ => ⟨400, by kernel_rfl⟩
theorem q79 : ∀ r, bodyQ Tryz.prog Tryz.f79 (· = v79 r) (n79 r).1 (n79 r).2
  | .r0 r0 => ⟨.inr rfl, by simp [n79], (.row 0 r0.length), (tint.lst r0.reverse), by kernel_rfl, (.weak (.row rfl (Nat.le_refl _)) (VLe.rev tint r0)), rfl⟩
theorem w79 (l : List Int) (c : Case) (s : List Int) (n : Int) {post : V → Prop} (h : WQ (T79 l c s n) v79 post .e) : PC 79 [court c l, tint.lst s, iI n] post :=
  PCalls.wq Tryz.func79 (s79 l c s n) q79 h
theorem c79 (c : Case) (l s : List Int) (how : Int) (h5 : c.claims.length ≤ 5) (hs : ∀ x ∈ s, 0 ≤ x ∧ x < 32) : PC 79 [court c l, tint.lst s, iI how] (· = tint.lst (each c.claims.length s how)) := by
  have he : ∀ n, each n s how = filtI (fun (i : Nat) => settled s i == how) n := fun _ => rfl
  refine w79 _ _ _ _ (WP.step ?_)
  simp only [T79, Go, Ends', v79, Tr.sure, SS]
  repeat' with_reducible first | intro _ | apply And.intro
  refine WP.run (fun i => .l0 i (each i s how).reverse) rfl c.claims.length (fun i hi => ?_) ?_
  · have hr : inR .i64 ((i : Int) + 1) = true := inR64 (by omega) (by omega)
    have hle : (each i s how).reverse.length + 1 ≤ 4294967296 := by rw [List.length_reverse, he]; have := filtI_len (fun (i : Nat) => settled s i == how) i; omega
    have hn : (each (i + 1) s how).reverse = if (settled s i == how) = true then (i : Int) :: (each i s how).reverse else (each i s how).reverse := by rw [he, he]; exact filtI_rev _ _
    have hi' : ((i : Nat) : Int) < c.claims.length := by omega
    generalize (each (i + 1) s how).reverse = B at *
    generalize (each i s how).reverse = A at *
    refine WP.once ?_
    simp only [T79, Tr.sure, SS, hi', hi]
    repeat' with_reducible first | intro _ | apply And.intro
    all_goals first | exact (c67 _ _ hs (by omega)) | (simp [hr, hle, hn, Go, Ends', v79, -List.getD_eq_getElem?_getD, *]; done)
  · refine WP.step ?_
    simp only [T79, Go, Ends', v79, Tr.sure, SS, Int.lt_irrefl]
    repeat' with_reducible first | intro _ | apply And.intro
    all_goals simp [Go, Ends', v79, -List.getD_eq_getElem?_getD, *]
end
noncomputable section
inductive P152
  | e
inductive R152
  | r0 (r0 : Bool)
noncomputable def T152 (x : Int) : P152 → Tr P152 R152
  | .e => (.out (.r0 (x != x)))
noncomputable def g152 (x : Int) : P152 → List Item × St
  | .e => bd Tryz.f152 [iI x] 5
noncomputable def n152 : R152 → Exit × St
  | .r0 r0 => (.ret, ⟨mk 6 [(2, .bool r0)], [], []⟩)
noncomputable def v152 : R152 → V
  | .r0 r0 => .bool r0
theorem s152 (x : Int) : Sm 0 (g152 x) (T152 x) (n152)
  | .e => ⟨400, by kernel_rfl⟩
theorem q152 : ∀ r, bodyQ Tryz.prog Tryz.f152 (· = v152 r) (n152 r).1 (n152 r).2
  | .r0 r0 => bq (.bool r0) (by kernel_rfl)
theorem w152 (x : Int) {post : V → Prop} (h : WQ (T152 x) v152 post .e) : PC 152 [iI x] post :=
  PCalls.wq Tryz.func152 (s152 x) q152 h
theorem c152 (x : Int) : PC 152 [iI x] (· = .bool false) := by
  refine w152 _ (WP.step ?_)
  simp only [T152, Go, Ends', v152, Tr.sure, SS]
  repeat' with_reducible first | intro _ | apply And.intro
  all_goals simp [Go, Ends', v152, -List.getD_eq_getElem?_getD, *]
def cmpI (x y : Int) : Int := if x < y then -1 else if x > y then 1 else 0
inductive P108
  | e
inductive R108
  | r0 (r0 : Int)
noncomputable def T108 (x : Int) (y : Int) : P108 → Tr P108 R108
  | .e => (.call 152 [iI x] (.bool false) true true (.call 152 [iI y] (.bool false) true true (.lit false (.lit false (.br (decide (x < y)) (.out (.r0 (-1))) (.br (decide (x > y)) (.out (.r0 1)) (.out (.r0 0))))))))
noncomputable def g108 (x : Int) (y : Int) : P108 → List Item × St
  | .e => bd Tryz.f108 [iI x, iI y] 18
noncomputable def n108 : R108 → Exit × St
  | .r0 r0 => (.ret, ⟨mk 20 [(4, iI r0)], [], []⟩)
noncomputable def v108 : R108 → V
  | .r0 r0 => iI r0
theorem s108 (x : Int) (y : Int) : Sm 0 (g108 x y) (T108 x y) (n108)
  | .e => ⟨400, by kernel_rfl⟩
theorem q108 : ∀ r, bodyQ Tryz.prog Tryz.f108 (· = v108 r) (n108 r).1 (n108 r).2
  | .r0 r0 => bq (iI r0) (by kernel_rfl)
theorem w108 (x : Int) (y : Int) {post : V → Prop} (h : WQ (T108 x y) v108 post .e) : PC 108 [iI x, iI y] post :=
  PCalls.wq Tryz.func108 (s108 x y) q108 h
theorem c108 (x y : Int) : PC 108 [iI x, iI y] (· = iI (cmpI x y)) := by
  refine w108 _ _ (WP.step ?_)
  simp only [T108, Go, Ends', v108, Tr.sure, SS]
  repeat' with_reducible first | intro _ | apply And.intro
  all_goals first | exact (c152 _) | (simp [cmpI, Go, Ends', v108, -List.getD_eq_getElem?_getD, *]; done)
def cmpL : List Int → List Int → Int
  | [], [] => 0
  | [], _ :: _ => -1
  | _ :: _, [] => 1
  | x :: a, y :: b => if cmpI x y ≠ 0 then cmpI x y else cmpL a b
theorem cmpL_less : ∀ a b : List Int, decide (cmpL a b < 0) = less a b
  | [], [] => rfl
  | [], _ :: _ => rfl
  | _ :: _, [] => rfl
  | x :: a, y :: b => by
    have ih := cmpL_less a b
    simp only [cmpL, less, cmpI]
    by_cases h : x = y
    · subst h; simp [ih]
    · by_cases h1 : x < y
      · simp [h, h1]
      · have h2 : x > y := by omega
        simp [h, h1, h2]
theorem cmpL_drop (a b : List Int) {i : Nat} (ha : i < a.length) (hb : i < b.length) : cmpL (a.drop i) (b.drop i) = if cmpI (a.getD i 0) (b.getD i 0) ≠ 0 then cmpI (a.getD i 0) (b.getD i 0) else cmpL (a.drop (i + 1)) (b.drop (i + 1)) := by
  rw [drop_cons 0 a i ha, drop_cons 0 b i hb]; rfl
theorem cmpL_more (a b : List Int) {i : Nat} (ha : i < a.length) (hb : b.length ≤ i) : cmpL (a.drop i) (b.drop i) = 1 := by
  rw [drop_cons 0 a i ha, List.drop_eq_nil_of_le hb]; rfl
theorem cmpL_end (a b : List Int) : cmpL (a.drop a.length) (b.drop a.length) = if a.length < b.length then -1 else 0 := by
  rw [List.drop_length]
  by_cases h : a.length < b.length
  · rw [drop_cons 0 b _ h, if_pos h]; rfl
  · rw [List.drop_eq_nil_of_le (by omega), if_neg h]; rfl
inductive P86
  | e
  | l0 (x0_11 : Int)
inductive R86
  | r0 (r0 : Int)
noncomputable def T86 (p0 : List Int) (p1 : List Int) : P86 → Tr P86 R86
  | .e => (.go (.l0 0))
  | .l0 x0_11 => let c1 := cmpI (p0.getD (x0_11).toNat tint.zero) (p1.getD (x0_11).toNat tint.zero); let c2 := (p1.length : Int); let c3 := (p0.length : Int); (.br (decide (x0_11 < c3)) (.need (decide (0 ≤ x0_11) && decide (x0_11 < c3)) (.br (decide (x0_11 ≥ c2)) (.out (.r0 1)) (.need (decide (0 ≤ x0_11) && decide (x0_11 < c2)) (.call 108 [iI (p0.getD (x0_11).toNat tint.zero), iI (p1.getD (x0_11).toNat tint.zero)] (iI c1) true true (.br (c1 != (0 : Int)) (.out (.r0 c1)) (.need (inR .i64 (x0_11 + (1 : Int))) (.go (.l0 (x0_11 + (1 : Int)))))))))) (.br (decide (c3 < c2)) (.out (.r0 (-1))) (.out (.r0 0))))
noncomputable def g86 (p0 : List Int) (p1 : List Int) : P86 → List Item × St
  | .e => bd Tryz.f86 [tint.lst p0, tint.lst p1] 34
  | .l0 x0_11 => (cutOf Tryz.f86 0, ⟨mk 36 [(0, tint.lst p0), (1, tint.lst p1), (9, tint.lst p0), (10, iI (p0.length : Int)), (11, iI x0_11)], [], []⟩)
noncomputable def n86 : R86 → Exit × St
  | .r0 r0 => (.ret, ⟨mk 36 [(4, iI r0)], [], []⟩)
noncomputable def v86 : R86 → V
  | .r0 r0 => iI r0
theorem s86 (p0 : List Int) (p1 : List Int) : Sm 0 (g86 p0 p1) (T86 p0 p1) (n86)
  | .e => ⟨400, by kernel_rfl⟩
  | .l0 _ => ⟨400, by kernel_rfl⟩
theorem q86 : ∀ r, bodyQ Tryz.prog Tryz.f86 (· = v86 r) (n86 r).1 (n86 r).2
  | .r0 r0 => bq (iI r0) (by kernel_rfl)
theorem w86 (p0 : List Int) (p1 : List Int) {post : V → Prop} (h : WQ (T86 p0 p1) v86 post .e) : PC 86 [tint.lst p0, tint.lst p1] post :=
  PCalls.wq Tryz.func86 (s86 p0 p1) q86 h
theorem e86 : ∀ xs w, (callFunc 86 xs).run Tryz.prog w = .ok (.enter 86 xs) w := PCalls.enters Tryz.func86 (c := Tryz.f86.body.getD .skip) (by kernel_rfl) (by kernel_rfl)
theorem c86 (a b : List Int) : PC 86 [tint.lst a, tint.lst b] (· = iI (cmpL a b)) := by
  refine PCalls.assume e86 0 (by simp) .list fun hl => ?_
  refine w86 _ _ (WP.step ?_)
  simp only [T86, Go, Ends', v86, Tr.sure, SS]
  repeat' with_reducible first | intro _ | apply And.intro
  refine WP.count (fun i => .l0 (i : Int)) rfl a.length (fun i => cmpL a b = cmpL (a.drop i) (b.drop i)) rfl (fun i hi hI => ?_) fun hI => ?_
  · have hr := inRi hi hl
    have hi' : (i : Int) < a.length := by omega
    by_cases hb : i < b.length
    · have hb' : ¬ (b.length : Int) ≤ (i : Int) := by omega
      have hb2 : (i : Int) < b.length := by omega
      have hd := cmpL_drop a b hi hb
      have hd1 : cmpI (a.getD i 0) (b.getD i 0) = 0 → cmpL a b = cmpL (a.drop (i + 1)) (b.drop (i + 1)) := fun h => by rw [hI, hd, if_neg (by simpa using h)]
      have hd2 : ¬ cmpI (a.getD i 0) (b.getD i 0) = 0 → cmpL a b = cmpI (a.getD i 0) (b.getD i 0) := fun h => by rw [hI, hd, if_pos h]
      clear hI hd
      refine WP.once ?_
      simp only [T86, Tr.sure, SS, hi', hb', hb2, z1]
      repeat' with_reducible first | intro _ | apply And.intro
      all_goals first | exact (c108 _ _) | (simp [hr, Go, Ends', v86, -List.getD_eq_getElem?_getD, *]; done)
      all_goals (right; simp only [Go, Ends', v86]; rw [hd2 (by assumption)])
    · have hb' : (b.length : Int) ≤ (i : Int) := by omega
      have hm : cmpL a b = 1 := by rw [hI]; exact cmpL_more a b hi (by omega)
      clear hI
      refine WP.once ?_
      simp only [T86, Tr.sure, SS, hi', hb', z1]
      repeat' with_reducible first | intro _ | apply And.intro
      all_goals simp [hr, hm, Go, Ends', v86, -List.getD_eq_getElem?_getD, *]
  · have he : cmpL a b = if (a.length : Int) < (b.length : Int) then -1 else 0 := by rw [hI, cmpL_end]; simp only [Int.ofNat_lt]
    refine WP.step ?_
    simp only [T86, Go, Ends', v86, Tr.sure, SS, Int.lt_irrefl]
    repeat' with_reducible first | intro _ | apply And.intro
    all_goals simp [he, Go, Ends', v86, -List.getD_eq_getElem?_getD, *]
inductive P85
  | e
inductive R85
  | r0 (r0 : Bool)
noncomputable def T85 (p0 : List Int) (p1 : List Int) : P85 → Tr P85 R85
  | .e => (.br (decide ((p0.length : Int) < (p1.length : Int))) (.lit true (.out (.r0 true))) (.br ((p0.length : Int) == (p1.length : Int)) (.call 86 [tint.lst p0, tint.lst p1] (iI (cmpL p0 p1)) true true (.lit false (.out (.r0 (decide ((cmpL p0 p1) < (0 : Int))))))) (.lit false (.out (.r0 false)))))
noncomputable def g85 (p0 : List Int) (p1 : List Int) : P85 → List Item × St
  | .e => bd Tryz.f85 [tint.lst p0, tint.lst p1] 21
noncomputable def n85 : R85 → Exit × St
  | .r0 r0 => (.ret, ⟨mk 23 [(4, .bool r0)], [], []⟩)
noncomputable def v85 : R85 → V
  | .r0 r0 => .bool r0
theorem s85 (p0 : List Int) (p1 : List Int) : Sm 0 (g85 p0 p1) (T85 p0 p1) (n85)
  | .e => ⟨400, by kernel_rfl⟩
theorem q85 : ∀ r, bodyQ Tryz.prog Tryz.f85 (· = v85 r) (n85 r).1 (n85 r).2
  | .r0 r0 => bq (.bool r0) (by kernel_rfl)
theorem w85 (p0 : List Int) (p1 : List Int) {post : V → Prop} (h : WQ (T85 p0 p1) v85 post .e) : PC 85 [tint.lst p0, tint.lst p1] post :=
  PCalls.wq Tryz.func85 (s85 p0 p1) q85 h
theorem c85 (a b : List Int) : PC 85 [tint.lst a, tint.lst b] (· = .bool (fewer a b)) := by
  have h0 := cmpL_less a b
  have hfe : fewer a b = (decide ((a.length : Int) < b.length) || (decide ((a.length : Int) = b.length) && decide (cmpL a b < 0))) := by
    rw [h0]; unfold fewer
    by_cases h : a.length = b.length
    · simp [h]
    · have : ¬ (a.length : Int) = b.length := by omega
      simp [h, this]
  refine w85 _ _ (WP.step ?_)
  simp only [T85, Go, Ends', v85, Tr.sure, SS]
  repeat' with_reducible first | intro _ | apply And.intro
  all_goals first | exact (c86 _ _) | (simp [hfe, Go, Ends', v85, -List.getD_eq_getElem?_getD, *]; done)
inductive P88
  | e
  | l0 (x0_4 : Int) (x0_9 : Int)
inductive R88
  | r0 (r0 : Int)
noncomputable def T88 (l : List Int) (c : Case) (s : List Int) : P88 → Tr P88 R88
  | .e => (.go (.l0 0 0))
  | .l0 x0_4 x0_9 => let c1 := s.getD (x0_9).toNat tint.zero; let c2 := x0_4 + (c.claims.getD (c1).toNat tClaim.zero).worth; (.br (decide (x0_9 < (s.length : Int))) (.need (decide (0 ≤ x0_9) && decide (x0_9 < (s.length : Int))) (.need (decide (0 ≤ c1) && decide (c1 < (c.claims.length : Int))) (.need (inR .i64 c2) (.need (inR .i64 (x0_9 + (1 : Int))) (.go (.l0 c2 (x0_9 + (1 : Int)))))))) (.out (.r0 x0_4)))
noncomputable def g88 (l : List Int) (c : Case) (s : List Int) : P88 → List Item × St
  | .e => bd Tryz.f88 [court c l, tint.lst s] 24
  | .l0 x0_4 x0_9 => (cutOf Tryz.f88 0, ⟨mk 26 [(0, court c l), (4, iI x0_4), (7, tint.lst s), (8, iI (s.length : Int)), (9, iI x0_9)], [], []⟩)
noncomputable def n88 : R88 → Exit × St
  | .r0 r0 => (.ret, ⟨mk 26 [(4, iI r0)], [], []⟩)
noncomputable def v88 : R88 → V
  | .r0 r0 => iI r0
theorem s88 (l : List Int) (c : Case) (s : List Int) : Sm 0 (g88 l c s) (T88 l c s) (n88)
  | .e => ⟨400, by kernel_rfl⟩
  | .l0 _ _ => ⟨400, by kernel_rfl⟩
theorem q88 : ∀ r, bodyQ Tryz.prog Tryz.f88 (· = v88 r) (n88 r).1 (n88 r).2
  | .r0 r0 => bq (iI r0) (by kernel_rfl)
theorem w88 (l : List Int) (c : Case) (s : List Int) {post : V → Prop} (h : WQ (T88 l c s) v88 post .e) : PC 88 [court c l, tint.lst s] post :=
  PCalls.wq Tryz.func88 (s88 l c s) q88 h
theorem c88 (c : Case) (l s : List Int) (h : OkCase c) (hs : OkL c s) : PC 88 [court c l, tint.lst s] (· = iI (worth c s)) := by
  refine w88 _ _ _ (WP.step ?_)
  simp only [T88, Go, Ends', v88, Tr.sure, SS]
  repeat' with_reducible first | intro _ | apply And.intro
  refine WP.run (fun i => .l0 (worth c (s.take i)) i) rfl s.length (fun i hi => ?_) ?_
  · have h8 := hs.len
    have hr : inR .i64 ((i : Int) + 1) = true := inR64 (by omega) (by omega)
    have h2 := hs.mem _ (getD_mem 0 s i hi)
    have h3 := worth_bd c (s.take (i + 1)) h ⟨fun n hn => hs.mem n (List.mem_of_mem_take hn), by simp; omega⟩
    have h4 := worth_take c s hi
    have hr2 : inR .i64 (worth c (s.take i) + (cl c (s.getD i 0).toNat).worth) = true := by rw [← h4]; exact inR64 (by omega) (by omega)
    have hi' : ((i : Nat) : Int) < s.length := by omega
    have hcl : c.claims.getD (s.getD i 0).toNat zClaim = cl c (s.getD i 0).toNat := rfl
    rw [h4]
    refine WP.once ?_
    simp only [T88, Tr.sure, SS, hi', hi, z1, z8, hcl, h2.1, h2.2]
    repeat' with_reducible first | intro _ | apply And.intro
    all_goals simp [hr, hr2, h2.1, h2.2, Go, Ends', v88, -List.getD_eq_getElem?_getD, *]
  · rw [List.take_length]
    refine WP.step ?_
    simp only [T88, Go, Ends', v88, Tr.sure, SS, Int.lt_irrefl]
    repeat' with_reducible first | intro _ | apply And.intro
end
noncomputable section
inductive P138
  | e
inductive R138
  | r0 (r0 : Int)
noncomputable def T138 (p0 : Int) : P138 → Tr P138 R138
  | .e => let c1 := bitsOf .and .u64 (IntKind.wrap .u64 (((IntKind.wrap .u64 ((bitsOf .and .u64 ((IntKind.wrap .u64 ((bitsOf .and .u64 (p0.fdiv (2 ^ (min ((1 : Int)).toNat 64))) (6148914691236517205 : Int)) + (bitsOf .and .u64 p0 (6148914691236517205 : Int)))).fdiv (2 ^ (min ((2 : Int)).toNat 64))) (3689348814741910323 : Int)) + (bitsOf .and .u64 (IntKind.wrap .u64 ((bitsOf .and .u64 (p0.fdiv (2 ^ (min ((1 : Int)).toNat 64))) (6148914691236517205 : Int)) + (bitsOf .and .u64 p0 (6148914691236517205 : Int)))) (3689348814741910323 : Int)))).fdiv (2 ^ (min ((4 : Int)).toNat 64))) + (IntKind.wrap .u64 ((bitsOf .and .u64 ((IntKind.wrap .u64 ((bitsOf .and .u64 (p0.fdiv (2 ^ (min ((1 : Int)).toNat 64))) (6148914691236517205 : Int)) + (bitsOf .and .u64 p0 (6148914691236517205 : Int)))).fdiv (2 ^ (min ((2 : Int)).toNat 64))) (3689348814741910323 : Int)) + (bitsOf .and .u64 (IntKind.wrap .u64 ((bitsOf .and .u64 (p0.fdiv (2 ^ (min ((1 : Int)).toNat 64))) (6148914691236517205 : Int)) + (bitsOf .and .u64 p0 (6148914691236517205 : Int)))) (3689348814741910323 : Int)))))) (1085102592571150095 : Int); let c2 := IntKind.wrap .u64 ((IntKind.wrap .u64 (c1 + (c1.fdiv (2 ^ (min ((8 : Int)).toNat 64))))) + ((IntKind.wrap .u64 (c1 + (c1.fdiv (2 ^ (min ((8 : Int)).toNat 64))))).fdiv (2 ^ (min ((16 : Int)).toNat 64)))); let c3 := IntKind.wrap .u64 (c2 + (c2.fdiv (2 ^ (min ((32 : Int)).toNat 64)))); (.need (decide (0 ≤ (1 : Int))) (.need true (.need (decide (0 ≤ (2 : Int))) (.need true (.need (decide (0 ≤ (4 : Int))) (.need true (.need (decide (0 ≤ (8 : Int))) (.need true (.need (decide (0 ≤ (16 : Int))) (.need true (.need (decide (0 ≤ (32 : Int))) (.need true (.need (inR .i64 c3) (.out (.r0 (bitsOf .and .i64 c3 (127 : Int)))))))))))))))))
noncomputable def g138 (p0 : Int) : P138 → List Item × St
  | .e => bd Tryz.f138 [.int .u64 p0] 34
noncomputable def n138 : R138 → Exit × St
  | .r0 r0 => (.ret, ⟨mk 35 [(2, iI r0)], [], []⟩)
noncomputable def v138 : R138 → V
  | .r0 r0 => iI r0
theorem s138 (p0 : Int) : Sm 0 (g138 p0) (T138 p0) (n138)
  | .e => ⟨400, by kernel_rfl⟩
theorem q138 : ∀ r, bodyQ Tryz.prog Tryz.f138 (· = v138 r) (n138 r).1 (n138 r).2
  | .r0 r0 => bq (iI r0) (by kernel_rfl)
theorem w138 (p0 : Int) {post : V → Prop} (h : WQ (T138 p0) v138 post .e) : PC 138 [.int .u64 p0] post :=
  PCalls.wq Tryz.func138 (s138 p0) q138 h
def goods138 (s : Int) : Tr P138 R138 → Bool
  | .need b t => b && goods138 s t
  | .out (.r0 n) => n == manyZ s
  | _ => false
set_option maxHeartbeats 2000000 in
theorem goods138_ok (s : Int) : ∀ t, goods138 s t = true → t.sure Tryz.prog ⟨none, 0⟩ (fun x => Ends' (α := P138) (fun r => v138 r = iI (manyZ s)) x)
  | .need b t, h => by
    simp only [goods138, Bool.and_eq_true] at h
    exact ⟨h.1, fun _ => goods138_ok s t h.2⟩
  | .out (.r0 n), h => by
    simp only [goods138, beq_iff_eq] at h
    subst h; rfl
theorem ones_all : (allS (fun s => goods138 s (T138 s .e)) 32) = true := by kernel_rfl
theorem c138 (s : Int) (hs : 0 ≤ s ∧ s < 32) : PC 138 [.int .u64 s] (· = iI (manyZ s)) := by
  obtain ⟨n, rfl⟩ := Int.eq_ofNat_of_zero_le hs.1
  have := allS_iff ones_all (i := n) (by omega)
  refine w138 _ (WP.step ?_)
  exact Tr.sure_mono (fun x hx => by cases x <;> first | exact hx | exact hx.elim) (goods138_ok _ _ this)
theorem wrap_all : (allS (fun s => IntKind.wrap .u64 (s : Int) == (s : Int)) 32) = true := by kernel_rfl
theorem wrap32 {s : Int} (hs : 0 ≤ s ∧ s < 32) : IntKind.wrap .u64 s = s := by
  obtain ⟨n, rfl⟩ := Int.eq_ofNat_of_zero_le hs.1
  exact eq_of_beq (allS_iff wrap_all (i := n) (by omega))
inductive P91
  | e
inductive R91
  | r0 (r0 : Int)
noncomputable def T91 (p0 : Int) : P91 → Tr P91 R91
  | .e => (.lit false (.call 138 [.int .u64 p0] (iI (manyZ p0)) true true (.out (.r0 (manyZ p0)))))
noncomputable def g91 (p0 : Int) : P91 → List Item × St
  | .e => bd Tryz.f91 [.int .u64 p0] 7
noncomputable def n91 : R91 → Exit × St
  | .r0 r0 => (.ret, ⟨mk 8 [(2, iI r0)], [], []⟩)
noncomputable def v91 : R91 → V
  | .r0 r0 => iI r0
theorem s91 (p0 : Int) : Sm 0 (g91 p0) (T91 p0) (n91)
  | .e => ⟨400, by kernel_rfl⟩
theorem q91 : ∀ r, bodyQ Tryz.prog Tryz.f91 (· = v91 r) (n91 r).1 (n91 r).2
  | .r0 r0 => bq (iI r0) (by kernel_rfl)
theorem w91 (p0 : Int) {post : V → Prop} (h : WQ (T91 p0) v91 post .e) : PC 91 [.int .u64 p0] post :=
  PCalls.wq Tryz.func91 (s91 p0) q91 h
theorem c91 (s : Int) (hs : 0 ≤ s ∧ s < 32) : PC 91 [.int .u64 s] (· = iI (manyZ s)) := by
  refine w91 _ (WP.step ?_)
  simp only [T91, Go, Ends', v91, Tr.sure, SS]
  repeat' with_reducible first | intro _ | apply And.intro
  all_goals exact (c138 s hs)
inductive P90
  | e
inductive R90
  | r0 (r0 : Bool)
noncomputable def T90 (p0 : Int) (p1 : Int) : P90 → Tr P90 R90
  | .e => let c1 := IntKind.wrap .u64 p1; let c2 := IntKind.wrap .u64 p0; (.need true (.call 91 [.int .u64 c2] (iI (manyZ c2)) true true (.need true (.call 91 [.int .u64 c1] (iI (manyZ c1)) true true (.out (.r0 (decide ((manyZ c2) > (manyZ c1)))))))))
noncomputable def g90 (p0 : Int) (p1 : Int) : P90 → List Item × St
  | .e => bd Tryz.f90 [iI p0, iI p1] 10
noncomputable def n90 : R90 → Exit × St
  | .r0 r0 => (.ret, ⟨mk 12 [(4, .bool r0)], [], []⟩)
noncomputable def v90 : R90 → V
  | .r0 r0 => .bool r0
theorem s90 (p0 : Int) (p1 : Int) : Sm 0 (g90 p0 p1) (T90 p0 p1) (n90)
  | .e => ⟨400, by kernel_rfl⟩
theorem q90 : ∀ r, bodyQ Tryz.prog Tryz.f90 (· = v90 r) (n90 r).1 (n90 r).2
  | .r0 r0 => bq (.bool r0) (by kernel_rfl)
theorem w90 (p0 : Int) (p1 : Int) {post : V → Prop} (h : WQ (T90 p0 p1) v90 post .e) : PC 90 [iI p0, iI p1] post :=
  PCalls.wq Tryz.func90 (s90 p0 p1) q90 h
theorem c90 (x y : Int) (hx : 0 ≤ x ∧ x < 32) (hy : 0 ≤ y ∧ y < 32) : PC 90 [iI x, iI y] (· = .bool (decide (manyZ x > manyZ y))) := by
  have w1 := wrap32 hx
  have w2 := wrap32 hy
  refine w90 _ _ (WP.step ?_)
  simp only [T90, Go, Ends', v90, Tr.sure, SS, w1, w2]
  repeat' with_reducible first | intro _ | apply And.intro
  all_goals first | exact (c91 x hx) | exact (c91 y hy)
inductive P92
  | e
inductive R92
  | r0 (r0 : Bool)
noncomputable def T92 (x : Int) (y : Int) : P92 → Tr P92 R92
  | .e => let c1 := IntKind.wrap .u64 y; let c2 := IntKind.wrap .u64 x; (.front [(2, 91, [.int .u64 c2], iI (manyZ c2))] [] true true (.call 91 [.int .u64 c1] (iI (manyZ c1)) true true (.out (.r0 (decide ((manyZ c2) < (manyZ c1)))))))
noncomputable def g92 (x : Int) (y : Int) : P92 → List Item × St
  | .e => bd Tryz.f92 [iI x, rR (iI y)] 9
noncomputable def n92 : R92 → Exit × St
  | .r0 r0 => (.ret, ⟨mk 11 [(3, .bool r0)], [], []⟩)
noncomputable def v92 : R92 → V
  | .r0 r0 => .bool r0
theorem s92 (x : Int) (y : Int) : Sm 0 (g92 x y) (T92 x y) (n92)
  | .e => ⟨400, by kernel_rfl⟩
theorem q92 : ∀ r, bodyQ Tryz.prog Tryz.f92 (· = v92 r) (n92 r).1 (n92 r).2
  | .r0 r0 => bq (.bool r0) (by kernel_rfl)
theorem w92 (x : Int) (y : Int) {post : V → Prop} (h : WQ (T92 x y) v92 post .e) : PC 92 [iI x, rR (iI y)] post :=
  PCalls.wq Tryz.func92 (s92 x y) q92 h
theorem c92 (x y : Int) (hx : 0 ≤ x ∧ x < 32) (hy : 0 ≤ y ∧ y < 32) : PC 92 [iI x, rR (iI y)] (· = .bool (decide (manyZ x < manyZ y))) := by
  have w1 := wrap32 hx
  have w2 := wrap32 hy
  refine w92 _ _ (WP.step ?_)
  simp only [T92, Go, Ends', v92, Tr.sure, SS, w1, w2]
  repeat' with_reducible first | intro _ | apply And.intro
  all_goals first | exact (c91 x hx) | exact (c91 y hy)
end
noncomputable section
def bstOf {τ : Type} (p : τ → τ → Bool) (d : τ) : List τ → τ
  | [] => d
  | x :: l => l.foldl (fun b y => if p y b = true then y else b) x
theorem bst_take {τ : Type} (p : τ → τ → Bool) (d : τ) (l : List τ) {i : Nat} (hi : i < l.length) : bstOf p d (l.take (i + 1)) = if i = 0 then l.getD 0 d else if p (l.getD i d) (bstOf p d (l.take i)) = true then l.getD i d else bstOf p d (l.take i) := by
  cases l with
  | nil => simp at hi
  | cons x l =>
    cases i with
    | zero => simp [bstOf]
    | succ i =>
      have hi' : i < l.length := by simpa using hi
      simp only [List.take_succ_cons, bstOf, Nat.succ_ne_zero, if_false]
      rw [foldl_take (fun b y => if p y b = true then y else b) x l d hi']
      rfl
theorem bst_in {τ : Type} {p : τ → τ → Bool} {d : τ} {ok : τ → Prop} : ∀ (l : List τ), (∀ x ∈ l, ok x) → ok d → ok (bstOf p d l)
  | [], _, hd => hd
  | x :: l, h, _ => by
    have key : ∀ (l : List τ) (b : τ), ok b → (∀ x ∈ l, ok x) → ok (l.foldl (fun b y => if p y b = true then y else b) b) := by
      intro l
      induction l with
      | nil => intro b hb _; exact hb
      | cons y l ih =>
        intro b hb hl
        rw [List.foldl_cons]
        refine ih _ ?_ fun z hz => hl z (by simp [hz])
        split
        · exact hl y (by simp)
        · exact hb
    exact key l x (h x (by simp)) fun y hy => h y (by simp [hy])
inductive P84
  | e
  | l0 (x0_4 : List Int) (x0_9 : Int)
inductive R84
  | r0 (r0 : List Int)
noncomputable def T84 (g : Nat) (p : List Int → List Int → Bool) (s : List (List Int)) : P84 → Tr P84 R84
  | .e => (.wait 6 (.vle 4 .nils (tint.lst ([] : List Int)) (.go (.l0 ([] : List Int) 0))))
  | .l0 x0_4 x0_9 => let c1 := s.getD (x0_9).toNat (tlist tint).zero; let c2 := x0_9 + (1 : Int); let c3 : Tr P84 R84 := .need (inR .i64 c2) (.go (.l0 c1 c2)); (.br (decide (x0_9 < (s.length : Int))) (.need (decide (0 ≤ x0_9) && decide (x0_9 < (s.length : Int))) (.br (x0_9 == (0 : Int)) (.lit true c3) (.call g [tint.lst c1, tint.lst x0_4] (.bool (p c1 x0_4)) true true (.br (p c1 x0_4) c3 (.need (inR .i64 c2) (.go (.l0 x0_4 c2))))))) (.out (.r0 x0_4)))
noncomputable def g84 (g : Nat) (p : List Int → List Int → Bool) (s : List (List Int)) : P84 → List Item × St
  | .e => bd Tryz.f84 [(tlist tint).lst s, .func (.func g) [] []] 23
  | .l0 x0_4 x0_9 => (cutOf Tryz.f84 0, ⟨mk 25 [(1, .func (.func g) [] []), (4, tint.lst x0_4), (7, (tlist tint).lst s), (8, iI (s.length : Int)), (9, iI x0_9)], [], []⟩)
noncomputable def n84 : R84 → Exit × St
  | .r0 r0 => (.ret, ⟨mk 25 [(4, tint.lst r0)], [], []⟩)
noncomputable def v84 : R84 → V
  | .r0 r0 => tint.lst r0
theorem s84 (g : Nat) (p : List Int → List Int → Bool) (s : List (List Int)) : Sm 0 (g84 g p s) (T84 g p s) (n84)
  | .e => ⟨400, by kernel_rfl⟩
  | .l0 _ _ => ⟨400, by kernel_rfl⟩
theorem q84 : ∀ r, bodyQ Tryz.prog Tryz.f84 (· = v84 r) (n84 r).1 (n84 r).2
  | .r0 r0 => bq (tint.lst r0) (by kernel_rfl)
theorem w84 (g : Nat) (p : List Int → List Int → Bool) (s : List (List Int)) {post : V → Prop} (h : WQ (T84 g p s) v84 post .e) : PC 84 [(tlist tint).lst s, .func (.func g) [] []] post :=
  PCalls.wq Tryz.func84 (s84 g p s) q84 h
theorem e84 : ∀ xs w, (callFunc 84 xs).run Tryz.prog w = .ok (.enter 84 xs) w := PCalls.enters Tryz.func84 (c := Tryz.f84.body.getD .skip) (by kernel_rfl) (by kernel_rfl)
theorem c84 {g : Nat} {p : List Int → List Int → Bool} {ok : List Int → Prop} (s : List (List Int)) (hg : ∀ a b, ok a → ok b → PC g [tint.lst a, tint.lst b] (· = .bool (p a b))) (hs : ∀ x ∈ s, ok x) (h0 : ok []) : PC 84 [(tlist tint).lst s, .func (.func g) [] []] (· = tint.lst (bstOf p [] s)) := by
  refine PCalls.assume e84 0 (by simp) .list fun hl => ?_
  refine w84 g p s (WP.step ?_)
  simp only [T84, Go, Ends', v84, Tr.sure, SS]
  repeat' with_reducible first | intro _ | apply And.intro
  all_goals first | exact VLe.nils | skip
  refine WP.run (fun i => .l0 (bstOf p [] (s.take i)) (i : Int)) rfl s.length (fun i hi => ?_) ?_
  · have hr := inRi hi hl
    have hz : (tlist tint).zero = ([] : List Int) := rfl
    have hi' : (i : Int) < s.length := by omega
    have ht := bst_take p [] s hi
    have hb := bst_in (p := p) (d := []) (s.take i) (fun x hx => hs x (List.mem_of_mem_take hx)) h0
    have hx := hs _ (getD_mem [] s i hi)
    rw [ht]
    by_cases hi0 : i = 0
    · subst hi0
      refine WP.once ?_
      simp only [T84, Tr.sure, SS, hi', hi, hz]
      repeat' with_reducible first | intro _ | apply And.intro
      all_goals first | (simp [hr, Go, Ends', v84, -List.getD_eq_getElem?_getD, *]; done) | (simp_all [hr, Go, Ends', v84, -List.getD_eq_getElem?_getD]; done)
    · have hi1 : ¬ (i : Int) = 0 := by omega
      have hg1 := hg _ _ hx hb
      generalize bstOf p [] (s.take i) = B at *
      refine WP.once ?_
      simp only [T84, Tr.sure, SS, hi', hi, hz, hi1]
      repeat' with_reducible first | intro _ | apply And.intro
      all_goals first | exact hg1 | (simp [hr, hi0, Go, Ends', v84, -List.getD_eq_getElem?_getD, *]; done)
  · rw [List.take_length]
    refine WP.step ?_
    simp only [T84, Go, Ends', v84, Tr.sure, SS, Int.lt_irrefl]
    repeat' with_reducible first | intro _ | apply And.intro
inductive P89
  | e
  | l0 (x0_4 : Int) (x0_9 : Int)
inductive R89
  | r0 (r0 : Int)
noncomputable def T89 (g : Nat) (p : Int → Int → Bool) (s : List Int) : P89 → Tr P89 R89
  | .e => (.go (.l0 0 0))
  | .l0 x0_4 x0_9 => let c1 := s.getD (x0_9).toNat tint.zero; let c2 := x0_9 + (1 : Int); let c3 : Tr P89 R89 := .need (inR .i64 c2) (.go (.l0 c1 c2)); (.br (decide (x0_9 < (s.length : Int))) (.need (decide (0 ≤ x0_9) && decide (x0_9 < (s.length : Int))) (.br (x0_9 == (0 : Int)) (.lit true c3) (.call g [iI c1, iI x0_4] (.bool (p c1 x0_4)) true true (.br (p c1 x0_4) c3 (.need (inR .i64 c2) (.go (.l0 x0_4 c2))))))) (.out (.r0 x0_4)))
noncomputable def g89 (g : Nat) (p : Int → Int → Bool) (s : List Int) : P89 → List Item × St
  | .e => bd Tryz.f89 [tint.lst s, .func (.func g) [] []] 23
  | .l0 x0_4 x0_9 => (cutOf Tryz.f89 0, ⟨mk 25 [(1, .func (.func g) [] []), (4, iI x0_4), (7, tint.lst s), (8, iI (s.length : Int)), (9, iI x0_9)], [], []⟩)
noncomputable def n89 : R89 → Exit × St
  | .r0 r0 => (.ret, ⟨mk 25 [(4, iI r0)], [], []⟩)
noncomputable def v89 : R89 → V
  | .r0 r0 => iI r0
theorem s89 (g : Nat) (p : Int → Int → Bool) (s : List Int) : Sm 0 (g89 g p s) (T89 g p s) (n89)
  | .e => ⟨400, by kernel_rfl⟩
  | .l0 _ _ => ⟨400, by kernel_rfl⟩
theorem q89 : ∀ r, bodyQ Tryz.prog Tryz.f89 (· = v89 r) (n89 r).1 (n89 r).2
  | .r0 r0 => bq (iI r0) (by kernel_rfl)
theorem w89 (g : Nat) (p : Int → Int → Bool) (s : List Int) {post : V → Prop} (h : WQ (T89 g p s) v89 post .e) : PC 89 [tint.lst s, .func (.func g) [] []] post :=
  PCalls.wq Tryz.func89 (s89 g p s) q89 h
theorem e89 : ∀ xs w, (callFunc 89 xs).run Tryz.prog w = .ok (.enter 89 xs) w := PCalls.enters Tryz.func89 (c := Tryz.f89.body.getD .skip) (by kernel_rfl) (by kernel_rfl)
theorem c89 {g : Nat} {p : Int → Int → Bool} {ok : Int → Prop} (s : List Int) (hg : ∀ a b, ok a → ok b → PC g [iI a, iI b] (· = .bool (p a b))) (hs : ∀ x ∈ s, ok x) (h0 : ok 0) : PC 89 [tint.lst s, .func (.func g) [] []] (· = iI (bstOf p 0 s)) := by
  refine PCalls.assume e89 0 (by simp) .list fun hl => ?_
  refine w89 g p s (WP.step ?_)
  simp only [T89, Go, Ends', v89, Tr.sure, SS]
  repeat' with_reducible first | intro _ | apply And.intro
  refine WP.run (fun i => .l0 (bstOf p 0 (s.take i)) (i : Int)) rfl s.length (fun i hi => ?_) ?_
  · have hr := inRi hi hl
    have hi' : (i : Int) < s.length := by omega
    have ht := bst_take p 0 s hi
    have hb := bst_in (p := p) (d := 0) (s.take i) (fun x hx => hs x (List.mem_of_mem_take hx)) h0
    have hx := hs _ (getD_mem 0 s i hi)
    rw [ht]
    by_cases hi0 : i = 0
    · subst hi0
      refine WP.once ?_
      simp only [T89, Tr.sure, SS, hi', hi, z1]
      repeat' with_reducible first | intro _ | apply And.intro
      all_goals first | (simp [hr, Go, Ends', v89, -List.getD_eq_getElem?_getD, *]; done) | (simp_all [hr, Go, Ends', v89, -List.getD_eq_getElem?_getD]; done)
    · have hi1 : ¬ (i : Int) = 0 := by omega
      have hg1 := hg _ _ hx hb
      generalize bstOf p 0 (s.take i) = B at *
      refine WP.once ?_
      simp only [T89, Tr.sure, SS, hi', hi, z1, hi1]
      repeat' with_reducible first | intro _ | apply And.intro
      all_goals first | exact hg1 | (simp [hr, hi0, Go, Ends', v89, -List.getD_eq_getElem?_getD, *]; done)
  · rw [List.take_length]
    refine WP.step ?_
    simp only [T89, Go, Ends', v89, Tr.sure, SS, Int.lt_irrefl]
    repeat' with_reducible first | intro _ | apply And.intro
end
noncomputable section
inductive P186
  | e
inductive R186
  | r0 (r0 : Bool)
noncomputable def T186 (n : Int) : P186 → Tr P186 R186
  | .e => (.out (.r0 (decide (n ≥ (4 : Int)))))
noncomputable def g186 (n : Int) : P186 → List Item × St
  | .e => bd Tryz.f186 [iI n] 4
noncomputable def n186 : R186 → Exit × St
  | .r0 r0 => (.ret, ⟨mk 5 [(2, .bool r0)], [], []⟩)
noncomputable def v186 : R186 → V
  | .r0 r0 => .bool r0
theorem s186 (n : Int) : Sm 0 (g186 n) (T186 n) (n186)
  | .e => ⟨400, by kernel_rfl⟩
theorem q186 : ∀ r, bodyQ Tryz.prog Tryz.f186 (· = v186 r) (n186 r).1 (n186 r).2
  | .r0 r0 => bq (.bool r0) (by kernel_rfl)
theorem w186 (n : Int) {post : V → Prop} (h : WQ (T186 n) v186 post .e) : PC 186 [iI n] post :=
  PCalls.wq Tryz.func186 (s186 n) q186 h
theorem c186 (n : Int) (h : 0 ≤ n ∧ n ≤ 5) : PC 186 [iI n] (· = .bool (lasting n)) := by
  have hd : lasting n = decide (n ≥ 4) := by
    rcases show n = 0 ∨ n = 1 ∨ n = 2 ∨ n = 3 ∨ n = 4 ∨ n = 5 by omega with e | e | e | e | e | e <;> rw [e] <;> rfl
  refine w186 _ (WP.step ?_)
  simp only [T186, Go, Ends', v186, Tr.sure, SS]
  repeat' with_reducible first | intro _ | apply And.intro
  all_goals simp [hd, Go, Ends', v186, -List.getD_eq_getElem?_getD, *]
inductive P164
  | e
inductive R164
  | r0 (r0 : Bool)
noncomputable def T164 (g : Nat) (p : Cast → Cast → Bool) (x : Claim) (l : Nat → Cast) (n : Int) : P164 → Tr P164 R164
  | .e => let c1 := l ((x.b).toNat); let c2 := l ((x.a).toNat); (.front [] [] (((decide (0 ≤ x.a) && decide (x.a < (4 : Int))) && ((decide ((x.a).toNat < 4) && decide (0 + 2 ≤ 2)) && ((decide (0 ≤ x.b) && decide (x.b < (4 : Int))) && ((decide ((x.b).toNat < 4) && decide (0 + 2 ≤ 2)) && true)))) && true) true (.call g [.agg [iI (c2.mould), iI (c2.number)], .agg [iI (c1.mould), iI (c1.number)]] (.bool (p c2 c1)) true true (.out (.r0 (p c2 c1)))))
noncomputable def g164 (g : Nat) (p : Cast → Cast → Bool) (x : Claim) (l : Nat → Cast) (n : Int) : P164 → List Item × St
  | .e => bd Tryz.f164 [.agg [iI x.own, iI x.kind, iI x.a, iI x.b, iI x.mould, iI x.feature, iI x.number, iI x.worth], .arr 2 4 (rowsFn tCast l), iI n, rR (.func (.func g) [] [])] 14
noncomputable def n164 : R164 → Exit × St
  | .r0 r0 => (.ret, ⟨mk 18 [(7, .bool r0)], [], []⟩)
noncomputable def v164 : R164 → V
  | .r0 r0 => .bool r0
theorem s164 (g : Nat) (p : Cast → Cast → Bool) (x : Claim) (l : Nat → Cast) (n : Int) : Sm 0 (g164 g p x l n) (T164 g p x l n) (n164)
  | .e => ⟨400, by kernel_rfl⟩
theorem q164 : ∀ r, bodyQ Tryz.prog Tryz.f164 (· = v164 r) (n164 r).1 (n164 r).2
  | .r0 r0 => bq (.bool r0) (by kernel_rfl)
theorem w164 (g : Nat) (p : Cast → Cast → Bool) (x : Claim) (l : Nat → Cast) (n : Int) {post : V → Prop} (h : WQ (T164 g p x l n) v164 post .e) : PC 164 [.agg [iI x.own, iI x.kind, iI x.a, iI x.b, iI x.mould, iI x.feature, iI x.number, iI x.worth], .arr 2 4 (rowsFn tCast l), iI n, rR (.func (.func g) [] [])] post :=
  PCalls.wq Tryz.func164 (s164 g p x l n) q164 h
theorem c164 {g : Nat} {p : Cast → Cast → Bool} (x : Claim) (l : Nat → Cast) (n : Int) (hg : ∀ a b : Cast, PC g [.agg (tCast.cells a), .agg (tCast.cells b)] (· = .bool (p a b))) (ha : 0 ≤ x.a ∧ x.a < 4) (hb : 0 ≤ x.b ∧ x.b < 4) :
    PC 164 [.agg (tClaim.cells x), .arr 2 4 (rowsFn tCast l), iI n, fc g] (· = .bool (p (l x.a.toNat) (l x.b.toNat))) := by
  refine w164 g p x l n (WP.step ?_)
  simp only [T164, Go, Ends', v164, Tr.sure, SS, ha.1, ha.2, hb.1, hb.2]
  repeat' with_reducible first | intro _ | apply And.intro
  all_goals first | exact (hg _ _) | (simp [ha.1, ha.2, hb.1, hb.2, Go, Ends', v164, -List.getD_eq_getElem?_getD, *]; done)
inductive P169
  | e
inductive R169
  | r0 (r0 : Bool)
noncomputable def T169 (g : Nat) (p : Int → Int → Bool) (x : Claim) (l : Nat → Cast) (n : Int) : P169 → Tr P169 R169
  | .e => (.call g [iI n, iI x.number] (.bool (p n x.number)) true true (.out (.r0 (p n x.number))))
noncomputable def g169 (g : Nat) (p : Int → Int → Bool) (x : Claim) (l : Nat → Cast) (n : Int) : P169 → List Item × St
  | .e => bd Tryz.f169 [.agg [iI x.own, iI x.kind, iI x.a, iI x.b, iI x.mould, iI x.feature, iI x.number, iI x.worth], .arr 2 4 (rowsFn tCast l), iI n, rR (.func (.func g) [] [])] 9
noncomputable def n169 : R169 → Exit × St
  | .r0 r0 => (.ret, ⟨mk 13 [(7, .bool r0)], [], []⟩)
noncomputable def v169 : R169 → V
  | .r0 r0 => .bool r0
theorem s169 (g : Nat) (p : Int → Int → Bool) (x : Claim) (l : Nat → Cast) (n : Int) : Sm 0 (g169 g p x l n) (T169 g p x l n) (n169)
  | .e => ⟨400, by kernel_rfl⟩
theorem q169 : ∀ r, bodyQ Tryz.prog Tryz.f169 (· = v169 r) (n169 r).1 (n169 r).2
  | .r0 r0 => bq (.bool r0) (by kernel_rfl)
theorem w169 (g : Nat) (p : Int → Int → Bool) (x : Claim) (l : Nat → Cast) (n : Int) {post : V → Prop} (h : WQ (T169 g p x l n) v169 post .e) : PC 169 [.agg [iI x.own, iI x.kind, iI x.a, iI x.b, iI x.mould, iI x.feature, iI x.number, iI x.worth], .arr 2 4 (rowsFn tCast l), iI n, rR (.func (.func g) [] [])] post :=
  PCalls.wq Tryz.func169 (s169 g p x l n) q169 h
theorem c169 {g : Nat} {p : Int → Int → Bool} (x : Claim) (l : Nat → Cast) (n : Int) (hg : ∀ a b : Int, PC g [iI a, iI b] (· = .bool (p a b))) :
    PC 169 [.agg (tClaim.cells x), .arr 2 4 (rowsFn tCast l), iI n, fc g] (· = .bool (p n x.number)) := by
  refine w169 g p x l n (WP.step ?_)
  simp only [T169, Go, Ends', v169, Tr.sure, SS]
  repeat' with_reducible first | intro _ | apply And.intro
  all_goals exact (hg _ _)
inductive P173
  | e
inductive R173
  | r0 (r0 : Bool)
noncomputable def T173 (x : Claim) (l : Nat → Cast) (n : Int) : P173 → Tr P173 R173
  | .e => (.front [] [] (((decide (0 ≤ x.a) && decide (x.a < (4 : Int))) && ((decide ((x.a).toNat < 4) && decide (0 + 2 ≤ 2)) && true)) && true) true (.out (.r0 (((l ((x.a).toNat)).mould == x.mould) && (((l ((x.a).toNat)).number == x.number) && true)))))
noncomputable def g173 (x : Claim) (l : Nat → Cast) (n : Int) : P173 → List Item × St
  | .e => bd Tryz.f173 [.agg [iI x.own, iI x.kind, iI x.a, iI x.b, iI x.mould, iI x.feature, iI x.number, iI x.worth], .arr 2 4 (rowsFn tCast l), iI n] 14
noncomputable def n173 : R173 → Exit × St
  | .r0 r0 => (.ret, ⟨mk 17 [(6, .bool r0)], [], []⟩)
noncomputable def v173 : R173 → V
  | .r0 r0 => .bool r0
theorem s173 (x : Claim) (l : Nat → Cast) (n : Int) : Sm 0 (g173 x l n) (T173 x l n) (n173)
  | .e => ⟨400, by kernel_rfl⟩
theorem q173 : ∀ r, bodyQ Tryz.prog Tryz.f173 (· = v173 r) (n173 r).1 (n173 r).2
  | .r0 r0 => bq (.bool r0) (by kernel_rfl)
theorem w173 (x : Claim) (l : Nat → Cast) (n : Int) {post : V → Prop} (h : WQ (T173 x l n) v173 post .e) : PC 173 [.agg [iI x.own, iI x.kind, iI x.a, iI x.b, iI x.mould, iI x.feature, iI x.number, iI x.worth], .arr 2 4 (rowsFn tCast l), iI n] post :=
  PCalls.wq Tryz.func173 (s173 x l n) q173 h
theorem c173 (x : Claim) (l : Nat → Cast) (n : Int) (ha : 0 ≤ x.a ∧ x.a < 4) :
    PC 173 [.agg (tClaim.cells x), .arr 2 4 (rowsFn tCast l), iI n] (· = .bool (l x.a.toNat == ⟨x.mould, x.number⟩)) := by
  refine w173 x l n (WP.step ?_)
  simp only [T173, Go, Ends', v173, Tr.sure, SS, ha.1, ha.2]
  repeat' with_reducible first | intro _ | apply And.intro
  all_goals simp [cast_beq, Go, Ends', v173, -List.getD_eq_getElem?_getD, *]
inductive P142
  | e
  | l0 (x0_33 : Int) (c0_2_0 : Int) (c0_2_1 : Int)
inductive R142
  | r0 (r0_0 : Int) (r0_1 : Int)
noncomputable def T142 (ks : List Int) (c : Case) (l : Nat → Cast) (m : Int) (f : Int) : P142 → Tr P142 R142
  | .e => let c1 := c.shop.moulds.getD (m).toNat tMould.zero; let c2 := (c1.lasts).getD (f).toNat tSpan.zero; (.need (decide (0 ≤ m) && decide (m < (c.shop.moulds.length : Int))) (.need (decide (0 ≤ f) && decide (f < ((c1.lasts.length) : Int))) (.go (.l0 0 (c2.lo) (c2.hi)))))
  | .l0 x0_33 c0_2_0 c0_2_1 => let c2 := c.shop.heads.getD (x0_33).toNat tHead.zero; let c3 := l ((x0_33).toNat); let c4 := decide (0 ≤ f) && decide (f < ((c2.shows.length) : Int)); let c5 := x0_33 + (1 : Int); let c1 : Tr P142 R142 := .need (inR .i64 c5) (.go (.l0 c5 c0_2_0 c0_2_1)); let c6 := x0_33 < (c.shop.heads.length : Int); let c7 := (c2.shows).getD (f).toNat tint.zero; (.br (decide c6) (.need (decide (0 ≤ x0_33) && decide c6) (.need (decide (0 ≤ x0_33) && decide (x0_33 < (4 : Int))) (.need (decide ((x0_33).toNat < 4) && decide (0 + 2 ≤ 2)) (.br ((c3.mould == (0 : Int)) && ((c3.number == (0 : Int)) && true)) (.lit true c1) (.br (c3.mould != m) c1 (.need c4 (.br (c7 == (1 : Int)) (.need (inR .i64 c5) (.go (.l0 c5 (max c0_2_0 (c3.number)) c0_2_1))) (.need c4 (.br (c7 == (2 : Int)) (.need (inR .i64 (c3.number - (1 : Int))) (.need (inR .i64 c5) (.go (.l0 c5 c0_2_0 (min c0_2_1 (c3.number - (1 : Int))))))) c1))))))))) (.out (.r0 c0_2_0 c0_2_1)))
noncomputable def g142 (ks : List Int) (c : Case) (l : Nat → Cast) (m : Int) (f : Int) : P142 → List Item × St
  | .e => bd Tryz.f142 [court c ks, .arr 2 4 (rowsFn tCast l), iI m, iI f] 76
  | .l0 x0_33 c0_2_0 c0_2_1 => (cutOf Tryz.f142 0, ⟨mk 80 [(2, iI m), (3, iI f), (5, .ref 0 0 0), (8, .ref 1 0 0), (9, .ref 2 0 0), (31, tHead.lst c.shop.heads), (32, iI (c.shop.heads.length : Int)), (33, iI x0_33)], [.rows 130 2 4 (rowsFn tCast l), .cells [iI 0, iI 0], .cells [iI c0_2_0, iI c0_2_1]], []⟩)
noncomputable def n142 : R142 → Exit × St
  | .r0 r0_0 r0_1 => (.ret, ⟨mk 80 [(8, .ref 1 0 0)], [.gone, .cells [iI r0_0, iI r0_1]], []⟩)
noncomputable def v142 : R142 → V
  | .r0 r0_0 r0_1 => .agg [iI r0_0, iI r0_1]
theorem s142 (ks : List Int) (c : Case) (l : Nat → Cast) (m : Int) (f : Int) : Sm 0 (g142 ks c l m f) (T142 ks c l m f) (n142)
  | .e => ⟨400, by kernel_rfl⟩
  | .l0 _ _ _ => ⟨400, by kernel_rfl⟩
theorem q142 : ∀ r, bodyQ Tryz.prog Tryz.f142 (· = v142 r) (n142 r).1 (n142 r).2
  | .r0 r0_0 r0_1 => bq (.agg [iI r0_0, iI r0_1]) (by kernel_rfl)
theorem w142 (ks : List Int) (c : Case) (l : Nat → Cast) (m : Int) (f : Int) {post : V → Prop} (h : WQ (T142 ks c l m f) v142 post .e) : PC 142 [court c ks, .arr 2 4 (rowsFn tCast l), iI m, iI f] post :=
  PCalls.wq Tryz.func142 (s142 ks c l m f) q142 h
theorem c142 (c : Case) (ks : List Int) (l : Nat → Cast) (m f : Int) (h : OkShop c.shop) (hl : ∀ i, 0 ≤ (l i).number ∧ (l i).number ≤ 4) (hm : 0 ≤ m ∧ m < c.shop.moulds.length) (hf : 0 ≤ f ∧ f < c.shop.features) :
    PC 142 [court c ks, .arr 2 4 (rowsFn tCast l), iI m, iI f] (· = .agg (tSpan.cells (lastA c.shop l m f c.shop.heads.length))) := by
  have hh := h.nh
  have h1 := (h.mould _ (getD_mem zMould c.shop.moulds m.toNat (by omega))).2.1
  refine w142 ks c l m f (WP.step ?_)
  simp only [T142, Go, Ends', v142, Tr.sure, SS, z2, z4, hm, hf, h1]
  repeat' with_reducible first | intro _ | apply And.intro
  refine WP.run (fun i => .l0 i (lastA c.shop l m f i).lo (lastA c.shop l m f i).hi) rfl c.shop.heads.length (fun i hi => ?_) ?_
  · have hr : inR .i64 ((i : Int) + 1) = true := inR64 (by omega) (by omega)
    have hi4 : i < 4 := by omega
    have hi4' : (i : Int) < 4 := by omega
    have h2 := (h.head _ (getD_mem zHead c.shop.heads i hi)).1
    have hn := hl i
    have hr' : inR .i64 ((l i).number - 1) = true := inR64 (by omega) (by omega)
    have hz : (l i = zCast) ↔ ((l i).mould = 0 ∧ (l i).number = 0) := by
      generalize l i = z; obtain ⟨a, b⟩ := z; simp [zCast]
    have hs : lastA c.shop l m f (i + 1) = lastStepA c.shop m f l i (lastA c.shop l m f i) := rfl
    refine WP.once ?_
    simp only [T142, Tr.sure, SS, hi, hi4, hi4', z3, z1, hf, h2]
    repeat' with_reducible first | intro _ | apply And.intro
    all_goals first | (simp [hr, hr', hs, lastStepA, narrow, hz, Go, Ends', v142, -List.getD_eq_getElem?_getD, *]; done) | (simp_all [hr, hr', hs, lastStepA, narrow, hz, Go, Ends', v142, -List.getD_eq_getElem?_getD]; done)
  · refine WP.step ?_
    simp only [T142, Go, Ends', v142, Tr.sure, SS, Int.lt_irrefl]
    repeat' with_reducible first | intro _ | apply And.intro
    all_goals simp [tSpan, Go, Ends', v142, -List.getD_eq_getElem?_getD, *]
end
noncomputable section
theorem c186f (k : Int) (h : 0 ≤ k ∧ k ≤ 3) : PC 186 [iI k] (· = .bool false) := by
  have h1 := c186 k (by omega)
  rcases show k = 0 ∨ k = 1 ∨ k = 2 ∨ k = 3 by omega with e | e | e | e <;> subst e <;> exact h1
theorem c186t (k : Int) (h : 4 ≤ k ∧ k ≤ 5) : PC 186 [iI k] (· = .bool true) := by
  have h1 := c186 k (by omega)
  rcases show k = 4 ∨ k = 5 by omega with e | e <;> subst e <;> exact h1
def kcells (x : Claim) (k : Int) : List V := [iI x.own, iI k, iI x.a, iI x.b, iI x.mould, iI x.feature, iI x.number, iI x.worth]
theorem kcells_eq {x : Claim} {k : Int} (h : x.kind = k) : tClaim.cells x = kcells x k := by subst h; rfl
theorem so0 (x : Claim) (l : Nat → Cast) (hk : x.kind = 0) (ha : 0 ≤ x.a ∧ x.a < 4) : PC 173 [.agg (kcells x 0), .arr 2 4 (rowsFn tCast l), iI 0] (· = .bool (soF x l)) := by
  have := c173 x l 0 ha
  rw [kcells_eq hk] at this
  simpa [soF, hk] using this
theorem so1 (x : Claim) (l : Nat → Cast) (hk : x.kind = 1) (ha : 0 ≤ x.a ∧ x.a < 4) (hb : 0 ≤ x.b ∧ x.b < 4) : PC 164 [.agg (kcells x 1), .arr 2 4 (rowsFn tCast l), iI 0, fc 174] (· = .bool (soF x l)) := by
  have := c164 x l 0 c174 ha hb
  rw [kcells_eq hk] at this
  simpa [soF, hk] using this
theorem so2 (x : Claim) (l : Nat → Cast) (hk : x.kind = 2) (ha : 0 ≤ x.a ∧ x.a < 4) (hb : 0 ≤ x.b ∧ x.b < 4) : PC 164 [.agg (kcells x 2), .arr 2 4 (rowsFn tCast l), iI 0, fc 175] (· = .bool (soF x l)) := by
  have := c164 x l 0 c175 ha hb
  rw [kcells_eq hk] at this
  simpa [soF, hk] using this
theorem so3 (x : Claim) (l : Nat → Cast) (hk : x.kind = 3) (ha : 0 ≤ x.a ∧ x.a < 4) (hb : 0 ≤ x.b ∧ x.b < 4) : PC 164 [.agg (kcells x 3), .arr 2 4 (rowsFn tCast l), iI 0, fc 176] (· = .bool (soF x l)) := by
  have := c164 x l 0 c176 ha hb
  rw [kcells_eq hk] at this
  simpa [soF, hk] using this
theorem so4 (x : Claim) (l : Nat → Cast) (n : Int) (hk : x.kind = 4) : PC 169 [.agg (kcells x 4), .arr 2 4 (rowsFn tCast l), iI n, fc 177] (· = .bool (soL x n)) := by
  have := c169 x l n c177
  rw [kcells_eq hk] at this
  simpa [soL, hk] using this
theorem so5 (x : Claim) (l : Nat → Cast) (n : Int) (hk : x.kind = 5) : PC 169 [.agg (kcells x 5), .arr 2 4 (rowsFn tCast l), iI n, fc 178] (· = .bool (soL x n)) := by
  have := c169 x l n c178
  rw [kcells_eq hk] at this
  simpa [soL, hk] using this
inductive P144
  | e
  | l0 (x0_25 : Int) (a0_1 : List Int)
  | l1 (x1_5 : List Int) (x1_62 : Int)
  | l2 (x1_62 : Int) (x2_5 : List Int) (x2_71 : Int)
  | l3 (x1_62 : Int) (x2_5 : List Int) (x2_71 : Int) (x3_12 : Int) (a3_2 : List Int)
  | l4 (x1_62 : Int) (x2_5 : List Int) (x2_71 : Int) (x3_12 : Int) (a3_2 : List Int) (x4_13 : Int) (x4_93 : Int)
  | l5 (x1_62 : Int) (x2_5 : List Int) (x2_71 : Int) (x3_12 : Int) (x4_13 : Int) (x5_134 : Int) (a5_2 : List Int)
inductive R144
  | r0 (r0 : List Int)
noncomputable def T144 (ks : List Int) (c : Case) (l : Nat → Cast) : P144 → Tr P144 R144
  | .e => (.wait 6 (.telb 1 1 1 (litC 1 1 [iI 0]) (rowsOf tint ([0] : List Int)) (.go (.l0 0 ([0] : List Int)))))
  | .l0 x0_25 a0_1 => let c1 := c.claims.getD (x0_25).toNat tClaim.zero; let c2 := bitsOf .or .i64 (a0_1.getD ((0 : Int)).toNat tint.zero) ((1 : Int) * 2 ^ (min (x0_25).toNat 64)); let c4 : List V := [iI (c1.own), iI (c1.kind), iI (c1.a), iI (c1.b), iI (c1.mould), iI (c1.feature), iI (c1.number), iI (c1.worth)]; let c5 : Tr P144 R144 := .need (inR .i64 (x0_25 + (1 : Int))) (.go (.l0 (x0_25 + (1 : Int)) a0_1)); let c7 : Tr P144 R144 := .need (inR .i64 (x0_25 + (1 : Int))) (.go (.l0 (x0_25 + (1 : Int)) (a0_1.set (((0 : Int)).toNat) c2))); let c8 := (decide (0 ≤ (0 : Int)) && decide ((0 : Int) < (1 : Int))) && decide (1 ≤ 1); let c3 := (c8 && ((decide (((0 : Int)).toNat < 1) && decide (0 < 1)) && ((decide (0 ≤ x0_25) && inR .i64 ((1 : Int) * 2 ^ (min (x0_25).toNat 64))) && true))) && true; let c9 := rowsOf tint (a0_1.set (((0 : Int)).toNat) c2); let c10 := ([iI c2] : List V); let c6 := (decide (((0 : Int)).toNat < 1) && decide (0 + c10.length ≤ 1)) && underL 0 c10; let c11 : List V := [iI (c1.own), iI 3, iI (c1.a), iI (c1.b), iI (c1.mould), iI (c1.feature), iI (c1.number), iI (c1.worth)]; let c12 : List V := [iI (c1.own), iI 2, iI (c1.a), iI (c1.b), iI (c1.mould), iI (c1.feature), iI (c1.number), iI (c1.worth)]; let c13 : List V := [iI (c1.own), iI 1, iI (c1.a), iI (c1.b), iI (c1.mould), iI (c1.feature), iI (c1.number), iI (c1.worth)]; let c14 : List V := [iI (c1.own), iI 0, iI (c1.a), iI (c1.b), iI (c1.mould), iI (c1.feature), iI (c1.number), iI (c1.worth)]; let c15 := rowsOf tint a0_1; let c16 := rowsFn tCast l; let c17 := x0_25 < (c.claims.length : Int); (.br (decide c17) (.need (decide (0 ≤ x0_25) && decide c17) (.wait 1 (.cas (c1.kind == 0) (.telc 2 c4 c14 (.front [(2, 186, [iI 0], .bool false), (15, 173, [.agg c14, .arr 2 4 c16, iI 0], .bool (soF c1 l))] [] ((((decide (0 ≤ (0 : Int)) && decide ((0 : Int) < (6 : Int))) && true) && true) && true) true (.br (soF c1 l) (.front [] [] c3 true (.need c8 (.need c6 (.telb 1 1 1 (fun r' j => if r' = ((0 : Int)).toNat ∧ 0 ≤ j ∧ j < 0 + c10.length then c10.getD (j - 0) uU else c15 r' j) c9 c7)))) c5))) (.cas (c1.kind == 1) (.telc 2 c4 c13 (.front [(2, 186, [iI 1], .bool false), (15, 164, [.agg c13, .arr 2 4 c16, iI 0, rR (fF 174)], .bool (soF c1 l))] [] ((((decide (0 ≤ (1 : Int)) && decide ((1 : Int) < (6 : Int))) && true) && true) && true) true (.br (soF c1 l) (.front [] [] c3 true (.need c8 (.need c6 (.telb 1 1 1 (fun r' j => if r' = ((0 : Int)).toNat ∧ 0 ≤ j ∧ j < 0 + c10.length then c10.getD (j - 0) uU else c15 r' j) c9 c7)))) c5))) (.cas (c1.kind == 2) (.telc 2 c4 c12 (.front [(2, 186, [iI 2], .bool false), (15, 164, [.agg c12, .arr 2 4 c16, iI 0, rR (fF 175)], .bool (soF c1 l))] [] ((((decide (0 ≤ (2 : Int)) && decide ((2 : Int) < (6 : Int))) && true) && true) && true) true (.br (soF c1 l) (.front [] [] c3 true (.need c8 (.need c6 (.telb 1 1 1 (fun r' j => if r' = ((0 : Int)).toNat ∧ 0 ≤ j ∧ j < 0 + c10.length then c10.getD (j - 0) uU else c15 r' j) c9 c7)))) c5))) (.cas (c1.kind == 3) (.telc 2 c4 c11 (.front [(2, 186, [iI 3], .bool false), (15, 164, [.agg c11, .arr 2 4 c16, iI 0, rR (fF 176)], .bool (soF c1 l))] [] ((((decide (0 ≤ (3 : Int)) && decide ((3 : Int) < (6 : Int))) && true) && true) && true) true (.br (soF c1 l) (.front [] [] c3 true (.need c8 (.need c6 (.telb 1 1 1 (fun r' j => if r' = ((0 : Int)).toNat ∧ 0 ≤ j ∧ j < 0 + c10.length then c10.getD (j - 0) uU else c15 r' j) c9 c7)))) c5))) (.cas (c1.kind == 4) (.telc 2 c4 [iI (c1.own), iI 4, iI (c1.a), iI (c1.b), iI (c1.mould), iI (c1.feature), iI (c1.number), iI (c1.worth)] (.front [(2, 186, [iI 4], .bool true)] [] true true (.lit false c5))) (.cas (c1.kind == 5) (.telc 2 c4 [iI (c1.own), iI 5, iI (c1.a), iI (c1.b), iI (c1.mould), iI (c1.feature), iI (c1.number), iI (c1.worth)] (.front [(2, 186, [iI 5], .bool true)] [] true true (.lit false c5))) .never)))))))) (.wait 5 (.frz 1 ((decide (1 ≤ 1)) && true) (.vle 5 (.list 1 1 c15) (tint.lst a0_1) (.go (.l1 a0_1 0))))))
  | .l1 x1_5 x1_62 => (.br (decide (x1_62 < (c.shop.moulds.length : Int))) (.go (.l2 x1_62 x1_5 0)) (.out (.r0 x1_5)))
  | .l2 x1_62 x2_5 x2_71 => let c1 := spanA c l x1_62 x2_71; (.br (decide (x2_71 < c.shop.features)) (.call 142 [court c ks, .arr 2 4 (rowsFn tCast l), iI x1_62, iI x2_71] (.agg [iI (c1.lo), iI (c1.hi)]) true true (.wait 2 (.own 11 3 1 (.go (.l3 x1_62 x2_5 x2_71 (c1.lo) ([])))))) (.need (inR .i64 (x1_62 + (1 : Int))) (.go (.l1 x2_5 (x1_62 + (1 : Int))))))
  | .l3 x1_62 x2_5 x2_71 x3_12 a3_2 => let c1 := Lib.compact (sortZ a3_2.reverse); let c2 : List V := [iI ((spanA c l x1_62 x2_71).lo), iI ((spanA c l x1_62 x2_71).hi)]; let c3 := rowsOf tint (padZ c1 a3_2.length); let c4 : List Blk := [.rows 130 2 4 (rowsFn tCast l), .cells c2, .rows 3 1 a3_2.length (rowsOf tint (sortZ a3_2.reverse))]; let c5 := decide (a3_2.length ≤ a3_2.length); let c6 := tint.lst (padZ c1 a3_2.length); let c7 : V := .list 1 a3_2.length c3; let c8 := decide (c1.length ≤ a3_2.length); (.br (decide (x3_12 ≤ (spanA c l x1_62 x2_71).hi)) (.go (.l4 x1_62 x2_5 x2_71 x3_12 a3_2 0 0)) (.hcall 145 [.row 2 a3_2.length] (.tuple []) [.rows 130 2 4 (rowsFn tCast l), .cells c2, .rows 3 1 a3_2.length (rowsRev tint a3_2)] c4 true (.hcall 187 [.row 2 a3_2.length] (.row 2 (c1.length)) c4 [.rows 130 2 4 (rowsFn tCast l), .cells c2, .rows 3 1 a3_2.length c3] true (.need (inR .i64 (x2_71 + (1 : Int))) (.frz 2 (c8 && (c5 && (c5 && (c5 && (c8 && true))))) (.vle 5 (.list 1 (c1.length) c3) (tint.lst c1) (.vle 11 c7 c6 (.vle 145 c7 c6 (.vle 147 c7 c6 (.vle 148 (.list 1 (c1.length) c3) (tint.lst c1) (.go (.l2 x1_62 c1 (x2_71 + (1 : Int))))))))))))))
  | .l4 x1_62 x2_5 x2_71 x3_12 a3_2 x4_13 x4_93 => let c1 := c.claims.getD (x4_93).toNat tClaim.zero; let c2 : Tr P144 R144 := .need (inR .i64 (x4_93 + (1 : Int))) (.go (.l4 x1_62 x2_5 x2_71 x3_12 a3_2 x4_13 (x4_93 + (1 : Int)))); let c4 : Tr P144 R144 := .br (soL c1 x3_12) (.need (decide (0 ≤ x4_93) && inR .i64 ((1 : Int) * 2 ^ (min (x4_93).toNat 64))) (.need (inR .i64 (x4_93 + (1 : Int))) (.go (.l4 x1_62 x2_5 x2_71 x3_12 a3_2 (bitsOf .or .i64 x4_13 ((1 : Int) * 2 ^ (min (x4_93).toNat 64))) (x4_93 + (1 : Int)))))) c2; let c5 := c1.mould == x1_62; let c8 := c1.feature == x2_71; let c9 : Tr P144 R144 := .lit false c2; let c10 := ((c5 == true) && ((c8 == false) && true)) && true; let c11 := x4_93 < (c.claims.length : Int); let c12 := ((c5 == false) && true) && true; let c13 := c1.feature; let c3 : List V := [iI (c1.own), iI (c1.kind), iI (c1.a), iI (c1.b), iI (c1.mould), iI c13, iI (c1.number), iI (c1.worth)]; let c6 : List V := [iI (c1.own), iI 5, iI (c1.a), iI (c1.b), iI (c1.mould), iI c13, iI (c1.number), iI (c1.worth)]; let c7 : List V := [iI (c1.own), iI 4, iI (c1.a), iI (c1.b), iI (c1.mould), iI c13, iI (c1.number), iI (c1.worth)]; (.br (decide c11) (.need (decide (0 ≤ x4_93) && decide c11) (.wait 1 (.cas (c1.kind == 0) (.telc 3 c3 [iI (c1.own), iI 0, iI (c1.a), iI (c1.b), iI (c1.mould), iI c13, iI (c1.number), iI (c1.worth)] (.front [(2, 186, [iI 0], .bool false)] [] true true c9)) (.cas (c1.kind == 1) (.telc 3 c3 [iI (c1.own), iI 1, iI (c1.a), iI (c1.b), iI (c1.mould), iI c13, iI (c1.number), iI (c1.worth)] (.front [(2, 186, [iI 1], .bool false)] [] true true c9)) (.cas (c1.kind == 2) (.telc 3 c3 [iI (c1.own), iI 2, iI (c1.a), iI (c1.b), iI (c1.mould), iI c13, iI (c1.number), iI (c1.worth)] (.front [(2, 186, [iI 2], .bool false)] [] true true c9)) (.cas (c1.kind == 3) (.telc 3 c3 [iI (c1.own), iI 3, iI (c1.a), iI (c1.b), iI (c1.mould), iI c13, iI (c1.number), iI (c1.worth)] (.front [(2, 186, [iI 3], .bool false)] [] true true c9)) (.cas (c1.kind == 4) (.telc 3 c3 c7 (.br c5 (.br c8 (.front [(2, 186, [iI 4], .bool true), (27, 169, [.agg c7, .arr 2 4 (rowsFn tCast l), iI x3_12, rR (fF 177)], .bool (soL c1 x3_12))] [(9, true), (15, true)] (((c5 == true) && ((c8 == true) && (((decide (0 ≤ (4 : Int)) && decide ((4 : Int) < (6 : Int))) && true) && true))) && true) true c4) (.front [(2, 186, [iI 4], .bool true)] [(9, true), (15, false)] c10 true c9)) (.front [(2, 186, [iI 4], .bool true)] [(9, false)] c12 true c9))) (.cas (c1.kind == 5) (.telc 3 c3 c6 (.br c5 (.br c8 (.front [(2, 186, [iI 5], .bool true), (27, 169, [.agg c6, .arr 2 4 (rowsFn tCast l), iI x3_12, rR (fF 178)], .bool (soL c1 x3_12))] [(9, true), (15, true)] (((c5 == true) && ((c8 == true) && (((decide (0 ≤ (5 : Int)) && decide ((5 : Int) < (6 : Int))) && true) && true))) && true) true c4) (.front [(2, 186, [iI 5], .bool true)] [(9, true), (15, false)] c10 true c9)) (.front [(2, 186, [iI 5], .bool true)] [(9, false)] c12 true c9))) .never)))))))) (.go (.l5 x1_62 x2_5 x2_71 x3_12 x4_13 0 a3_2)))
  | .l5 x1_62 x2_5 x2_71 x3_12 x4_13 x5_134 a5_2 => let c1 := x5_134 < (x2_5.length : Int); (.br (decide c1) (.need (decide (0 ≤ x5_134) && decide c1) (.need ((decide (a5_2.length = a5_2.length) && decide (a5_2.length + 1 ≤ 4294967296)) && decide (1 ≤ 1)) (.scal (fun _ => true) (.need (inR .i64 (x5_134 + (1 : Int))) (.go (.l5 x1_62 x2_5 x2_71 x3_12 x4_13 (x5_134 + (1 : Int)) ((bitsOf .or .i64 (x2_5.getD (x5_134).toNat tint.zero) x4_13) :: a5_2))))))) (.need (inR .i64 (x3_12 + (1 : Int))) (.go (.l3 x1_62 x2_5 x2_71 (x3_12 + (1 : Int)) a5_2))))
noncomputable def g144 (ks : List Int) (c : Case) (l : Nat → Cast) : P144 → List Item × St
  | .e => bd Tryz.f144 [court c ks, .arr 2 4 (rowsFn tCast l)] 150
  | .l0 x0_25 a0_1 => (cutOf Tryz.f144 0, ⟨mk 152 [(0, court c ks), (3, .ref 0 0 0), (5, .row 1 1), (23, tClaim.lst c.claims), (24, iI (c.claims.length : Int)), (25, iI x0_25)], [.rows 130 2 4 (rowsFn tCast l), .rows 3 1 1 (rowsOf tint a0_1)], []⟩)
  | .l1 x1_5 x1_62 => (cutOf Tryz.f144 1, ⟨mk 152 [(0, court c ks), (3, .ref 0 0 0), (5, tint.lst x1_5), (61, iI (c.shop.moulds.length : Int)), (62, iI x1_62)], [.rows 130 2 4 (rowsFn tCast l)], []⟩)
  | .l2 x1_62 x2_5 x2_71 => (cutOf Tryz.f144 2, ⟨mk 152 [(0, court c ks), (3, .ref 0 0 0), (5, tint.lst x2_5), (8, iI x1_62), (61, iI (c.shop.moulds.length : Int)), (62, iI x1_62), (70, iI c.shop.features), (71, iI x2_71)], [.rows 130 2 4 (rowsFn tCast l)], []⟩)
  | .l3 x1_62 x2_5 x2_71 x3_12 a3_2 => (cutOf Tryz.f144 3, ⟨mk 152 [(0, court c ks), (3, .ref 0 0 0), (5, tint.lst x2_5), (8, iI x1_62), (9, iI x2_71), (10, .ref 1 0 0), (11, .row 2 a3_2.length), (12, iI x3_12), (61, iI (c.shop.moulds.length : Int)), (62, iI x1_62), (70, iI c.shop.features), (71, iI x2_71)], [.rows 130 2 4 (rowsFn tCast l), .cells [iI ((spanA c l x1_62 x2_71).lo), iI ((spanA c l x1_62 x2_71).hi)], .rows 3 1 a3_2.length (rowsRev tint a3_2)], []⟩)
  | .l4 x1_62 x2_5 x2_71 x3_12 a3_2 x4_13 x4_93 => (cutOf Tryz.f144 4, ⟨mk 152 [(0, court c ks), (3, .ref 0 0 0), (5, tint.lst x2_5), (8, iI x1_62), (9, iI x2_71), (10, .ref 1 0 0), (11, .row 2 a3_2.length), (12, iI x3_12), (13, iI x4_13), (61, iI (c.shop.moulds.length : Int)), (62, iI x1_62), (70, iI c.shop.features), (71, iI x2_71), (91, tClaim.lst c.claims), (92, iI (c.claims.length : Int)), (93, iI x4_93)], [.rows 130 2 4 (rowsFn tCast l), .cells [iI ((spanA c l x1_62 x2_71).lo), iI ((spanA c l x1_62 x2_71).hi)], .rows 3 1 a3_2.length (rowsRev tint a3_2)], []⟩)
  | .l5 x1_62 x2_5 x2_71 x3_12 x4_13 x5_134 a5_2 => (cutOf Tryz.f144 5, ⟨mk 152 [(0, court c ks), (3, .ref 0 0 0), (5, tint.lst x2_5), (8, iI x1_62), (9, iI x2_71), (10, .ref 1 0 0), (11, .row 2 a5_2.length), (12, iI x3_12), (13, iI x4_13), (61, iI (c.shop.moulds.length : Int)), (62, iI x1_62), (70, iI c.shop.features), (71, iI x2_71), (132, tint.lst x2_5), (133, iI (x2_5.length : Int)), (134, iI x5_134)], [.rows 130 2 4 (rowsFn tCast l), .cells [iI ((spanA c l x1_62 x2_71).lo), iI ((spanA c l x1_62 x2_71).hi)], .rows 3 1 a5_2.length (rowsRev tint a5_2)], []⟩)
noncomputable def n144 : R144 → Exit × St
  | .r0 r0 => (.ret, ⟨mk 152 [(4, tint.lst r0)], [], []⟩)
noncomputable def v144 : R144 → V
  | .r0 r0 => tint.lst r0
theorem s144 (ks : List Int) (c : Case) (l : Nat → Cast) : Sm 0 (g144 ks c l) (T144 ks c l) (n144)
  | .e => ⟨400, by kernel_rfl⟩
  | .l0 _ _ => ⟨400, by kernel_rfl⟩
  | .l1 _ _ => ⟨400, by kernel_rfl⟩
  | .l2 _ _ _ => ⟨400, by kernel_rfl⟩
  | .l3 _ _ _ _ _ => ⟨400, by kernel_rfl⟩
  | .l4 _ _ _ _ _ _ _ => ⟨400, by kernel_rfl⟩
  | .l5 _ _ _ _ _ _ _ => ⟨400, by kernel_rfl⟩
theorem q144 : ∀ r, bodyQ Tryz.prog Tryz.f144 (· = v144 r) (n144 r).1 (n144 r).2
  | .r0 r0 => bq (tint.lst r0) (by kernel_rfl)
theorem w144 (ks : List Int) (c : Case) (l : Nat → Cast) {post : V → Prop} (h : WQ (T144 ks c l) v144 post .e) : PC 144 [court c ks, .arr 2 4 (rowsFn tCast l)] post :=
  PCalls.wq Tryz.func144 (s144 ks c l) q144 h
theorem c145 (h : List Blk) (q : Nat) (l : List Int) (c c' : Nat → Nat → V) (hi : h[q]? = some (.rows 3 1 l.length c)) (hc : RowI c l) (hc' : RowI c' (sortZ l)) : HCalls Tryz.prog 145 [.row q l.length] (.tuple []) h (h.set q (.rows 3 1 l.length c')) :=
  HCalls.sort (PCalls.enters Tryz.func145 (c := Tryz.f145.body.getD .skip) (by kernel_rfl) (by kernel_rfl)) Tryz.slices_Sort_int Tryz.slices_Sort_int_none hi hc hc'
theorem c187 (h : List Blk) (q : Nat) (l : List Int) (c c' : Nat → Nat → V) (hi : h[q]? = some (.rows 3 1 l.length c)) (hc : RowI c l) (hc' : RowI c' (padZ (Lib.compact l) l.length)) : HCalls Tryz.prog 187 [.row q l.length] (.row q (Lib.compact l).length) h (h.set q (.rows 3 1 l.length c')) :=
  HCalls.compact (PCalls.enters Tryz.func187 (c := Tryz.f187.body.getD .skip) (by kernel_rfl) (by kernel_rfl)) Tryz.slices_Compact_int Tryz.slices_Compact_int_empty hi hc hc'
theorem rowI_of (l : List Int) : RowI (rowsOf tint l) l := fun _ _ => rfl
theorem rowI_rev (l : List Int) : RowI (rowsRev tint l) l.reverse := fun r hr => by
  have hr' : r < l.length := by simpa using hr
  have e : ∀ (l : List Int) (r : Nat), r < l.length → rowsRev tint l r 0 = iI (l.reverse.getD r 0) := by
    intro l
    induction l with
    | nil => intro r h; simp at h
    | cons x l ih =>
      intro r h
      simp only [rowsRev, appC]
      by_cases q : r < l.length
      · rw [if_pos q, ih r q, List.reverse_cons, List.getD_eq_getElem?_getD, List.getD_eq_getElem?_getD, List.getElem?_append_left (by simpa using q)]
      · have hq : r = l.length := by simp at h; omega
        subst hq
        simp [tint, List.getD_eq_getElem?_getD]
  exact e l r hr'
theorem tel_kind {x : Claim} {k : Int} (h : x.kind = k) (j : Nat) : VLe ((tClaim.cells x).getD j uU) ((kcells x k).getD j uU) := by rw [kcells_eq h]; exact VLe.refl _
theorem getD_one (b x : Int) : ([b] : List Int).getD 0 x = b := rfl
theorem c145r (h : List Blk) (q : Nat) (a : List Int) (hi : h[q]? = some (.rows 3 1 a.length (rowsRev tint a))) : HCalls Tryz.prog 145 [.row q a.length] (.tuple []) h (h.set q (.rows 3 1 a.length (rowsOf tint (sortZ a.reverse)))) := by
  have := c145 h q a.reverse (rowsRev tint a) (rowsOf tint (sortZ a.reverse)) (by rw [List.length_reverse]; exact hi) (rowI_rev a) (rowI_of _)
  rwa [List.length_reverse] at this
theorem c187r (h : List Blk) (q : Nat) (l : List Int) (n : Nat) (hn : n = l.length) (hi : h[q]? = some (.rows 3 1 n (rowsOf tint l))) : HCalls Tryz.prog 187 [.row q n] (.row q (Lib.compact l).length) h (h.set q (.rows 3 1 n (rowsOf tint (padZ (Lib.compact l) n)))) := by
  subst hn
  exact c187 h q l (rowsOf tint l) _ hi (rowI_of l) (rowI_of _)
theorem VLe.pad (l : List Int) (n : Nat) : VLe (.list 1 l.length (rowsOf tint (padZ l n))) (tint.lst l) :=
  VLe.list fun i j hi _ => by
    simp only [rowsOf, padZ, List.getD_eq_getElem?_getD, List.getElem?_append_left hi]
theorem own_or {c : Case} {m f last : Int} {i : Nat} (h5 : i < 5) (hp : ownP c m f last i = true) : bitsOf .or .i64 (ownA c m f last i) ((1 : Int) * 2 ^ (min i 64)) = ownA c m f last (i + 1) := by
  have := or_bit (p := ownP c m f last) (n := i) h5 hp
  rw [Int.one_mul, show min i 64 = i by omega]; exact this
theorem own_no {c : Case} {m f last : Int} {i : Nat} (hp : ownP c m f last i = false) : ownA c m f last (i + 1) = ownA c m f last i := by
  unfold ownA; rw [mask_succ, hp]; rfl
set_option maxHeartbeats 4000000 in
theorem w144_4 (c : Case) (ks : List Int) (l : Nat → Cast) (h : OkCase c) (m f last : Int) (out acc : List Int) (i : Nat) (hi : i < c.claims.length) :
    WP Tryz.prog ⟨none, 0⟩ (T144 ks c l) (fun x => x = .inl (.l4 m out f last acc (ownA c m f last (i + 1)) ((i + 1 : Nat) : Int))) (.l4 m out f last acc (ownA c m f last i) i) := by
  have h5 := h.five
  have hr : inR .i64 ((i : Int) + 1) = true := inR64 (by omega) (by omega)
  have hk := h.cl hi
  have hor := own_or (c := c) (m := m) (f := f) (last := last) (i := i) (by omega)
  have hbb : inR .i64 ((1 : Int) * 2 ^ (min i 64)) = true := by
    rcases show i = 0 ∨ i = 1 ∨ i = 2 ∨ i = 3 ∨ i = 4 by omega with e | e | e | e | e <;> subst e <;> decide
  have hno := own_no (c := c) (m := m) (f := f) (last := last) (i := i)
  have hcl : c.claims.getD i zClaim = cl c i := rfl
  have hP : ownP c m f last i = (lasting (cl c i).kind && ((cl c i).mould == m && ((cl c i).feature == f && soL (cl c i) last))) := rfl
  generalize ownA c m f last (i + 1) = M1 at *
  generalize ownA c m f last i = M0 at *
  generalize ownP c m f last i = B at *
  generalize cl c i = X at *
  have hi' : (i : Int) < c.claims.length := by omega
  have hgo : B = true → (Sum.inl (P144.l4 m out f last acc (bitsOf .or .i64 M0 ((1 : Int) * 2 ^ (min i 64))) ((i : Int) + 1)) : P144 ⊕ R144) = Sum.inl (P144.l4 m out f last acc M1 ((i + 1 : Nat) : Int)) := fun hb => by
    rw [hor hb]; rfl
  have hst : B = false → (Sum.inl (P144.l4 m out f last acc M0 ((i : Int) + 1)) : P144 ⊕ R144) = Sum.inl (P144.l4 m out f last acc M1 ((i + 1 : Nat) : Int)) := fun hb => by rw [hno hb]; rfl
  clear hor hno
  rcases show X.kind = 0 ∨ X.kind = 1 ∨ X.kind = 2 ∨ X.kind = 3 ∨ X.kind = 4 ∨ X.kind = 5 by have := hk.kind; omega with e | e | e | e | e | e
  · have hB : B = false := by rw [hP, e]; rfl
    refine WP.once ?_
    simp only [T144, Tr.sure, SS, hi', hi, z8, z1, hcl]
    repeat' with_reducible first | intro _ | apply And.intro
    all_goals first | exact (c186f 0 (by omega)) | exact (tel_kind e _) | exact (by with_reducible exact hst hB) | (simp [hr, Go, Ends', v144, -List.getD_eq_getElem?_getD, *]; done) | (simp_all [hr, Go, Ends', v144, -List.getD_eq_getElem?_getD]; done)
  · have hB : B = false := by rw [hP, e]; rfl
    refine WP.once ?_
    simp only [T144, Tr.sure, SS, hi', hi, z8, z1, hcl]
    repeat' with_reducible first | intro _ | apply And.intro
    all_goals first | exact (c186f 1 (by omega)) | exact (tel_kind e _) | exact (by with_reducible exact hst hB) | (simp [hr, Go, Ends', v144, -List.getD_eq_getElem?_getD, *]; done) | (simp_all [hr, Go, Ends', v144, -List.getD_eq_getElem?_getD]; done)
  · have hB : B = false := by rw [hP, e]; rfl
    refine WP.once ?_
    simp only [T144, Tr.sure, SS, hi', hi, z8, z1, hcl]
    repeat' with_reducible first | intro _ | apply And.intro
    all_goals first | exact (c186f 2 (by omega)) | exact (tel_kind e _) | exact (by with_reducible exact hst hB) | (simp [hr, Go, Ends', v144, -List.getD_eq_getElem?_getD, *]; done) | (simp_all [hr, Go, Ends', v144, -List.getD_eq_getElem?_getD]; done)
  · have hB : B = false := by rw [hP, e]; rfl
    refine WP.once ?_
    simp only [T144, Tr.sure, SS, hi', hi, z8, z1, hcl]
    repeat' with_reducible first | intro _ | apply And.intro
    all_goals first | exact (c186f 3 (by omega)) | exact (tel_kind e _) | exact (by with_reducible exact hst hB) | (simp [hr, Go, Ends', v144, -List.getD_eq_getElem?_getD, *]; done) | (simp_all [hr, Go, Ends', v144, -List.getD_eq_getElem?_getD]; done)
  · have hB : B = (X.mould == m && (X.feature == f && soL X last)) := by rw [hP, e]; rfl
    refine WP.once ?_
    simp only [T144, Tr.sure, SS, hi', hi, z8, z1, hcl]
    repeat' with_reducible first | intro _ | apply And.intro
    all_goals first | exact (c186t 4 (by omega)) | exact (so4 X l last e) | exact (tel_kind e _) | (simp [hr, Go, Ends', v144, -List.getD_eq_getElem?_getD, *]; done) | (simp_all [hr, Go, Ends', v144, -List.getD_eq_getElem?_getD]; done)
  · have hB : B = (X.mould == m && (X.feature == f && soL X last)) := by rw [hP, e]; rfl
    refine WP.once ?_
    simp only [T144, Tr.sure, SS, hi', hi, z8, z1, hcl]
    repeat' with_reducible first | intro _ | apply And.intro
    all_goals first | exact (c186t 5 (by omega)) | exact (so5 X l last e) | exact (tel_kind e _) | (simp [hr, Go, Ends', v144, -List.getD_eq_getElem?_getD, *]; done) | (simp_all [hr, Go, Ends', v144, -List.getD_eq_getElem?_getD]; done)
set_option maxHeartbeats 4000000 in
theorem c144 (c : Case) (ks : List Int) (l : Nat → Cast) (h : OkCase c) (hl : ∀ i, 0 ≤ (l i).number ∧ (l i).number ≤ 4) : PC 144 [court c ks, .arr 2 4 (rowsFn tCast l)] (· = tint.lst (casesA c l)) := by
  have h5 := h.five
  have hm := h.shop.nm
  have hf := h.shop.feat
  have hn4 := h.shop.nh
  refine w144 ks c l (WP.step ?_)
  simp only [T144, Go, Ends', v144, Tr.sure, SS]
  repeat' with_reducible first | intro _ | apply And.intro
  all_goals first | exact tel_lit tint [0] rfl rfl (fun _ => rfl) rfl (by assumption) (by assumption) | skip
  refine WP.run (fun i => .l0 i [maskTo (castPA c l) i]) rfl c.claims.length (fun i hi => ?_) ?_
  · have hr : inR .i64 ((i : Int) + 1) = true := inR64 (by omega) (by omega)
    have hk := h.cl hi
    have hs : maskTo (castPA c l) (i + 1) = if castPA c l i = true then maskTo (castPA c l) i + bitZ i else maskTo (castPA c l) i := mask_succ _ _
    have hor : castPA c l i = true → bitsOf .or .i64 (maskTo (castPA c l) i) ((1 : Int) * 2 ^ (min i 64)) = maskTo (castPA c l) (i + 1) := fun hp => by
      have := or_bit (p := castPA c l) (n := i) (by omega) hp
      rw [Int.one_mul, show min i 64 = i by omega]; exact this
    have hbb : inR .i64 ((1 : Int) * 2 ^ (min i 64)) = true := by
      rcases show i = 0 ∨ i = 1 ∨ i = 2 ∨ i = 3 ∨ i = 4 by omega with e | e | e | e | e <;> subst e <;> decide
    have hno : castPA c l i = false → maskTo (castPA c l) (i + 1) = maskTo (castPA c l) i := fun hp => by rw [hs, hp]; rfl
    have hcl : c.claims.getD i zClaim = cl c i := rfl
    have hP : castPA c l i = (!lasting (cl c i).kind && soF (cl c i) l) := rfl
    generalize maskTo (castPA c l) (i + 1) = M1 at *
    generalize maskTo (castPA c l) i = M0 at *
    generalize castPA c l i = B at *
    generalize cl c i = X at *
    have hi' : (i : Int) < c.claims.length := by omega
    have hgo : B = true → (Sum.inl (P144.l0 ((i : Int) + 1) (([M0] : List Int).set 0 (bitsOf .or .i64 (([M0] : List Int).getD 0 0) ((1 : Int) * 2 ^ (min i 64))))) : P144 ⊕ R144) = Sum.inl (P144.l0 ((i + 1 : Nat) : Int) [M1]) := fun hb => by
      rw [getD_one, hor hb]; rfl
    have hst : B = false → (Sum.inl (P144.l0 ((i : Int) + 1) [M0]) : P144 ⊕ R144) = Sum.inl (P144.l0 ((i + 1 : Nat) : Int) [M1]) := fun hb => by rw [hno hb]; rfl
    clear hs hor hno
    rcases show X.kind = 0 ∨ X.kind = 1 ∨ X.kind = 2 ∨ X.kind = 3 ∨ X.kind = 4 ∨ X.kind = 5 by have := hk.kind; omega with e | e | e | e | e | e
    · have ha := hk.cast e
      have hB : B = soF X l := by rw [hP, e]; rfl
      refine WP.once ?_
      simp only [T144, Tr.sure, SS, hi', hi, z8, z1, hcl, Int.toNat_zero]
      repeat' with_reducible first | intro _ | apply And.intro
      all_goals first | exact (c186f 0 (by omega)) | exact (so0 X l e (by omega)) | exact (tel_set tint _ _ _ _ rfl rfl rfl _ _ (by assumption) (by assumption)) | exact (tel_kind e _) | exact (by with_reducible exact hgo (hB.trans (by assumption))) | exact (by with_reducible exact hst (hB.trans (by assumption))) | (simp [hr, underL_int, Go, Ends', v144, -List.getD_eq_getElem?_getD, *]; done) | (simp_all [hr, underL_int, Go, Ends', v144, -List.getD_eq_getElem?_getD]; done)
    · have ha := hk.pair (.inl e)
      have hB : B = soF X l := by rw [hP, e]; rfl
      refine WP.once ?_
      simp only [T144, Tr.sure, SS, hi', hi, z8, z1, hcl, Int.toNat_zero]
      repeat' with_reducible first | intro _ | apply And.intro
      all_goals first | exact (c186f 1 (by omega)) | exact (so1 X l e (by omega) (by omega)) | exact (tel_set tint _ _ _ _ rfl rfl rfl _ _ (by assumption) (by assumption)) | exact (tel_kind e _) | exact (by with_reducible exact hgo (hB.trans (by assumption))) | exact (by with_reducible exact hst (hB.trans (by assumption))) | (simp [hr, underL_int, Go, Ends', v144, -List.getD_eq_getElem?_getD, *]; done) | (simp_all [hr, underL_int, Go, Ends', v144, -List.getD_eq_getElem?_getD]; done)
    · have ha := hk.pair (.inr (.inl e))
      have hB : B = soF X l := by rw [hP, e]; rfl
      refine WP.once ?_
      simp only [T144, Tr.sure, SS, hi', hi, z8, z1, hcl, Int.toNat_zero]
      repeat' with_reducible first | intro _ | apply And.intro
      all_goals first | exact (c186f 2 (by omega)) | exact (so2 X l e (by omega) (by omega)) | exact (tel_set tint _ _ _ _ rfl rfl rfl _ _ (by assumption) (by assumption)) | exact (tel_kind e _) | exact (by with_reducible exact hgo (hB.trans (by assumption))) | exact (by with_reducible exact hst (hB.trans (by assumption))) | (simp [hr, underL_int, Go, Ends', v144, -List.getD_eq_getElem?_getD, *]; done) | (simp_all [hr, underL_int, Go, Ends', v144, -List.getD_eq_getElem?_getD]; done)
    · have ha := hk.pair (.inr (.inr e))
      have hB : B = soF X l := by rw [hP, e]; rfl
      refine WP.once ?_
      simp only [T144, Tr.sure, SS, hi', hi, z8, z1, hcl, Int.toNat_zero]
      repeat' with_reducible first | intro _ | apply And.intro
      all_goals first | exact (c186f 3 (by omega)) | exact (so3 X l e (by omega) (by omega)) | exact (tel_set tint _ _ _ _ rfl rfl rfl _ _ (by assumption) (by assumption)) | exact (tel_kind e _) | exact (by with_reducible exact hgo (hB.trans (by assumption))) | exact (by with_reducible exact hst (hB.trans (by assumption))) | (simp [hr, underL_int, Go, Ends', v144, -List.getD_eq_getElem?_getD, *]; done) | (simp_all [hr, underL_int, Go, Ends', v144, -List.getD_eq_getElem?_getD]; done)
    · have hB : B = false := by rw [hP, e]; rfl
      refine WP.once ?_
      simp only [T144, Tr.sure, SS, hi', hi, z8, z1, hcl, Int.toNat_zero]
      repeat' with_reducible first | intro _ | apply And.intro
      all_goals first | exact (c186t 4 (by omega)) | exact (tel_kind e _) | exact (by with_reducible exact hst hB) | (simp [hr, underL_int, Go, Ends', v144, -List.getD_eq_getElem?_getD, *]; done) | (simp_all [hr, underL_int, Go, Ends', v144, -List.getD_eq_getElem?_getD]; done)
    · have hB : B = false := by rw [hP, e]; rfl
      refine WP.once ?_
      simp only [T144, Tr.sure, SS, hi', hi, z8, z1, hcl, Int.toNat_zero]
      repeat' with_reducible first | intro _ | apply And.intro
      all_goals first | exact (c186t 5 (by omega)) | exact (tel_kind e _) | exact (by with_reducible exact hst hB) | (simp [hr, underL_int, Go, Ends', v144, -List.getD_eq_getElem?_getD, *]; done) | (simp_all [hr, underL_int, Go, Ends', v144, -List.getD_eq_getElem?_getD]; done)
  · refine WP.step ?_
    simp only [T144, Go, Ends', v144, Tr.sure, SS, Int.lt_irrefl]
    repeat' with_reducible first | intro _ | apply And.intro
    all_goals first | exact tel_one tint _ rfl | (simp [Go, Ends', v144, -List.getD_eq_getElem?_getD, *]; done) | skip
    refine WP.run (fun m => .l1 (mouldA c l m) m) rfl c.shop.moulds.length (fun m hmi => ?_) ?_
    · have hr : inR .i64 ((m : Int) + 1) = true := inR64 (by omega) (by omega)
      have hml := mouldA_le h.shop l m (by omega)
      have hlt := mouldA_lt h5 (l := l) m
      have hml' : (mouldA c l m).length ≤ 2401 := Nat.le_trans hml (by
        rcases show m = 0 ∨ m = 1 by omega with e | e <;> subst e <;> decide)
      refine WP.step ?_
      simp only [T144, Go, Ends', v144, Tr.sure, SS, hmi]
      repeat' with_reducible first | intro _ | apply And.intro
      obtain ⟨F, hF⟩ : ∃ F : Nat, c.shop.features.toNat = F := ⟨_, rfl⟩
      refine WP.run (fun f => .l2 m (featA c l m (mouldA c l m) f) f) rfl F (fun f hfi => ?_) ?_
      · have hr' : inR .i64 ((f : Int) + 1) = true := inR64 (by omega) (by omega)
        have hfl : (f : Int) < c.shop.features := by omega
        have hcall := c142 c ks l m f h.shop hl (by omega) (by omega)
        have hlen := featA_le h.shop l (m := (m : Int)) (by omega) (mouldA c l m) f (by omega)
        have h7 := pow7 (F := f) (by omega)
        have hlen' : (featA c l m (mouldA c l m) f).length ≤ 6000000 := by
          have := Nat.mul_le_mul h7 hml'
          omega
        have hnext : featA c l m (mouldA c l m) (f + 1) = stepA c l m f (featA c l m (mouldA c l m) f) := rfl
        have hwd := wideA_le h.shop l (m := (m : Int)) (f := (f : Int)) (by omega) (by omega) c.shop.heads.length
        have hin := lastA_in h.shop l (m := (m : Int)) (f := (f : Int)) (by omega) (by omega) c.shop.heads.length
        generalize featA c l m (mouldA c l m) f = out at *
        have hsp : lastA c.shop l m f c.shop.heads.length = spanA c l m f := rfl
        rw [hsp] at hwd hin hcall
        refine WP.step ?_
        simp only [T144, Go, Ends', v144, Tr.sure, SS, hfl]
        repeat' with_reducible first | intro _ | apply And.intro
        all_goals first | exact hcall | skip
        have hnl : ∀ n, (nextA c m f (spanA c l m f).lo out n).length ≤ n * out.length := nextA_len c m f (spanA c l m f).lo out
        refine WP.run (fun n => .l3 m out f ((spanA c l m f).lo + (n : Int)) (nextA c m f (spanA c l m f).lo out n).reverse) (by simp [nextA]) (Go.Proofs.YtdamoemndifpmaaGreat.wide (spanA c l m f)) (fun n hn => ?_) ?_
        · have hle : (spanA c l m f).lo + (n : Int) ≤ (spanA c l m f).hi := by unfold Go.Proofs.YtdamoemndifpmaaGreat.wide at hn; omega
          have hr3 : inR .i64 ((spanA c l m f).lo + (n : Int) + 1) = true := inR64 (by omega) (by omega)
          have hx : (spanA c l m f).lo + ((n + 1 : Nat) : Int) = (spanA c l m f).lo + (n : Int) + 1 := by omega
          have hla := hnl n
          have hlb : (nextA c m f (spanA c l m f).lo out n).length ≤ 140000000 := Nat.le_trans hla (Nat.le_trans (Nat.mul_le_mul (show n ≤ 7 by omega) hlen') (by decide))
          have hns : nextA c m f (spanA c l m f).lo out (n + 1) = nextA c m f (spanA c l m f).lo out n ++ out.map fun s => orZ s (ownA c m f ((spanA c l m f).lo + (n : Int)) c.claims.length) := by
            unfold nextA; rw [List.range_succ, List.flatMap_append]; simp
          rw [hx, hns]
          generalize (spanA c l m f).lo + (n : Int) = last at *
          generalize nextA c m f (spanA c l m f).lo out n = acc at *
          refine WP.step ?_
          simp only [T144, Go, Ends', v144, Tr.sure, SS, hle]
          repeat' with_reducible first | intro _ | apply And.intro
          refine WP.run (fun i => .l4 m out f last acc.reverse (ownA c m f last i) i) rfl c.claims.length (fun i hi => w144_4 c ks l h m f last out acc.reverse i hi) ?_
          generalize ownA c m f last c.claims.length = own
          refine WP.step ?_
          simp only [T144, Go, Ends', v144, Tr.sure, SS, Int.lt_irrefl]
          repeat' with_reducible first | intro _ | apply And.intro
          refine WP.run (fun k => .l5 m out f last own k (((out.take k).map fun s => orZ s own).reverse ++ acc.reverse)) rfl out.length (fun k hk => ?_) ?_
          · have hr5 : inR .i64 ((k : Int) + 1) = true := inR64 (by omega) (by omega)
            have hk' : (k : Int) < out.length := by omega
            have hbl : (((out.take k).map fun s => orZ s own).reverse ++ acc.reverse).length + 1 ≤ 4294967296 := by simp; omega
            have hts := rev_take (fun s => orZ s own) 0 out k hk
            refine WP.once ?_
            simp only [T144, Tr.sure, SS, hk', hk, z1]
            repeat' with_reducible first | intro _ | apply And.intro
            all_goals first | (simp [hr5, hbl, hts, orZ, Go, Ends', v144, -List.getD_eq_getElem?_getD, *]; done) | (simp_all [hr5, hbl, hts, orZ, Go, Ends', v144, -List.getD_eq_getElem?_getD]; done)
          · rw [List.take_length]
            refine WP.once ?_
            simp only [T144, Tr.sure, SS, Int.lt_irrefl]
            repeat' with_reducible first | intro _ | apply And.intro
            all_goals simp [hr3, Go, Ends', v144, -List.getD_eq_getElem?_getD, *]
        · have hle : ¬ (spanA c l m f).lo + (Go.Proofs.YtdamoemndifpmaaGreat.wide (spanA c l m f) : Int) ≤ (spanA c l m f).hi := by unfold Go.Proofs.YtdamoemndifpmaaGreat.wide; omega
          have he : stepA c l m f out = Lib.compact (sortZ (nextA c m f (spanA c l m f).lo out (Go.Proofs.YtdamoemndifpmaaGreat.wide (spanA c l m f)))) := rfl
          have hcs := compact_len (sortZ (nextA c m f (spanA c l m f).lo out (Go.Proofs.YtdamoemndifpmaaGreat.wide (spanA c l m f))))
          rw [sortZ_len] at hcs
          rw [hnext, he]
          have hsl := sortZ_len (nextA c m f (spanA c l m f).lo out (Go.Proofs.YtdamoemndifpmaaGreat.wide (spanA c l m f)))
          generalize nextA c m f (spanA c l m f).lo out (Go.Proofs.YtdamoemndifpmaaGreat.wide (spanA c l m f)) = acc at *
          have hrr : acc.reverse.reverse = acc := List.reverse_reverse acc
          have hlr : acc.reverse.length = acc.length := List.length_reverse
          have hpl := padZ_len hcs
          have hsq : acc.reverse.length = (sortZ acc.reverse.reverse).length := by rw [hrr, hsl, hlr]
          refine WP.once ?_
          simp only [T144, Tr.sure, SS, hle]
          repeat' with_reducible first | intro _ | apply And.intro
          all_goals first | exact (c145r _ 2 acc.reverse rfl) | exact (c187r _ 2 (sortZ acc.reverse.reverse) acc.reverse.length hsq rfl) | exact (VLe.pad _ _) | exact (VLe.same tint _ (by rw [hrr, hlr, hpl])) | (simp [hr', hcs, hrr, hlr, Go, Ends', v144, -List.getD_eq_getElem?_getD, *]; done)
      · have hle : ¬ (F : Int) < c.shop.features := by omega
        have he : mouldA c l (m + 1) = featA c l m (mouldA c l m) F := by rw [← hF]; rfl
        refine WP.once ?_
        simp only [T144, Tr.sure, SS, hle]
        repeat' with_reducible first | intro _ | apply And.intro
        all_goals simp [hr, he, Go, Ends', v144, -List.getD_eq_getElem?_getD, *]
    · refine WP.step ?_
      simp only [T144, Go, Ends', v144, Tr.sure, SS, Int.lt_irrefl]
      repeat' with_reducible first | intro _ | apply And.intro
      all_goals simp [casesA, Go, Ends', v144, -List.getD_eq_getElem?_getD, *]
end
end Go.Proofs.YtdamoemndifpmaaGreat
