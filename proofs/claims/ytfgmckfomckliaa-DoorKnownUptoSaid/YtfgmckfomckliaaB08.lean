/-
  Part of the proof of the law DoorKnown. Conditions: those that stand in each theorem.
-/
import Derived.Laws.RangeAny
import Derived.Test.YtfgmckfomckliaaB07
set_option linter.unusedSimpArgs false
set_option linter.unusedVariables false
set_option maxRecDepth 100000
namespace Go.Proofs.Ytfgmckfomckliaa
open Ab Go
noncomputable section
inductive P95
  | e
inductive R95
  | r0 (r0 : Bool)
noncomputable def T95 (n : Int) (lo : Int) (hi : Int) : P95 → Tr P95 R95
  | .e => (.br (decide (n < lo)) (.out (.r0 true)) (.out (.r0 (decide (n > hi)))))
noncomputable def g95 (n : Int) (lo : Int) (hi : Int) : P95 → List Item × St
  | .e => bd Try.f35 [iI n, rR (iI lo), rR (iI hi)] 10
noncomputable def n95 : R95 → Exit × St
  | .r0 r0 => (.ret, ⟨mk 13 [(4, .bool r0)], [], []⟩)
noncomputable def v95 : R95 → V
  | .r0 r0 => .bool r0
theorem s95 (n : Int) (lo : Int) (hi : Int) : Sm 0 (g95 n lo hi) (T95 n lo hi) (n95)
  | .e => ⟨400, by kernel_rfl⟩
theorem q95 : ∀ r, bodyQ Try.prog Try.f35 (· = v95 r) (n95 r).1 (n95 r).2
  | .r0 r0 => bq (.bool r0) (by kernel_rfl)
theorem w95 (n : Int) (lo : Int) (hi : Int) {post : V → Prop} (h : WQ (T95 n lo hi) v95 post .e) : PC 35 [iI n, rR (iI lo), rR (iI hi)] post :=
  PCalls.wq Try.func35 (s95 n lo hi) q95 h
theorem c95 (n lo hi : Int) : PC 35 [iI n, rR (iI lo), rR (iI hi)] (· = .bool (!within n lo hi)) := by
  refine w95 _ _ _ (WP.step ?_)
  simp only [T95, Go, Ends', v95, Tr.sure, SS]
  repeat' with_reducible first | intro _ | apply And.intro
  all_goals first | (simp [within, Go, Ends', v95, -List.getD_eq_getElem?_getD, *]; done) | skip
  all_goals (simp only [within, V.bool.injEq]; rw [Bool.eq_iff_iff]; simp; omega)
def Asks2 (g : Nat) (lo hi : Int) (p : Int → Bool) : Prop := ∀ n, PC g [iI n, rR (iI lo), rR (iI hi)] (· = .bool (p n))
def place (o : Option Nat) : Int := match o with | some i => i | none => -1
theorem place_ge (o : Option Nat) : (0 ≤ place o) ↔ o.isSome = true := by cases o <;> simp [place]
inductive P124
  | e
  | l0 (x0_8 : Int)
inductive R124
  | r0 (r0 : Int)
noncomputable def T124 (g : Nat) (lo : Int) (hi : Int) (p : Int → Bool) (s : List Int) : P124 → Tr P124 R124
  | .e => (.go (.l0 0))
  | .l0 x0_8 => let c1 := s.getD (x0_8).toNat tint.zero; (.br (decide (x0_8 < (s.length : Int))) (.need (decide (0 ≤ x0_8) && decide (x0_8 < (s.length : Int))) (.call g [iI c1, rR (iI lo), rR (iI hi)] (.bool (p c1)) true true (.br (p c1) (.out (.r0 x0_8)) (.need (inR .i64 (x0_8 + (1 : Int))) (.go (.l0 (x0_8 + (1 : Int)))))))) (.out (.r0 (-1))))
noncomputable def g124 (g : Nat) (lo : Int) (hi : Int) (p : Int → Bool) (s : List Int) : P124 → List Item × St
  | .e => bd Try.f59 [tint.lst s, .func (.func g) [] [rR (iI lo), rR (iI hi)]] 17
  | .l0 x0_8 => (cutOf Try.f59 0, ⟨mk 19 [(0, tint.lst s), (1, .func (.func g) [] [rR (iI lo), rR (iI hi)]), (7, iI (s.length : Int)), (8, iI x0_8)], [], []⟩)
noncomputable def n124 : R124 → Exit × St
  | .r0 r0 => (.ret, ⟨mk 19 [(4, iI r0)], [], []⟩)
noncomputable def v124 : R124 → V
  | .r0 r0 => iI r0
theorem s124 (g : Nat) (lo : Int) (hi : Int) (p : Int → Bool) (s : List Int) : Sm 0 (g124 g lo hi p s) (T124 g lo hi p s) (n124)
  | .e => ⟨400, by kernel_rfl⟩
  | .l0 _ => ⟨400, by kernel_rfl⟩
theorem q124 : ∀ r, bodyQ Try.prog Try.f59 (· = v124 r) (n124 r).1 (n124 r).2
  | .r0 r0 => bq (iI r0) (by kernel_rfl)
theorem w124 (g : Nat) (lo : Int) (hi : Int) (p : Int → Bool) (s : List Int) {post : V → Prop} (h : WQ (T124 g lo hi p s) v124 post .e) : PC 59 [tint.lst s, .func (.func g) [] [rR (iI lo), rR (iI hi)]] post :=
  PCalls.wq Try.func59 (s124 g lo hi p s) q124 h
theorem e124 : ∀ xs w, (callFunc 59 xs).run Try.prog w = .ok (.enter 59 xs) w := PCalls.enters Try.func59 (c := Try.f59.body.getD .skip) (by kernel_rfl) (by kernel_rfl)
theorem c124 {g : Nat} {lo hi : Int} {p : Int → Bool} (s : List Int) (hg : Asks2 g lo hi p) : PC 59 [tint.lst s, .func (.func g) [] [rR (iI lo), rR (iI hi)]]
    (· = iI (place (firstI p 0 s))) := by
  refine PCalls.assume e124 0 (by simp) .list fun hs => ?_
  refine w124 g lo hi p s (WP.step ?_)
  simp only [T124, Go, Ends', v124, Tr.sure, SS]
  repeat' with_reducible first | intro _ | apply And.intro
  refine WP.findI (fun i => .l0 i) rfl s 0 p (fun i hi => ?_) fun hI => ?_
  · have hr := inRi hi hs
    refine WP.once ?_
    simp only [T124, Tr.sure, SS, hi, z1]
    repeat' with_reducible first | intro _ | apply And.intro
    all_goals first | exact hg _ | (simp [hr, place, Go, Ends', v124, -List.getD_eq_getElem?_getD, *]; done) | (simp_all [hr, place, Go, Ends', v124, -List.getD_eq_getElem?_getD]; done)
  · refine WP.step ?_
    simp only [T124, Go, Ends', v124, Tr.sure, SS]
    repeat' with_reducible first | intro _ | apply And.intro
    all_goals simp [hI, place, Go, Ends', v124, -List.getD_eq_getElem?_getD, *]
inductive P94
  | e
inductive R94
  | r0 (r0 : Bool)
noncomputable def T94 (g : Nat) (lo : Int) (hi : Int) (p : Int → Bool) (s : List Int) : P94 → Tr P94 R94
  | .e => (.call 59 [tint.lst s, .func (.func g) [] [rR (iI lo), rR (iI hi)]] (iI (place (firstI p 0 s))) true true (.out (.r0 (decide ((place (firstI p 0 s)) ≥ (0 : Int))))))
noncomputable def g94 (g : Nat) (lo : Int) (hi : Int) (p : Int → Bool) (s : List Int) : P94 → List Item × St
  | .e => bd Try.f34 [tint.lst s, .func (.func g) [] [rR (iI lo), rR (iI hi)]] 7
noncomputable def n94 : R94 → Exit × St
  | .r0 r0 => (.ret, ⟨mk 9 [(4, .bool r0)], [], []⟩)
noncomputable def v94 : R94 → V
  | .r0 r0 => .bool r0
theorem s94 (g : Nat) (lo : Int) (hi : Int) (p : Int → Bool) (s : List Int) : Sm 0 (g94 g lo hi p s) (T94 g lo hi p s) (n94)
  | .e => ⟨400, by kernel_rfl⟩
theorem q94 : ∀ r, bodyQ Try.prog Try.f34 (· = v94 r) (n94 r).1 (n94 r).2
  | .r0 r0 => bq (.bool r0) (by kernel_rfl)
theorem w94 (g : Nat) (lo : Int) (hi : Int) (p : Int → Bool) (s : List Int) {post : V → Prop} (h : WQ (T94 g lo hi p s) v94 post .e) : PC 34 [tint.lst s, .func (.func g) [] [rR (iI lo), rR (iI hi)]] post :=
  PCalls.wq Try.func34 (s94 g lo hi p s) q94 h
theorem c94 {g : Nat} {lo hi : Int} {p : Int → Bool} (s : List Int) (hg : Asks2 g lo hi p) : PC 34 [tint.lst s, .func (.func g) [] [rR (iI lo), rR (iI hi)]]
    (· = .bool (s.any p)) := by
  have h1 : decide (0 ≤ place (firstI p 0 s)) = s.any p := by rw [← firstI_any p s 0, Bool.eq_iff_iff, decide_eq_true_iff]; exact place_ge _
  refine w94 g lo hi p s (WP.step ?_)
  simp only [T94, Go, Ends', v94, Tr.sure, SS]
  repeat' with_reducible first | intro _ | apply And.intro
  all_goals first | exact c124 s hg | (simp [h1, Go, Ends', v94, -List.getD_eq_getElem?_getD, *]; done)
inductive P53
  | e
inductive R53
  | r0 (r0 : Bool)
noncomputable def T53 (p0 : Int) (p1 : Int) (p2 : List Int) : P53 → Tr P53 R53
  | .e => (.call 34 [tint.lst p2, fG 35 [rR (iI p0), rR (iI p1)]] (.bool (outside p0 p1 p2)) true true (.out (.r0 (outside p0 p1 p2))))
noncomputable def g53 (p0 : Int) (p1 : Int) (p2 : List Int) : P53 → List Item × St
  | .e => bd Try.f14 [iI p0, iI p1, tint.lst p2] 7
noncomputable def n53 : R53 → Exit × St
  | .r0 r0 => (.ret, ⟨mk 10 [(6, .bool r0)], [], []⟩)
noncomputable def v53 : R53 → V
  | .r0 r0 => .bool r0
theorem s53 (p0 : Int) (p1 : Int) (p2 : List Int) : Sm 0 (g53 p0 p1 p2) (T53 p0 p1 p2) (n53)
  | .e => ⟨400, by kernel_rfl⟩
theorem q53 : ∀ r, bodyQ Try.prog Try.f14 (· = v53 r) (n53 r).1 (n53 r).2
  | .r0 r0 => bq (.bool r0) (by kernel_rfl)
theorem w53 (p0 : Int) (p1 : Int) (p2 : List Int) {post : V → Prop} (h : WQ (T53 p0 p1 p2) v53 post .e) : PC 14 [iI p0, iI p1, tint.lst p2] post :=
  PCalls.wq Try.func14 (s53 p0 p1 p2) q53 h
theorem c53 (lo hi : Int) (l : List Int) : PC 14 [iI lo, iI hi, tint.lst l] (· = .bool (outside lo hi l)) := by
  refine w53 _ _ _ (WP.step ?_)
  simp only [T53, Go, Ends', v53, Tr.sure, SS]
  repeat' with_reducible first | intro _ | apply And.intro
  all_goals exact c94 l fun n => c95 n lo hi
theorem outside1 (lo hi a : Int) : outside lo hi [a] = !within a lo hi := by simp [outside]
theorem c53l (lo hi a : Int) {c : Nat → Nat → V} (hc : c 0 0 = iI a) : PC 14 [iI lo, iI hi, .list 1 1 c] (· = .bool (!within a lo hi)) := by
  rw [← outside1]
  exact PCalls.arg (pre := [iI lo, iI hi]) (c53 lo hi [a]) (VLe.list fun i j hi hj => by
    obtain rfl : i = 0 := by omega
    obtain rfl : j = 0 := by omega
    rw [hc]; rfl)
theorem byte_at (s : ByteArray) (i : Nat) (hi : i < s.size) : s[i]'hi = s.data.toList.getD i 0 := by
  simp only [List.getD_eq_getElem?_getD, List.getElem?_eq_getElem (show i < s.data.toList.length from hi), Option.getD_some]; rfl
inductive P54
  | e
  | l0 (o0_0 : Nat)
inductive R54
  | r0 (r0 : Bool)
noncomputable def T54 (p0 : ByteArray) : P54 → Tr P54 R54
  | .e => (.sem (opAt Try.f30 1 1) [(.tmp 6, .str p0)] [] (.ref 0 0 0) [.obj (.stringIter p0 0)] true (.go (.l0 0)))
  | .l0 o0_0 => let c2 := Utf8.decode p0 o0_0; let c1 : Tr P54 R54 := .br ((o0_0 : Int) == (0 : Int)) (.lit true (.lit true (.lit true (.out (.r0 false))))) (.br ((c2.1 : Int) != (46 : Int)) (.br (decide ((c2.1 : Int) < (48 : Int))) (.lit true (.lit false (.lit true (.lit true (.out (.r0 false)))))) (.lit true (.lit false (.lit true (.br (decide ((c2.1 : Int) > (57 : Int))) (.out (.r0 false)) (.go (.l0 (o0_0 + c2.2)))))))) (.lit false (.lit false (.lit true (.lit false (.go (.l0 (o0_0 + c2.2)))))))); let c3 : List Blk := [.obj (.stringIter p0 o0_0)]; (.wait 1 (.cas (decide (o0_0 < p0.size)) (.sem (opAt Try.f30 2 0) [(.tmp 7, .ref 0 0 0)] c3 (.tuple [.bool true, iI (o0_0 : Int), .int .i32 (c2.1 : Int)]) [.obj (.stringIter p0 (o0_0 + c2.2))] true (.lit true (.br (decide ((97 : Int) ≤ (c2.1 : Int))) (.br (!(decide ((c2.1 : Int) ≤ (122 : Int)))) c1 (.lit false (.lit false (.go (.l0 (o0_0 + c2.2)))))) (.lit true c1)))) (.sem (opAt Try.f30 2 0) [(.tmp 7, .ref 0 0 0)] c3 (.tuple [.bool false]) c3 true (.lit false (.br (!(p0.toList == (ByteArray.mk #[]).toList)) (.out (.r0 (decide ((p0.size : Int) ≤ (16 : Int))))) (.out (.r0 false)))))))
noncomputable def g54 (p0 : ByteArray) : P54 → List Item × St
  | .e => bd Try.f30 [.str p0] 42
  | .l0 o0_0 => (cutOf Try.f30 0, ⟨mk 43 [(0, .str p0), (2, .bool false), (7, .ref 0 0 0)], [.obj (.stringIter p0 o0_0)], []⟩)
noncomputable def n54 : R54 → Exit × St
  | .r0 r0 => (.ret, ⟨mk 43 [(2, .bool r0)], [], []⟩)
noncomputable def v54 : R54 → V
  | .r0 r0 => .bool r0
theorem s54 (p0 : ByteArray) : Sm 0 (g54 p0) (T54 p0) (n54)
  | .e => ⟨400, by kernel_rfl⟩
  | .l0 _ => ⟨400, by kernel_rfl⟩
theorem q54 : ∀ r, bodyQ Try.prog Try.f30 (· = v54 r) (n54 r).1 (n54 r).2
  | .r0 r0 => bq (.bool r0) (by kernel_rfl)
theorem w54 (p0 : ByteArray) {post : V → Prop} (h : WQ (T54 p0) v54 post .e) : PC 30 [.str p0] post :=
  PCalls.wq Try.func30 (s54 p0) q54 h
theorem c54 (s : ByteArray) : PC 30 [.str s] (· = .bool (nameOk s)) := by
  refine w54 _ (WP.step ?_)
  simp only [T54, Go, Ends', v54, Tr.sure, SS]
  repeat' with_reducible first | intro _ | apply And.intro
  all_goals first | exact sem_rangeStr (by kernel_rfl) | skip
  refine WP.count (fun i => .l0 i) rfl s.size (fun i => nameFrom true s.data.toList = nameFrom (i == 0) (s.data.toList.drop i)) rfl (fun i hi hI => ?_) fun hI => ?_
  · have hd := drop_cons 0 s.data.toList i hi
    rw [hd] at hI
    have hb := byte_at s i hi
    have hsem : SemOK Try.prog (opAt Try.f30 2 0) _ _ _ _ := sem_nextStr (P := Try.prog) (x := .tmp 7) (i := 0) (h := [.obj (.stringIter s i)]) rfl hi
    have hgo : (97 ≤ (s.data.toList.getD i 0).toNat ∧ (s.data.toList.getD i 0).toNat ≤ 122 ∨ i ≠ 0 ∧ (48 ≤ (s.data.toList.getD i 0).toNat ∧ (s.data.toList.getD i 0).toNat ≤ 57 ∨ (s.data.toList.getD i 0).toNat = 46)) →
        nameFrom true s.data.toList = nameFrom (i + 1 == 0) (s.data.toList.drop (i + 1)) := fun h => by
      rw [hI]; simp only [nameFrom, letter, other, within]
      have : (decide ((97 : Int) ≤ ((s.data.toList.getD i 0).toNat : Int)) && decide (((s.data.toList.getD i 0).toNat : Int) ≤ 122) || !(i == 0) && (decide ((48 : Int) ≤ ((s.data.toList.getD i 0).toNat : Int)) && decide (((s.data.toList.getD i 0).toNat : Int) ≤ 57) || ((s.data.toList.getD i 0).toNat : Int) == 46)) = true := by
        simp only [Bool.or_eq_true, Bool.and_eq_true, decide_eq_true_eq, Bool.not_eq_eq_eq_not, Bool.not_true, beq_eq_false_iff_ne, beq_iff_eq]; omega
      rw [this]; simp
    have hx : ¬ (97 ≤ (s.data.toList.getD i 0).toNat ∧ (s.data.toList.getD i 0).toNat ≤ 122 ∨ i ≠ 0 ∧ (48 ≤ (s.data.toList.getD i 0).toNat ∧ (s.data.toList.getD i 0).toNat ≤ 57 ∨ (s.data.toList.getD i 0).toNat = 46)) →
        nameOk s = false := fun h => by
      have : nameFrom true s.data.toList = false := by
        rw [hI]; simp only [nameFrom, letter, other, within]
        have : (decide ((97 : Int) ≤ ((s.data.toList.getD i 0).toNat : Int)) && decide (((s.data.toList.getD i 0).toNat : Int) ≤ 122) || !(i == 0) && (decide ((48 : Int) ≤ ((s.data.toList.getD i 0).toNat : Int)) && decide (((s.data.toList.getD i 0).toNat : Int) ≤ 57) || ((s.data.toList.getD i 0).toNat : Int) == 46)) = false := by
          rw [Bool.eq_false_iff]; simp only [ne_eq, Bool.or_eq_true, Bool.and_eq_true, decide_eq_true_eq, Bool.not_eq_eq_eq_not, Bool.not_true, beq_eq_false_iff_ne, beq_iff_eq]; omega
        rw [this]; simp
      simp [nameOk, this]
    have hen : ∀ x : Bool, nameOk s = false → x = false → V.bool x = V.bool (nameOk s) := fun x h1 h2 => by rw [h1, h2]
    by_cases ha : (s.data.toList.getD i 0).toNat < 128
    · have hu := decode_ascii s i hi (by rw [hb]; exact ha)
      rw [hb] at hu
      rw [hu] at hsem
      generalize hg : s.data.toList.getD i 0 = c at *
      refine WP.once ?_
      simp only [T54, Tr.sure, SS, hi, hu]
      repeat' with_reducible first | intro _ | apply And.intro
      all_goals first | exact hsem | exact .inl (hgo (by omega)) | exact .inr (hen _ (hx (by omega)) rfl)
    · have hu := (decode_high s i hi (by rw [hb]; omega)).1
      have hx' := hx (by omega)
      refine WP.once ?_
      simp only [T54, Tr.sure, SS, hi]
      repeat' with_reducible first | intro _ | apply And.intro
      all_goals first | exact hsem | exact .inr (hen _ hx' rfl) | exact (by omega)
      all_goals (exfalso; omega)
  · have he : nameFrom (s.size == 0) (s.data.toList.drop s.size) = true := by rw [← data_len, List.drop_length]; rfl
    have hz : s.toList = (ByteArray.mk #[]).toList ↔ s.size = 0 := by
      rw [ByteArray.toList_eq, ByteArray.toList_eq, ← data_len]
      exact ⟨fun h => by rw [h]; rfl, fun h => List.eq_nil_of_length_eq_zero h⟩
    have h16 : ((s.size : Int) ≤ 16) ↔ s.size ≤ 16 := by omega
    refine WP.step ?_
    simp only [T54, Go, Ends', v54, Tr.sure, SS, Nat.lt_irrefl, hz]
    repeat' with_reducible first | intro _ | apply And.intro
    all_goals first | exact sem_nextStr0 rfl (Nat.lt_irrefl _) | (simp [hI, he, nameOk, hz, h16, Go, Ends', v54, -List.getD_eq_getElem?_getD, *]; done)
end
noncomputable section
theorem VLe.take {τ : Type} (E : Ty τ) (l : List τ) (i n : Nat) (hi : i ≤ l.length) (hn : n = i) : VLe (.list E.w n (fun a j => rowsOf E l a j)) (E.lst (l.take i)) := by
  subst hn
  have hl : (l.take n).length = n := by simp; omega
  show VLe _ (.list E.w (l.take n).length (rowsOf E (l.take n)))
  rw [hl]
  exact VLe.list fun a j ha _ => by simp only [rowsOf, List.getD_eq_getElem?_getD, List.getElem?_take, ha, if_true]
inductive P56
  | e
inductive R56
  | r0 (r0 : Bool)
noncomputable def T56 (m : Room) (r : Room) : P56 → Tr P56 R56
  | .e => (.out (.r0 (m.name.toList == r.name.toList)))
noncomputable def g56 (m : Room) (r : Room) : P56 → List Item × St
  | .e => bd Try.f32 [.agg [.str m.name, iI m.more, iI m.full], .cref 3 fun q => ([.str r.name, iI r.more, iI r.full] : List V).getD q uU] 7
noncomputable def n56 : R56 → Exit × St
  | .r0 r0 => (.ret, ⟨mk 9 [(3, .bool r0)], [], []⟩)
noncomputable def v56 : R56 → V
  | .r0 r0 => .bool r0
theorem s56 (m : Room) (r : Room) : Sm 0 (g56 m r) (T56 m r) (n56)
  | .e => ⟨400, by kernel_rfl⟩
theorem q56 : ∀ r, bodyQ Try.prog Try.f32 (· = v56 r) (n56 r).1 (n56 r).2
  | .r0 r0 => bq (.bool r0) (by kernel_rfl)
theorem w56 (m : Room) (r : Room) {post : V → Prop} (h : WQ (T56 m r) v56 post .e) : PC 32 [.agg [.str m.name, iI m.more, iI m.full], .cref 3 fun q => ([.str r.name, iI r.more, iI r.full] : List V).getD q uU] post :=
  PCalls.wq Try.func32 (s56 m r) q56 h
theorem c56 (m r : Room) : PC 32 [.agg (tRoom.cells m), .cref (tRoom.cells r).length fun q => (tRoom.cells r).getD q uU] (· = .bool (same m.name r.name)) := by
  refine w56 _ _ (WP.step ?_)
  simp only [T56, Go, Ends', v56, Tr.sure, SS]
  repeat' with_reducible first | intro _ | apply And.intro
  all_goals simp [same, Go, Ends', v56, -List.getD_eq_getElem?_getD, *]
inductive P96
  | e
  | l0 (x0_8 : Int)
inductive R96
  | r0 (r0 : Int)
noncomputable def T96 (r : Room) (s : List Room) : P96 → Tr P96 R96
  | .e => (.go (.l0 0))
  | .l0 x0_8 => let c1 := s.getD (x0_8).toNat tRoom.zero; (.br (decide (x0_8 < (s.length : Int))) (.need (decide (0 ≤ x0_8) && decide (x0_8 < (s.length : Int))) (.call 32 [.agg [.str (c1.name), iI (c1.more), iI (c1.full)], .cref 3 fun q => ([.str r.name, iI r.more, iI r.full] : List V).getD q uU] (.bool (same c1.name r.name)) true true (.br (same c1.name r.name) (.out (.r0 x0_8)) (.need (inR .i64 (x0_8 + (1 : Int))) (.go (.l0 (x0_8 + (1 : Int)))))))) (.out (.r0 (-1))))
noncomputable def g96 (r : Room) (s : List Room) : P96 → List Item × St
  | .e => bd Try.f54 [tRoom.lst s, fG 32 [.cref 3 fun q => ([.str r.name, iI r.more, iI r.full] : List V).getD q uU]] 17
  | .l0 x0_8 => (cutOf Try.f54 0, ⟨mk 19 [(0, tRoom.lst s), (1, fG 32 [.cref 3 fun q => ([.str r.name, iI r.more, iI r.full] : List V).getD q uU]), (7, iI (s.length : Int)), (8, iI x0_8)], [], []⟩)
noncomputable def n96 : R96 → Exit × St
  | .r0 r0 => (.ret, ⟨mk 19 [(4, iI r0)], [], []⟩)
noncomputable def v96 : R96 → V
  | .r0 r0 => iI r0
theorem s96 (r : Room) (s : List Room) : Sm 0 (g96 r s) (T96 r s) (n96)
  | .e => ⟨400, by kernel_rfl⟩
  | .l0 _ => ⟨400, by kernel_rfl⟩
theorem q96 : ∀ r, bodyQ Try.prog Try.f54 (· = v96 r) (n96 r).1 (n96 r).2
  | .r0 r0 => bq (iI r0) (by kernel_rfl)
theorem w96 (r : Room) (s : List Room) {post : V → Prop} (h : WQ (T96 r s) v96 post .e) : PC 54 [tRoom.lst s, fG 32 [.cref 3 fun q => ([.str r.name, iI r.more, iI r.full] : List V).getD q uU]] post :=
  PCalls.wq Try.func54 (s96 r s) q96 h
theorem c96 (s : List Room) (r : Room) (hl : s.length ≤ maxn) : PC 54 [tRoom.lst s, fG 32 [.cref (tRoom.cells r).length fun q => (tRoom.cells r).getD q uU]] (· = iI (place (firstI (fun m => same m.name r.name) 0 s))) := by
  refine w96 r s (WP.step ?_)
  simp only [T96, Go, Ends', v96, Tr.sure, SS]
  repeat' with_reducible first | intro _ | apply And.intro
  refine WP.findI (fun i => .l0 i) rfl s zRoom (fun m => same m.name r.name) (fun i hi => ?_) fun hI => ?_
  · have hr := inRi hi hl
    refine WP.once ?_
    simp only [T96, Tr.sure, SS, hi, z2]
    repeat' with_reducible first | intro _ | apply And.intro
    all_goals first | exact c56 _ _ | (simp [hr, place, Go, Ends', v96, -List.getD_eq_getElem?_getD, *]; done) | (simp_all [hr, place, Go, Ends', v96, -List.getD_eq_getElem?_getD]; done)
  · refine WP.step ?_
    simp only [T96, Go, Ends', v96, Tr.sure, SS]
    repeat' with_reducible first | intro _ | apply And.intro
    all_goals simp [hI, place, Go, Ends', v96, -List.getD_eq_getElem?_getD, *]
inductive P55
  | e
inductive R55
  | r0 (r0 : Bool)
noncomputable def T55 (r : Room) (s : List Room) : P55 → Tr P55 R55
  | .e => (.call 54 [tRoom.lst s, fG 32 [.cref 3 fun q => ([.str r.name, iI r.more, iI r.full] : List V).getD q uU]] (iI (place (firstI (fun m => same m.name r.name) 0 s))) true true (.out (.r0 (decide ((place (firstI (fun m => same m.name r.name) 0 s)) ≥ (0 : Int))))))
noncomputable def g55 (r : Room) (s : List Room) : P55 → List Item × St
  | .e => bd Try.f31 [tRoom.lst s, fG 32 [.cref 3 fun q => ([.str r.name, iI r.more, iI r.full] : List V).getD q uU]] 7
noncomputable def n55 : R55 → Exit × St
  | .r0 r0 => (.ret, ⟨mk 9 [(4, .bool r0)], [], []⟩)
noncomputable def v55 : R55 → V
  | .r0 r0 => .bool r0
theorem s55 (r : Room) (s : List Room) : Sm 0 (g55 r s) (T55 r s) (n55)
  | .e => ⟨400, by kernel_rfl⟩
theorem q55 : ∀ r, bodyQ Try.prog Try.f31 (· = v55 r) (n55 r).1 (n55 r).2
  | .r0 r0 => bq (.bool r0) (by kernel_rfl)
theorem w55 (r : Room) (s : List Room) {post : V → Prop} (h : WQ (T55 r s) v55 post .e) : PC 31 [tRoom.lst s, fG 32 [.cref 3 fun q => ([.str r.name, iI r.more, iI r.full] : List V).getD q uU]] post :=
  PCalls.wq Try.func31 (s55 r s) q55 h
theorem c55 (s : List Room) (r : Room) (hl : s.length ≤ maxn) : PC 31 [tRoom.lst s, fG 32 [.cref (tRoom.cells r).length fun q => (tRoom.cells r).getD q uU]] (· = .bool ((s.map (·.name)).any fun o => same o r.name)) := by
  have h1 : decide (0 ≤ place (firstI (fun m => same m.name r.name) 0 s)) = (s.map (·.name)).any fun o => same o r.name := by rw [List.any_map, ← firstI_any _ s 0, Bool.eq_iff_iff, decide_eq_true_iff]; exact place_ge _
  refine w55 r s (WP.step ?_)
  simp only [T55, Go, Ends', v55, Tr.sure, SS]
  repeat' with_reducible first | intro _ | apply And.intro
  all_goals first | exact c96 s r hl | (simp [h1, Go, Ends', v55, -List.getD_eq_getElem?_getD, *]; done)
theorem c55t (l : List Room) (r : Room) (i n : Nat) (hi : i ≤ l.length) (hn : n = i) (hl : l.length ≤ maxn) : PC 31 [.list tRoom.w n (fun a j => rowsOf tRoom l a j), fG 32 [.cref (tRoom.cells r).length fun q => (tRoom.cells r).getD q uU]] (· = .bool (((l.map (·.name)).take i).any fun o => same o r.name)) := by
  have hc := c55 (l.take i) r (by simp; omega)
  rw [List.map_take] at hc
  exact PCalls.arg (pre := []) hc (VLe.take tRoom l i n hi hn)
inductive P98
  | e
inductive R98
  | r0 (r0 : Bool)
noncomputable def T98 (m : School) (r : School) : P98 → Tr P98 R98
  | .e => (.out (.r0 (m.name.toList == r.name.toList)))
noncomputable def g98 (m : School) (r : School) : P98 → List Item × St
  | .e => bd Try.f56 [.agg [.str m.name, iI m.children], .cref 2 fun q => ([.str r.name, iI r.children] : List V).getD q uU] 7
noncomputable def n98 : R98 → Exit × St
  | .r0 r0 => (.ret, ⟨mk 9 [(3, .bool r0)], [], []⟩)
noncomputable def v98 : R98 → V
  | .r0 r0 => .bool r0
theorem s98 (m : School) (r : School) : Sm 0 (g98 m r) (T98 m r) (n98)
  | .e => ⟨400, by kernel_rfl⟩
theorem q98 : ∀ r, bodyQ Try.prog Try.f56 (· = v98 r) (n98 r).1 (n98 r).2
  | .r0 r0 => bq (.bool r0) (by kernel_rfl)
theorem w98 (m : School) (r : School) {post : V → Prop} (h : WQ (T98 m r) v98 post .e) : PC 56 [.agg [.str m.name, iI m.children], .cref 2 fun q => ([.str r.name, iI r.children] : List V).getD q uU] post :=
  PCalls.wq Try.func56 (s98 m r) q98 h
theorem c98 (m r : School) : PC 56 [.agg (tSchool.cells m), .cref (tSchool.cells r).length fun q => (tSchool.cells r).getD q uU] (· = .bool (same m.name r.name)) := by
  refine w98 _ _ (WP.step ?_)
  simp only [T98, Go, Ends', v98, Tr.sure, SS]
  repeat' with_reducible first | intro _ | apply And.intro
  all_goals simp [same, Go, Ends', v98, -List.getD_eq_getElem?_getD, *]
inductive P125
  | e
  | l0 (x0_8 : Int)
inductive R125
  | r0 (r0 : Int)
noncomputable def T125 (r : School) (s : List School) : P125 → Tr P125 R125
  | .e => (.go (.l0 0))
  | .l0 x0_8 => let c1 := s.getD (x0_8).toNat tSchool.zero; (.br (decide (x0_8 < (s.length : Int))) (.need (decide (0 ≤ x0_8) && decide (x0_8 < (s.length : Int))) (.call 56 [.agg [.str (c1.name), iI (c1.children)], .cref 2 fun q => ([.str r.name, iI r.children] : List V).getD q uU] (.bool (same c1.name r.name)) true true (.br (same c1.name r.name) (.out (.r0 x0_8)) (.need (inR .i64 (x0_8 + (1 : Int))) (.go (.l0 (x0_8 + (1 : Int)))))))) (.out (.r0 (-1))))
noncomputable def g125 (r : School) (s : List School) : P125 → List Item × St
  | .e => bd Try.f71 [tSchool.lst s, fG 56 [.cref 2 fun q => ([.str r.name, iI r.children] : List V).getD q uU]] 17
  | .l0 x0_8 => (cutOf Try.f71 0, ⟨mk 19 [(0, tSchool.lst s), (1, fG 56 [.cref 2 fun q => ([.str r.name, iI r.children] : List V).getD q uU]), (7, iI (s.length : Int)), (8, iI x0_8)], [], []⟩)
noncomputable def n125 : R125 → Exit × St
  | .r0 r0 => (.ret, ⟨mk 19 [(4, iI r0)], [], []⟩)
noncomputable def v125 : R125 → V
  | .r0 r0 => iI r0
theorem s125 (r : School) (s : List School) : Sm 0 (g125 r s) (T125 r s) (n125)
  | .e => ⟨400, by kernel_rfl⟩
  | .l0 _ => ⟨400, by kernel_rfl⟩
theorem q125 : ∀ r, bodyQ Try.prog Try.f71 (· = v125 r) (n125 r).1 (n125 r).2
  | .r0 r0 => bq (iI r0) (by kernel_rfl)
theorem w125 (r : School) (s : List School) {post : V → Prop} (h : WQ (T125 r s) v125 post .e) : PC 71 [tSchool.lst s, fG 56 [.cref 2 fun q => ([.str r.name, iI r.children] : List V).getD q uU]] post :=
  PCalls.wq Try.func71 (s125 r s) q125 h
theorem c125 (s : List School) (r : School) (hl : s.length ≤ maxn) : PC 71 [tSchool.lst s, fG 56 [.cref (tSchool.cells r).length fun q => (tSchool.cells r).getD q uU]] (· = iI (place (firstI (fun m => same m.name r.name) 0 s))) := by
  refine w125 r s (WP.step ?_)
  simp only [T125, Go, Ends', v125, Tr.sure, SS]
  repeat' with_reducible first | intro _ | apply And.intro
  refine WP.findI (fun i => .l0 i) rfl s zSchool (fun m => same m.name r.name) (fun i hi => ?_) fun hI => ?_
  · have hr := inRi hi hl
    refine WP.once ?_
    simp only [T125, Tr.sure, SS, hi, z3]
    repeat' with_reducible first | intro _ | apply And.intro
    all_goals first | exact c98 _ _ | (simp [hr, place, Go, Ends', v125, -List.getD_eq_getElem?_getD, *]; done) | (simp_all [hr, place, Go, Ends', v125, -List.getD_eq_getElem?_getD]; done)
  · refine WP.step ?_
    simp only [T125, Go, Ends', v125, Tr.sure, SS]
    repeat' with_reducible first | intro _ | apply And.intro
    all_goals simp [hI, place, Go, Ends', v125, -List.getD_eq_getElem?_getD, *]
inductive P97
  | e
inductive R97
  | r0 (r0 : Bool)
noncomputable def T97 (r : School) (s : List School) : P97 → Tr P97 R97
  | .e => (.call 71 [tSchool.lst s, fG 56 [.cref 2 fun q => ([.str r.name, iI r.children] : List V).getD q uU]] (iI (place (firstI (fun m => same m.name r.name) 0 s))) true true (.out (.r0 (decide ((place (firstI (fun m => same m.name r.name) 0 s)) ≥ (0 : Int))))))
noncomputable def g97 (r : School) (s : List School) : P97 → List Item × St
  | .e => bd Try.f55 [tSchool.lst s, fG 56 [.cref 2 fun q => ([.str r.name, iI r.children] : List V).getD q uU]] 7
noncomputable def n97 : R97 → Exit × St
  | .r0 r0 => (.ret, ⟨mk 9 [(4, .bool r0)], [], []⟩)
noncomputable def v97 : R97 → V
  | .r0 r0 => .bool r0
theorem s97 (r : School) (s : List School) : Sm 0 (g97 r s) (T97 r s) (n97)
  | .e => ⟨400, by kernel_rfl⟩
theorem q97 : ∀ r, bodyQ Try.prog Try.f55 (· = v97 r) (n97 r).1 (n97 r).2
  | .r0 r0 => bq (.bool r0) (by kernel_rfl)
theorem w97 (r : School) (s : List School) {post : V → Prop} (h : WQ (T97 r s) v97 post .e) : PC 55 [tSchool.lst s, fG 56 [.cref 2 fun q => ([.str r.name, iI r.children] : List V).getD q uU]] post :=
  PCalls.wq Try.func55 (s97 r s) q97 h
theorem c97 (s : List School) (r : School) (hl : s.length ≤ maxn) : PC 55 [tSchool.lst s, fG 56 [.cref (tSchool.cells r).length fun q => (tSchool.cells r).getD q uU]] (· = .bool ((s.map (·.name)).any fun o => same o r.name)) := by
  have h1 : decide (0 ≤ place (firstI (fun m => same m.name r.name) 0 s)) = (s.map (·.name)).any fun o => same o r.name := by rw [List.any_map, ← firstI_any _ s 0, Bool.eq_iff_iff, decide_eq_true_iff]; exact place_ge _
  refine w97 r s (WP.step ?_)
  simp only [T97, Go, Ends', v97, Tr.sure, SS]
  repeat' with_reducible first | intro _ | apply And.intro
  all_goals first | exact c125 s r hl | (simp [h1, Go, Ends', v97, -List.getD_eq_getElem?_getD, *]; done)
theorem c97t (l : List School) (r : School) (i n : Nat) (hi : i ≤ l.length) (hn : n = i) (hl : l.length ≤ maxn) : PC 55 [.list tSchool.w n (fun a j => rowsOf tSchool l a j), fG 56 [.cref (tSchool.cells r).length fun q => (tSchool.cells r).getD q uU]] (· = .bool (((l.map (·.name)).take i).any fun o => same o r.name)) := by
  have hc := c97 (l.take i) r (by simp; omega)
  rw [List.map_take] at hc
  exact PCalls.arg (pre := []) hc (VLe.take tSchool l i n hi hn)
inductive P99
  | e
inductive R99
  | r0 (r0 : Bool)
noncomputable def T99 (c : Count) : P99 → Tr P99 R99
  | .e => let c1 := (decide (1 ≤ 1)) && true; (.call 14 [iI 0, iI 60, .list 1 1 (litC 1 1 [iI c.seen])] (.bool (!within c.seen 0 60)) c1 true (.br (!within c.seen 0 60) (.out (.r0 true)) (.call 14 [iI 0, iI 5, .list 1 1 (litC 1 1 [iI c.miss])] (.bool (!within c.miss 0 5)) c1 true (.out (.r0 (!within c.miss 0 5))))))
noncomputable def g99 (c : Count) : P99 → List Item × St
  | .e => bd Try.f57 [.agg [iI c.seen, iI c.miss]] 12
noncomputable def n99 : R99 → Exit × St
  | .r0 r0 => (.ret, ⟨mk 13 [(2, .bool r0)], [], []⟩)
noncomputable def v99 : R99 → V
  | .r0 r0 => .bool r0
theorem s99 (c : Count) : Sm 0 (g99 c) (T99 c) (n99)
  | .e => ⟨400, by kernel_rfl⟩
theorem q99 : ∀ r, bodyQ Try.prog Try.f57 (· = v99 r) (n99 r).1 (n99 r).2
  | .r0 r0 => bq (.bool r0) (by kernel_rfl)
theorem w99 (c : Count) {post : V → Prop} (h : WQ (T99 c) v99 post .e) : PC 57 [.agg [iI c.seen, iI c.miss]] post :=
  PCalls.wq Try.func57 (s99 c) q99 h
theorem c99 (c : Count) : PC 57 [.agg (tCount.cells c)] (· = .bool (!countOk c)) := by
  refine w99 c (WP.step ?_)
  simp only [T99, Go, Ends', v99, Tr.sure, SS]
  repeat' with_reducible first | intro _ | apply And.intro
  all_goals first | exact (c53l _ _ _ rfl) | (simp [countOk, Go, Ends', v99, -List.getD_eq_getElem?_getD, *]; done)
inductive P126
  | e
  | l0 (x0_8 : Int)
inductive R126
  | r0 (r0 : Int)
noncomputable def T126 (s : List Count) : P126 → Tr P126 R126
  | .e => (.go (.l0 0))
  | .l0 x0_8 => let c1 := s.getD (x0_8).toNat tCount.zero; (.br (decide (x0_8 < (s.length : Int))) (.need (decide (0 ≤ x0_8) && decide (x0_8 < (s.length : Int))) (.call 57 [.agg [iI (c1.seen), iI (c1.miss)]] (.bool ((fun c => !countOk c) c1)) true true (.br ((fun c => !countOk c) c1) (.out (.r0 x0_8)) (.need (inR .i64 (x0_8 + (1 : Int))) (.go (.l0 (x0_8 + (1 : Int)))))))) (.out (.r0 (-1))))
noncomputable def g126 (s : List Count) : P126 → List Item × St
  | .e => bd Try.f72 [tCount.lst s, fF 57] 17
  | .l0 x0_8 => (cutOf Try.f72 0, ⟨mk 19 [(0, tCount.lst s), (1, fF 57), (7, iI (s.length : Int)), (8, iI x0_8)], [], []⟩)
noncomputable def n126 : R126 → Exit × St
  | .r0 r0 => (.ret, ⟨mk 19 [(4, iI r0)], [], []⟩)
noncomputable def v126 : R126 → V
  | .r0 r0 => iI r0
theorem s126 (s : List Count) : Sm 0 (g126 s) (T126 s) (n126)
  | .e => ⟨400, by kernel_rfl⟩
  | .l0 _ => ⟨400, by kernel_rfl⟩
theorem q126 : ∀ r, bodyQ Try.prog Try.f72 (· = v126 r) (n126 r).1 (n126 r).2
  | .r0 r0 => bq (iI r0) (by kernel_rfl)
theorem w126 (s : List Count) {post : V → Prop} (h : WQ (T126 s) v126 post .e) : PC 72 [tCount.lst s, fF 57] post :=
  PCalls.wq Try.func72 (s126 s) q126 h
theorem c126 (s : List Count) (hl : s.length ≤ maxn) : PC 72 [tCount.lst s, fF 57] (· = iI (place (firstI (fun c => !countOk c) 0 s))) := by
  refine w126 s (WP.step ?_)
  simp only [T126, Go, Ends', v126, Tr.sure, SS]
  repeat' with_reducible first | intro _ | apply And.intro
  refine WP.findI (fun i => .l0 i) rfl s zCount (fun c => !countOk c) (fun i hi => ?_) fun hI => ?_
  · have hr := inRi hi hl
    refine WP.once ?_
    simp only [T126, Tr.sure, SS, hi, z5]
    repeat' with_reducible first | intro _ | apply And.intro
    all_goals first | exact c99 _ | (simp [hr, place, Go, Ends', v126, -List.getD_eq_getElem?_getD, *]; done) | (simp_all [hr, place, Go, Ends', v126, -List.getD_eq_getElem?_getD]; done)
  · refine WP.step ?_
    simp only [T126, Go, Ends', v126, Tr.sure, SS]
    repeat' with_reducible first | intro _ | apply And.intro
    all_goals simp [hI, place, Go, Ends', v126, -List.getD_eq_getElem?_getD, *]
inductive P100
  | e
inductive R100
  | r0 (r0 : Bool)
noncomputable def T100 (s : List Count) : P100 → Tr P100 R100
  | .e => (.call 72 [tCount.lst s, fF 57] (iI (place (firstI (fun c => !countOk c) 0 s))) true true (.out (.r0 (decide ((place (firstI (fun c => !countOk c) 0 s)) ≥ (0 : Int))))))
noncomputable def g100 (s : List Count) : P100 → List Item × St
  | .e => bd Try.f58 [tCount.lst s, fF 57] 7
noncomputable def n100 : R100 → Exit × St
  | .r0 r0 => (.ret, ⟨mk 9 [(4, .bool r0)], [], []⟩)
noncomputable def v100 : R100 → V
  | .r0 r0 => .bool r0
theorem s100 (s : List Count) : Sm 0 (g100 s) (T100 s) (n100)
  | .e => ⟨400, by kernel_rfl⟩
theorem q100 : ∀ r, bodyQ Try.prog Try.f58 (· = v100 r) (n100 r).1 (n100 r).2
  | .r0 r0 => bq (.bool r0) (by kernel_rfl)
theorem w100 (s : List Count) {post : V → Prop} (h : WQ (T100 s) v100 post .e) : PC 58 [tCount.lst s, fF 57] post :=
  PCalls.wq Try.func58 (s100 s) q100 h
theorem c100 (s : List Count) (hl : s.length ≤ maxn) : PC 58 [tCount.lst s, fF 57] (· = .bool (s.any fun c => !countOk c)) := by
  have h1 : decide (0 ≤ place (firstI (fun c => !countOk c) 0 s)) = s.any fun c => !countOk c := by rw [← firstI_any _ s 0, Bool.eq_iff_iff, decide_eq_true_iff]; exact place_ge _
  refine w100 s (WP.step ?_)
  simp only [T100, Go, Ends', v100, Tr.sure, SS]
  repeat' with_reducible first | intro _ | apply And.intro
  all_goals first | exact c126 s hl | (simp [h1, Go, Ends', v100, -List.getD_eq_getElem?_getD, *]; done)
inductive P57
  | e
  | l0 (x0_5 : Int) (x0_16 : Int)
inductive R57
  | r0 (r0 : Int)
noncomputable def T57 (b : Book) (d : Day) : P57 → Tr P57 R57
  | .e => (.br (decide ((d.schools.length : Int) > (3 : Int))) (.out (.r0 3)) (.go (.l0 0 0)))
  | .l0 x0_5 x0_16 => let c1 := d.schools.getD (x0_16).toNat tSchool.zero; let c2 := (d.schools.length : Int); let c3 := (d.schools.map (·.name)).take (x0_16).toNat; let c4 : Tr P57 R57 := .out (.r0 7); let c5 := c1.children; let c6 := (decide (1 ≤ 1)) && true; (.br (decide (x0_16 < c2)) (.need (decide (0 ≤ x0_16) && decide (x0_16 < c2)) (.call 30 [.str (c1.name)] (.bool (nameOk (c1.name))) true true (.br (!(nameOk (c1.name))) (.out (.r0 6)) (.need ((decide (0 ≤ (0 : Int)) && decide ((0 : Int) ≤ x0_16)) && decide (x0_16 ≤ c2)) (.call 55 [.list 2 ((x0_16).toNat - ((0 : Int)).toNat) (fun i j => rowsOf tSchool d.schools (((0 : Int)).toNat + i) j), fG 56 [.cref 2 fun q => ([.str (c1.name), iI c5] : List V).getD q uU]] (.bool (c3.any fun o => same o c1.name)) true true (.br (c3.any fun o => same o c1.name) (.out (.r0 5)) (.call 14 [iI 1, iI 60, .list 1 1 (litC 1 1 [iI c5])] (.bool (!within c5 1 60)) c6 true (.br (!within c5 1 60) c4 (.need (inR .i64 (x0_5 + c1.children)) (.need (inR .i64 (x0_16 + (1 : Int))) (.go (.l0 (x0_5 + c1.children) (x0_16 + (1 : Int)))))))))))))) (.br (decide (x0_5 > (60 : Int))) (.out (.r0 9)) (.br ((d.rooms.length : Int) != (b.rooms.length : Int)) (.out (.r0 3)) (.call 57 [.agg [iI d.door.seen, iI d.door.miss]] (.bool ((fun c => !countOk c) d.door)) true true (.br ((fun c => !countOk c) d.door) (.lit true (.lit true c4)) (.call 58 [tCount.lst d.rooms, fF 57] (.bool (d.rooms.any fun c => !countOk c)) true true (.br (d.rooms.any fun c => !countOk c) (.lit true c4) (.call 14 [iI 0, iI 10000, .list 1 1 (litC 1 1 [iI d.taken])] (.bool (!within d.taken 0 10000)) c6 true (.br (!within d.taken 0 10000) c4 (.out (.r0 0)))))))))))
noncomputable def g57 (b : Book) (d : Day) : P57 → List Item × St
  | .e => bd Try.f33 [.agg (cC b), .agg [tSchool.lst d.schools, iI d.door.seen, iI d.door.miss, tCount.lst d.rooms, iI d.taken]] 69
  | .l0 x0_5 x0_16 => (cutOf Try.f33 0, ⟨mk 71 [(2, .ref 0 0 0), (3, .ref 1 0 0), (5, iI x0_5), (14, tSchool.lst d.schools), (15, iI (d.schools.length : Int)), (16, iI x0_16)], [.cells (cC b), .cells [tSchool.lst d.schools, iI d.door.seen, iI d.door.miss, tCount.lst d.rooms, iI d.taken]], []⟩)
noncomputable def n57 : R57 → Exit × St
  | .r0 r0 => (.ret, ⟨mk 71 [(4, iI r0)], [], []⟩)
noncomputable def v57 : R57 → V
  | .r0 r0 => iI r0
theorem s57 (b : Book) (d : Day) : Sm 0 (g57 b d) (T57 b d) (n57)
  | .e => ⟨400, by kernel_rfl⟩
  | .l0 _ _ => ⟨400, by kernel_rfl⟩
theorem q57 : ∀ r, bodyQ Try.prog Try.f33 (· = v57 r) (n57 r).1 (n57 r).2
  | .r0 r0 => bq (iI r0) (by kernel_rfl)
theorem w57 (b : Book) (d : Day) {post : V → Prop} (h : WQ (T57 b d) v57 post .e) : PC 33 [.agg (cC b), .agg [tSchool.lst d.schools, iI d.door.seen, iI d.door.miss, tCount.lst d.rooms, iI d.taken]] post :=
  PCalls.wq Try.func33 (s57 b d) q57 h
theorem nameErr6 {n : ByteArray} {l : List ByteArray} (h : nameOk n = false) : newErr n l = 6 := by simp [newErr, h]
theorem nameErr5 {n : ByteArray} {l : List ByteArray} (h : nameOk n = true) (h2 : (l.any fun o => same o n) = true) : newErr n l = 5 := by simp [newErr, h, h2]
theorem nameErr0 {n : ByteArray} {l : List ByteArray} (h : nameOk n = true) (h2 : (l.any fun o => same o n) = false) : newErr n l = 0 := by simp [newErr, h, h2]
theorem c57 (b : Book) (d : Day) (hdr : d.rooms.length ≤ maxn) : PC 33 [.agg (tBook.cells b), .agg (tDay.cells d)] (· = iI (dayErr b d)) := by
  by_cases h0 : (3 : Int) < d.schools.length
  · have e : dayErr b d = 3 := by
      have : schoolsErr d.schools = 3 := by unfold schoolsErr; rw [if_pos h0]
      unfold dayErr; rw [this]; rfl
    refine w57 b d (WP.step ?_)
    simp only [T57, Go, Ends', v57, Tr.sure, SS, h0]
    repeat' with_reducible first | intro _ | apply And.intro
    all_goals simp [e, Go, Ends', v57, -List.getD_eq_getElem?_getD, *]
  have hm : d.schools.length ≤ 3 := by omega
  have hbad : ∀ i e, firstE (schoolAt d.schools) 0 d.schools = some (i, e) → dayErr b d = e := fun i e q => by
    have h1 : schoolsErr d.schools = e := by unfold schoolsErr; rw [if_neg h0, q]
    have h2 : e ≠ 0 := fun h => firstE_ne q h
    unfold dayErr; rw [h1, if_pos h2]
  have hnone : firstE (schoolAt d.schools) 0 d.schools = none → schoolsErr d.schools = if 60 < sumS d.schools d.schools.length then 9 else 0 := fun q => by unfold schoolsErr; rw [if_neg h0, q]
  have hok : schoolsErr d.schools = 0 → dayErr b d = if (d.rooms.length : Int) ≠ b.rooms.length then 3 else if countOk d.door && within d.taken 0 10000 && d.rooms.all countOk then 0 else 7 := fun q => by
    unfold dayErr; rw [q]; rfl
  have hmain : WP Try.prog ⟨none, 0⟩ (T57 b d) (Ends' fun r => v57 r = iI (dayErr b d)) (.l0 0 0) := by
    generalize hl : d.schools = l at *
    refine WP.findEI (fun i => .l0 (sumS l i) i) rfl l zSchool (schoolAt l) (fun i => 0 ≤ sumS l i ∧ sumS l i ≤ 60 * i) ⟨Int.le_refl _, Int.le_refl _⟩ (fun i hi hS => ?_) fun hI hS => ?_
    · have hr : inR .i64 ((i : Int) + 1) = true := inR64 (by omega) (by omega)
      have hi' : (i : Int) < l.length := by omega
      have hi2 : (i : Int) ≤ l.length := by omega
      rw [sumS_next]
      have hw : within (l.getD i zSchool).children 1 60 = true → inR .i64 (sumS l i + (l.getD i zSchool).children) = true ∧ 0 ≤ sumS l i + (l.getD i zSchool).children ∧ sumS l i + (l.getD i zSchool).children ≤ 60 * ((i : Int) + 1) := fun hw => by
        rw [within_iff] at hw
        exact ⟨inR64 (by omega) (by omega), by omega, by omega⟩
      have hat : schoolAt l i (l.getD i zSchool) = if newErr (l.getD i zSchool).name ((l.map (·.name)).take i) ≠ 0 then newErr (l.getD i zSchool).name ((l.map (·.name)).take i) else if !within (l.getD i zSchool).children 1 60 then 7 else 0 := rfl
      have k97 := c97t l (l.getD i zSchool) i i (by omega) rfl (by have : maxn = 281474976710656 := rfl; omega)
      have hb := hbad i
      have hcast : ((i + 1 : Nat) : Int) = (i : Int) + 1 := by omega
      rw [hcast]
      have k54 := c54 (l.getD i zSchool).name
      cases h1 : nameOk (l.getD i zSchool).name with
      | false =>
        have he : schoolAt l i (l.getD i zSchool) = 6 := by rw [hat, nameErr6 h1]; rfl
        rw [h1] at k54
        have hb := hbad i 6
        rw [he]
        refine WP.once ?_
        simp only [T57, Tr.sure, SS, hi', hl, z3, h1]
        repeat' with_reducible first | intro _ | apply And.intro
        all_goals first | exact k54 | (simp +contextual [hb, Go, Ends', v57, -List.getD_eq_getElem?_getD, *]; done)
      | true =>
        rw [h1] at k54
        cases h2 : ((l.map (·.name)).take i).any fun o => same o (l.getD i zSchool).name with
        | true =>
          rw [h2] at k97
          have he : schoolAt l i (l.getD i zSchool) = 5 := by rw [hat, nameErr5 h1 h2]; rfl
          have hb := hbad i 5
          rw [he]
          refine WP.once ?_
          simp only [T57, Tr.sure, SS, hi', hi2, hl, z3, h1, h2, Int.toNat_zero, Nat.sub_zero, Nat.zero_add]
          repeat' with_reducible first | intro _ | apply And.intro
          all_goals first | exact k54 | exact k97 | (simp [hb, Go, Ends', v57, -List.getD_eq_getElem?_getD, *]; done) | (simp +contextual [hb, Go, Ends', v57, -List.getD_eq_getElem?_getD, *]; done)
        | false =>
          rw [h2] at k97
          rw [nameErr0 h1 h2] at hat
          cases h3 : within (l.getD i zSchool).children 1 60 with
          | false =>
            have k53 := c53l 1 60 (l.getD i zSchool).children (c := litC 1 1 [iI (l.getD i zSchool).children]) rfl
            have he : schoolAt l i (l.getD i zSchool) = 7 := by rw [hat, h3]; rfl
            have hb := hbad i 7
            rw [h3] at k53
            rw [he]
            refine WP.once ?_
            simp only [T57, Tr.sure, SS, hi', hi2, hl, z3, h1, h2, h3, Int.toNat_zero, Nat.sub_zero, Nat.zero_add]
            repeat' with_reducible first | intro _ | apply And.intro
            all_goals first | exact k54 | exact k97 | exact k53 | (simp [hb, Go, Ends', v57, -List.getD_eq_getElem?_getD, *]; done) | (simp_all [hb, Go, Ends', v57, -List.getD_eq_getElem?_getD]; done)
          | true =>
            have k53 := c53l 1 60 (l.getD i zSchool).children (c := litC 1 1 [iI (l.getD i zSchool).children]) rfl
            have he : schoolAt l i (l.getD i zSchool) = 0 := by rw [hat, h3]; rfl
            obtain ⟨w1, w2, w3⟩ := hw h3
            rw [h3] at k53
            rw [he]
            refine WP.once ?_
            simp only [T57, Tr.sure, SS, hi', hi2, hl, z3, h1, h2, h3, Int.toNat_zero, Nat.sub_zero, Nat.zero_add]
            repeat' with_reducible first | intro _ | apply And.intro
            all_goals first | exact k54 | exact k97 | exact k53 | (simp [hr, w1, w2, w3, Go, Ends', v57, -List.getD_eq_getElem?_getD, *]; done)
    · have hn := hnone hI
      by_cases hs : 60 < sumS l l.length
      · have e : dayErr b d = 9 := by rw [if_pos hs] at hn; unfold dayErr; rw [hl, hn]; rfl
        refine WP.step ?_
        simp only [T57, Go, Ends', v57, Tr.sure, SS, Int.lt_irrefl, hl, hs]
        repeat' with_reducible first | intro _ | apply And.intro
        all_goals simp [e, Go, Ends', v57, -List.getD_eq_getElem?_getD, *]
      rw [if_neg hs] at hn
      have e := hok hn
      by_cases hc : (d.rooms.length : Int) = b.rooms.length
      · rw [if_neg (fun q => q hc)] at e
        have k99 := c99 d.door
        have k100 := c100 d.rooms hdr
        have k53 := c53l 0 10000 d.taken (c := litC 1 1 [iI d.taken]) rfl
        have hany : (d.rooms.any fun c => !countOk c) = !d.rooms.all countOk := by rw [List.not_all_eq_any_not]
        refine WP.step ?_
        simp only [T57, Go, Ends', v57, Tr.sure, SS, Int.lt_irrefl, hl, hs, hc]
        repeat' with_reducible first | intro _ | apply And.intro
        all_goals first | exact k99 | exact k100 | exact k53 | (simp [e, hany, Go, Ends', v57, -List.getD_eq_getElem?_getD, *]; done) | (simp_all [e, hany, Go, Ends', v57, -List.getD_eq_getElem?_getD]; done)
      · rw [if_pos hc] at e
        refine WP.step ?_
        simp only [T57, Go, Ends', v57, Tr.sure, SS, Int.lt_irrefl, hl, hs, hc]
        repeat' with_reducible first | intro _ | apply And.intro
        all_goals simp [e, Go, Ends', v57, -List.getD_eq_getElem?_getD, *]
  refine w57 b d (WP.step ?_)
  simp only [T57, Go, Ends', v57, Tr.sure, SS, h0]
  repeat' with_reducible first | intro _ | apply And.intro
  all_goals exact hmain
inductive P13
  | e
  | l0 (x0_27 : Int)
  | l1 (x1_66 : Int)
inductive R13
  | r0 (r0 : Int) (r1 : Int) (r2 : Int)
noncomputable def T13 (b : Book) : P13 → Tr P13 R13
  | .e => (.call 14 [iI 2, iI 60, .list 1 1 (litC 1 1 [iI b.price])] (.bool (!within b.price 2 60)) ((decide (1 ≤ 1)) && true) true (.br (!within b.price 2 60) (.out (.r0 1 0 7)) (.need (decide ((2 : Int) ≠ 0)) (.br ((b.price.tmod (2 : Int)) == (1 : Int)) (.out (.r0 1 0 2)) (.br (decide ((b.rooms.length : Int) > (3 : Int))) (.out (.r0 2 0 3)) (.go (.l0 0)))))))
  | .l0 x0_27 => let c1 := b.rooms.getD (x0_27).toNat tRoom.zero; let c2 := (b.rooms.map (·.name)).take (x0_27).toNat; let c3 := (b.rooms.length : Int); let c4 := (decide (1 ≤ 1)) && true; (.br (decide (x0_27 < c3)) (.need (decide (0 ≤ x0_27) && decide (x0_27 < c3)) (.call 30 [.str (c1.name)] (.bool (nameOk (c1.name))) true true (.br (!(nameOk (c1.name))) (.out (.r0 2 x0_27 6)) (.need ((decide (0 ≤ (0 : Int)) && decide ((0 : Int) ≤ x0_27)) && decide (x0_27 ≤ c3)) (.call 31 [.list 3 ((x0_27).toNat - ((0 : Int)).toNat) (fun i j => rowsOf tRoom b.rooms (((0 : Int)).toNat + i) j), fG 32 [.cref 3 fun q => ([.str (c1.name), iI (c1.more), iI (c1.full)] : List V).getD q uU]] (.bool (c2.any fun o => same o c1.name)) true true (.br (c2.any fun o => same o c1.name) (.out (.r0 2 x0_27 5)) (.call 14 [iI 0, iI 20, .list 1 1 (litC 1 1 [iI (c1.more)])] (.bool (!within (c1.more) 0 20)) c4 true (.br (!within (c1.more) 0 20) (.lit true (.out (.r0 2 x0_27 7))) (.call 14 [iI 0, iI 60, .list 1 1 (litC 1 1 [iI (c1.full)])] (.bool (!within (c1.full) 0 60)) c4 true (.br (!within (c1.full) 0 60) (.out (.r0 2 x0_27 7)) (.need (inR .i64 (x0_27 + (1 : Int))) (.go (.l0 (x0_27 + (1 : Int))))))))))))))) (.br (decide ((b.days.length : Int) > (4 : Int))) (.out (.r0 3 0 3)) (.go (.l1 0))))
  | .l1 x1_66 => let c1 := b.days.getD (x1_66).toNat tDay.zero; let c2 := x1_66 < (b.days.length : Int); (.br (decide c2) (.need (decide (0 ≤ x1_66) && decide c2) (.call 33 [.agg (cC b), .agg [tSchool.lst (c1.schools), iI (c1.door.seen), iI (c1.door.miss), tCount.lst (c1.rooms), iI (c1.taken)]] (iI (dayErr b c1)) true true (.br ((dayErr b c1) != (0 : Int)) (.out (.r0 3 x1_66 (dayErr b c1))) (.need (inR .i64 (x1_66 + (1 : Int))) (.go (.l1 (x1_66 + (1 : Int)))))))) (.out (.r0 0 0 0)))
noncomputable def g13 (b : Book) : P13 → List Item × St
  | .e => bd Try.f13 [.agg (cC b)] 78
  | .l0 x0_27 => (cutOf Try.f13 0, ⟨mk 79 [(1, .ref 0 0 0), (25, tRoom.lst b.rooms), (26, iI (b.rooms.length : Int)), (27, iI x0_27)], [.cells (cC b)], []⟩)
  | .l1 x1_66 => (cutOf Try.f13 1, ⟨mk 79 [(1, .ref 0 0 0), (64, tDay.lst b.days), (65, iI (b.days.length : Int)), (66, iI x1_66)], [.cells (cC b)], []⟩)
noncomputable def n13 : R13 → Exit × St
  | .r0 r0 r1 r2 => (.ret, ⟨mk 79 [(2, iI r0), (3, iI r1), (4, iI r2)], [], []⟩)
noncomputable def v13 : R13 → V
  | .r0 r0 r1 r2 => .tuple [iI r0, iI r1, iI r2]
theorem s13 (b : Book) : Sm 0 (g13 b) (T13 b) (n13)
  | .e => ⟨400, by kernel_rfl⟩
  | .l0 _ => ⟨400, by kernel_rfl⟩
  | .l1 _ => ⟨400, by kernel_rfl⟩
theorem q13 : ∀ r, bodyQ Try.prog Try.f13 (· = v13 r) (n13 r).1 (n13 r).2
  | .r0 r0 r1 r2 => bq (.tuple [iI r0, iI r1, iI r2]) (by kernel_rfl)
theorem w13 (b : Book) {post : V → Prop} (h : WQ (T13 b) v13 post .e) : PC 13 [.agg (cC b)] post :=
  PCalls.wq Try.func13 (s13 b) q13 h
theorem c13 (b : Book) (hb : b.rooms.length ≤ maxn ∧ b.days.length ≤ maxn ∧ ∀ d ∈ b.days, d.rooms.length ≤ maxn) : PC 13 [.agg (tBook.cells b)] (· = .tuple [iI (bookCheck b).1, iI (bookCheck b).2.1, iI (bookCheck b).2.2]) := by
  have k53 := c53l 2 60 b.price (c := litC 1 1 [iI b.price]) rfl
  by_cases h1 : within b.price 2 60 = true
  case neg =>
    have h1' := Bool.eq_false_iff.2 h1
    have e : bookCheck b = (1, 0, 7) := by unfold bookCheck; rw [h1']; rfl
    rw [h1'] at k53
    refine w13 b (WP.step ?_)
    simp only [T13, Go, Ends', v13, Tr.sure, SS, h1']
    repeat' with_reducible first | intro _ | apply And.intro
    all_goals first | exact k53 | (simp [e, Go, Ends', v13, -List.getD_eq_getElem?_getD, *]; done)
  rw [h1] at k53
  by_cases h2 : b.price.tmod 2 = 1
  · have e : bookCheck b = (1, 0, 2) := by unfold bookCheck; rw [h1, if_neg (by simp), if_pos h2]
    refine w13 b (WP.step ?_)
    simp only [T13, Go, Ends', v13, Tr.sure, SS, h1, h2]
    repeat' with_reducible first | intro _ | apply And.intro
    all_goals first | exact k53 | (simp [e, Go, Ends', v13, -List.getD_eq_getElem?_getD, *]; done)
  by_cases h3 : (3 : Int) < b.rooms.length
  · have e : bookCheck b = (2, 0, 3) := by
      have : roomsErr b.rooms = (0, 3) := by unfold roomsErr; rw [if_pos h3]
      unfold bookCheck; rw [h1, if_neg (by simp), if_neg h2, this]; rfl
    refine w13 b (WP.step ?_)
    simp only [T13, Go, Ends', v13, Tr.sure, SS, h1, h2, h3]
    repeat' with_reducible first | intro _ | apply And.intro
    all_goals first | exact k53 | (simp [e, Go, Ends', v13, -List.getD_eq_getElem?_getD, *]; done)
  have hre : roomsErr b.rooms = firstR (roomAt b.rooms) b.rooms := by unfold roomsErr; rw [if_neg h3]
  have hbad : ∀ i e, firstE (roomAt b.rooms) 0 b.rooms = some (i, e) → bookCheck b = (2, (i : Int), e) := fun i e q => by
    have h4 : roomsErr b.rooms = ((i : Int), e) := by rw [hre]; unfold firstR; rw [q]
    have h5 : e ≠ 0 := fun h => firstE_ne q h
    unfold bookCheck; rw [h1, if_neg (by simp), if_neg h2, h4, if_pos h5]
  have hro : firstE (roomAt b.rooms) 0 b.rooms = none → roomsErr b.rooms = (0, 0) := fun q => by rw [hre]; unfold firstR; rw [q]
  have hlong : firstE (roomAt b.rooms) 0 b.rooms = none → (4 : Int) < b.days.length → bookCheck b = (3, 0, 3) := fun q h5 => by
    unfold bookCheck; rw [h1, if_neg (by simp), if_neg h2, hro q, if_neg (fun h => h rfl), if_pos h5]
  have hday : firstE (roomAt b.rooms) 0 b.rooms = none → ¬ (4 : Int) < b.days.length → ∀ i e, firstE (fun _ d => dayErr b d) 0 b.days = some (i, e) → bookCheck b = (3, (i : Int), e) := fun q h5 i e q2 => by
    unfold bookCheck; rw [h1, if_neg (by simp), if_neg h2, hro q, if_neg (fun h => h rfl), if_neg h5, q2]
  have hfine : firstE (roomAt b.rooms) 0 b.rooms = none → ¬ (4 : Int) < b.days.length → firstE (fun _ d => dayErr b d) 0 b.days = none → bookCheck b = (0, 0, 0) := fun q h5 q2 => by
    unfold bookCheck; rw [h1, if_neg (by simp), if_neg h2, hro q, if_neg (fun h => h rfl), if_neg h5, q2]
  have hmain : WP Try.prog ⟨none, 0⟩ (T13 b) (Ends' fun r => v13 r = .tuple [iI (bookCheck b).1, iI (bookCheck b).2.1, iI (bookCheck b).2.2]) (.l0 0) := by
    refine WP.findE (fun i => .l0 i) rfl b.rooms zRoom (roomAt b.rooms) (fun i hi => ?_) fun hI => ?_
    · have hr : inR .i64 ((i : Int) + 1) = true := inR64 (by omega) (by omega)
      have hi' : (i : Int) < b.rooms.length := by omega
      have hi2 : (i : Int) ≤ b.rooms.length := by omega
      have k55 := c55t b.rooms (b.rooms.getD i zRoom) i i (by omega) rfl hb.1
      have k54 := c54 (b.rooms.getD i zRoom).name
      have hcast : ((i + 1 : Nat) : Int) = (i : Int) + 1 := by omega
      rw [hcast]
      have hat : roomAt b.rooms i (b.rooms.getD i zRoom) = if newErr (b.rooms.getD i zRoom).name ((b.rooms.map (·.name)).take i) ≠ 0 then newErr (b.rooms.getD i zRoom).name ((b.rooms.map (·.name)).take i) else if !within (b.rooms.getD i zRoom).more 0 20 || !within (b.rooms.getD i zRoom).full 0 60 then 7 else 0 := rfl
      have g53 := c53l 0 20 (b.rooms.getD i zRoom).more (c := litC 1 1 [iI (b.rooms.getD i zRoom).more]) rfl
      have f53 := c53l 0 60 (b.rooms.getD i zRoom).full (c := litC 1 1 [iI (b.rooms.getD i zRoom).full]) rfl
      cases h1 : nameOk (b.rooms.getD i zRoom).name with
      | false =>
        have he : roomAt b.rooms i (b.rooms.getD i zRoom) = 6 := by rw [hat, nameErr6 h1]; rfl
        rw [h1] at k54
        have hb := hbad i 6
        rw [he]
        refine WP.once ?_
        simp only [T13, Tr.sure, SS, hi', z2, h1]
        repeat' with_reducible first | intro _ | apply And.intro
        all_goals first | exact k54 | (simp +contextual [hb, Go, Ends', v13, -List.getD_eq_getElem?_getD, *]; done)
      | true =>
        rw [h1] at k54
        cases h2 : ((b.rooms.map (·.name)).take i).any fun o => same o (b.rooms.getD i zRoom).name with
        | true =>
          rw [h2] at k55
          have he : roomAt b.rooms i (b.rooms.getD i zRoom) = 5 := by rw [hat, nameErr5 h1 h2]; rfl
          have hb := hbad i 5
          rw [he]
          refine WP.once ?_
          simp only [T13, Tr.sure, SS, hi', hi2, z2, h1, h2, Int.toNat_zero, Nat.sub_zero, Nat.zero_add]
          repeat' with_reducible first | intro _ | apply And.intro
          all_goals first | exact k54 | exact k55 | (simp [hb, Go, Ends', v13, -List.getD_eq_getElem?_getD, *]; done) | (simp +contextual [hb, Go, Ends', v13, -List.getD_eq_getElem?_getD, *]; done)
        | false =>
          rw [h2] at k55
          rw [nameErr0 h1 h2] at hat
          have hb := hbad i 7
          refine WP.once ?_
          simp only [T13, Tr.sure, SS, hi', hi2, z2, h1, h2, Int.toNat_zero, Nat.sub_zero, Nat.zero_add]
          repeat' with_reducible first | intro _ | apply And.intro
          all_goals first | exact k54 | exact k55 | exact g53 | exact f53 | (simp [hb, hat, hr, Go, Ends', v13, -List.getD_eq_getElem?_getD, *]; done) | (simp_all [hb, hat, hr, Go, Ends', v13, -List.getD_eq_getElem?_getD]; done)
    · by_cases h4 : (4 : Int) < b.days.length
      · have hg := hlong hI h4
        refine WP.step ?_
        simp only [T13, Go, Ends', v13, Tr.sure, SS, Int.lt_irrefl, h4]
        repeat' with_reducible first | intro _ | apply And.intro
        all_goals simp [hg, Go, Ends', v13, -List.getD_eq_getElem?_getD, *]
      have hbd := hday hI h4
      have hno := hfine hI h4
      have hm2 : WP Try.prog ⟨none, 0⟩ (T13 b) (Ends' fun r => v13 r = .tuple [iI (bookCheck b).1, iI (bookCheck b).2.1, iI (bookCheck b).2.2]) (.l1 0) := by
        refine WP.findE (fun i => .l1 i) rfl b.days zDay (fun _ d => dayErr b d) (fun i hi => ?_) fun hI2 => ?_
        · have hr : inR .i64 ((i : Int) + 1) = true := inR64 (by omega) (by omega)
          have hi' : (i : Int) < b.days.length := by omega
          have k57 := c57 b (b.days.getD i zDay) (hb.2.2 _ (getD_mem zDay b.days i hi))
          have hcast : ((i + 1 : Nat) : Int) = (i : Int) + 1 := by omega
          rw [hcast]
          have hb := hbd i
          refine WP.once ?_
          simp only [T13, Tr.sure, SS, hi', z8]
          repeat' with_reducible first | intro _ | apply And.intro
          all_goals first | exact k57 | (simp [hb, hr, Go, Ends', v13, -List.getD_eq_getElem?_getD, *]; done) | (simp_all [hb, hr, Go, Ends', v13, -List.getD_eq_getElem?_getD]; done)
        · have e := hno hI2
          refine WP.step ?_
          simp only [T13, Go, Ends', v13, Tr.sure, SS, Int.lt_irrefl]
          repeat' with_reducible first | intro _ | apply And.intro
          all_goals simp [e, Go, Ends', v13, -List.getD_eq_getElem?_getD, *]
      refine WP.step ?_
      simp only [T13, Go, Ends', v13, Tr.sure, SS, Int.lt_irrefl, h4]
      repeat' with_reducible first | intro _ | apply And.intro
      all_goals exact hm2
  refine w13 b (WP.step ?_)
  simp only [T13, Go, Ends', v13, Tr.sure, SS, h1, h2, h3]
  repeat' with_reducible first | intro _ | apply And.intro
  all_goals first | exact k53 | exact hmain | (simp [Go, Ends', v13, -List.getD_eq_getElem?_getD, *]; done)
end
noncomputable section
structure Look where
  b : Book
  day : Day
  off : Int
  missed : Int
structure Who where
  adults : Int
  children : Int
  rooms : Nat → Int
structure Sp where
  lo : Int
  hi : Int
  met : Int
def tLook : Ty Look := ⟨10, fun x => [iI x.b.price, tRoom.lst x.b.rooms, tDay.lst x.b.days, tSchool.lst x.day.schools, iI x.day.door.seen, iI x.day.door.miss, tCount.lst x.day.rooms, iI x.day.taken, iI x.off, iI x.missed], ⟨⟨0, [], []⟩, zDay, 0, 0⟩⟩
def tWho : Ty Who := ⟨5, fun x => [iI x.adults, iI x.children, iI (x.rooms 0), iI (x.rooms 1), iI (x.rooms 2)], ⟨0, 0, fun _ => 0⟩⟩
def tSp : Ty Sp := ⟨3, fun x => [iI x.lo, iI x.hi, iI x.met], ⟨0, 0, 0⟩⟩
def lk (x : Look) : V := .cref 10 fun q => (tLook.cells x).getD q uU
structure OkLook (x : Look) : Prop where
  b : OkBook x.b
  day : OkDay x.b x.day
inductive P61
  | e
inductive R61
  | r0 (r0 : Int)
noncomputable def T61 (x : Look) (n : Int) : P61 → Tr P61 R61
  | .e => let c1 := (n - (n.tdiv (13 : Int))) * x.b.price; (.need (decide ((13 : Int) ≠ 0) && inR .i64 (n.tdiv (13 : Int))) (.need (inR .i64 (n - (n.tdiv (13 : Int)))) (.need (inR .i64 c1) (.need (decide ((2 : Int) ≠ 0) && inR .i64 (c1.tdiv (2 : Int))) (.out (.r0 (c1.tdiv (2 : Int))))))))
noncomputable def g61 (x : Look) (n : Int) : P61 → List Item × St
  | .e => bd Try.f15 [lk x, iI n] 14
noncomputable def n61 : R61 → Exit × St
  | .r0 r0 => (.ret, ⟨mk 16 [(4, iI r0)], [], []⟩)
noncomputable def v61 : R61 → V
  | .r0 r0 => iI r0
theorem s61 (x : Look) (n : Int) : Sm 0 (g61 x n) (T61 x n) (n61)
  | .e => ⟨400, by kernel_rfl⟩
theorem q61 : ∀ r, bodyQ Try.prog Try.f15 (· = v61 r) (n61 r).1 (n61 r).2
  | .r0 r0 => bq (iI r0) (by kernel_rfl)
theorem w61 (x : Look) (n : Int) {post : V → Prop} (h : WQ (T61 x n) v61 post .e) : PC 15 [lk x, iI n] post :=
  PCalls.wq Try.func15 (s61 x n) q61 h
theorem fee_even {b : Book} (h : OkBook b) (n : Int) (hn : 0 ≤ n ∧ n ≤ 60) : (n - n.tdiv 13) * b.price = 2 * feeR b n ∧ ((n - n.tdiv 13) * b.price).tdiv 2 = feeR b n := by
  have hp := half_in h
  have e : (n - n.tdiv 13) * b.price = 2 * feeR b n := by
    unfold feeR
    rw [show (n - n.tdiv 13) * b.price = (n - n.tdiv 13) * (2 * b.price.tdiv 2) by rw [hp.2.2], Int.mul_left_comm, Int.mul_comm (n - n.tdiv 13)]
  refine ⟨e, ?_⟩
  have hf := fee_in h hn
  rw [e, Int.tdiv_eq_ediv_of_nonneg (by omega)]; omega
theorem c61 (x : Look) (n : Int) (h : OkBook x.b) (hn : 0 ≤ n ∧ n ≤ 60) : PC 15 [lk x, iI n] (· = iI (feeR x.b n)) := by
  have hp := half_in h
  have hf := fee_in h hn
  obtain ⟨e1, e2⟩ := fee_even h n hn
  have h13 : 0 ≤ n.tdiv 13 ∧ n.tdiv 13 ≤ 60 := by rw [Int.tdiv_eq_ediv_of_nonneg (by omega)]; omega
  have r1 : inR .i64 (n.tdiv 13) = true := inR64 (by omega) (by omega)
  have r2 : inR .i64 (n - n.tdiv 13) = true := inR64 (by omega) (by omega)
  have r3 : inR .i64 ((n - n.tdiv 13) * x.b.price) = true := by rw [e1]; exact inR64 (by omega) (by omega)
  have r4 : inR .i64 (feeR x.b n) = true := inR64 (by omega) (by omega)
  refine w61 x n (WP.step ?_)
  simp only [T61, Go, Ends', v61, Tr.sure, SS, e2]
  repeat' with_reducible first | intro _ | apply And.intro
  all_goals first | (simp [r1, r2, r3, r4, e2, Go, Ends', v61, -List.getD_eq_getElem?_getD, *]; done) | (simp_all [r1, r2, r3, r4, e2, Go, Ends', v61, -List.getD_eq_getElem?_getD]; done)
inductive P64
  | e
  | l0 (x0_2 : Int) (x0_3 : Int) (x0_12 : Int)
inductive R64
  | r0 (r0 : Int) (r1 : Int)
noncomputable def T64 (x : Look) : P64 → Tr P64 R64
  | .e => (.go (.l0 0 0 0))
  | .l0 x0_2 x0_3 x0_12 => let c1 := x.day.schools.getD (x0_12).toNat tSchool.zero; let c2 := feeR x.b (c1.children); let c3 := x0_12 < (x.day.schools.length : Int); (.br (decide c3) (.need (decide (0 ≤ x0_12) && decide c3) (.call 15 [lk x, iI (c1.children)] (iI c2) true true (.need (inR .i64 (x0_2 + c2)) (.need (inR .i64 (x0_3 + c1.children)) (.need (inR .i64 (x0_12 + (1 : Int))) (.go (.l0 (x0_2 + c2) (x0_3 + c1.children) (x0_12 + (1 : Int))))))))) (.out (.r0 x0_2 x0_3)))
noncomputable def g64 (x : Look) : P64 → List Item × St
  | .e => bd Try.f17 [lk x] 28
  | .l0 x0_2 x0_3 x0_12 => (cutOf Try.f17 0, ⟨mk 29 [(0, lk x), (2, iI x0_2), (3, iI x0_3), (10, tSchool.lst x.day.schools), (11, iI (x.day.schools.length : Int)), (12, iI x0_12)], [], []⟩)
noncomputable def n64 : R64 → Exit × St
  | .r0 r0 r1 => (.ret, ⟨mk 29 [(2, iI r0), (3, iI r1)], [], []⟩)
noncomputable def v64 : R64 → V
  | .r0 r0 r1 => .tuple [iI r0, iI r1]
theorem s64 (x : Look) : Sm 0 (g64 x) (T64 x) (n64)
  | .e => ⟨400, by kernel_rfl⟩
  | .l0 _ _ _ => ⟨400, by kernel_rfl⟩
theorem q64 : ∀ r, bodyQ Try.prog Try.f17 (· = v64 r) (n64 r).1 (n64 r).2
  | .r0 r0 r1 => bq (.tuple [iI r0, iI r1]) (by kernel_rfl)
theorem w64 (x : Look) {post : V → Prop} (h : WQ (T64 x) v64 post .e) : PC 17 [lk x] post :=
  PCalls.wq Try.func17 (s64 x) q64 h
theorem c64 (x : Look) (h : OkLook x) : PC 17 [lk x] (· = .tuple [iI (feesR x.b x.day), iI (pupilsR x.day)]) := by
  obtain ⟨hb, hday⟩ := h
  have hns := hday.ns
  have hmain : WP Try.prog ⟨none, 0⟩ (T64 x) (Ends' fun r => v64 r = .tuple [iI (feesR x.b x.day), iI (pupilsR x.day)]) (.l0 0 0 0) := by
    unfold feesR pupilsR
    generalize hD : x.day = D at *
    refine WP.run (fun i => .l0 (feesTo x.b D.schools i) (sumS D.schools i) i) rfl D.schools.length (fun i hi => ?_) ?_
    · have hin := fees_in hb hday.school i (by omega)
      have hin2 := sum_in hday.school i (by omega)
      have hs := hday.school _ (getD_mem zSchool D.schools i hi)
      have hf := fee_in hb (n := (D.schools.getD i zSchool).children) (by omega)
      have hc := c61 x (D.schools.getD i zSchool).children hb (by omega)
      have hi' : (i : Int) < D.schools.length := by omega
      have r1 : inR .i64 (feesTo x.b D.schools i + feeR x.b (D.schools.getD i zSchool).children) = true := inR64 (by omega) (by omega)
      have r2 : inR .i64 ((i : Int) + 1) = true := inR64 (by omega) (by omega)
      have r3 : inR .i64 (sumS D.schools i + (D.schools.getD i zSchool).children) = true := inR64 (by omega) (by omega)
      rw [fees_next, sumS_next]
      refine WP.once ?_
      simp only [T64, Tr.sure, SS, hi', hi, z3, hD]
      repeat' with_reducible first | intro _ | apply And.intro
      all_goals first | exact hc | (simp [r1, r2, r3, Go, Ends', v64, -List.getD_eq_getElem?_getD, *]; done)
    · refine WP.step ?_
      simp only [T64, Go, Ends', v64, Tr.sure, SS, hD, Int.lt_irrefl]
      repeat' with_reducible first | intro _ | apply And.intro
  refine w64 x (WP.step ?_)
  simp only [T64, Go, Ends', v64, Tr.sure, SS]
  repeat' with_reducible first | intro _ | apply And.intro
  all_goals exact hmain
structure SmB (b : Book) : Prop where
  rooms : b.rooms.length ≤ maxn
  days : b.days.length ≤ maxn
  each : ∀ d ∈ b.days, d.rooms.length ≤ maxn
theorem SmB.of_ok {b : Book} (h : OkBook b) : SmB b := by
  have hm : maxn = 281474976710656 := rfl
  have h1 := h.nr
  have h2 := h.nd
  exact ⟨by omega, by omega, fun d hd => by have := (h.day d hd).many; omega⟩
def lookOf (b : Book) (d : Int) : Look := ⟨b, dayOf b d, 0, 0⟩
def enterV (b : Book) (d : Int) : V := if askedR b d ≠ 0 then .nil else lk (lookOf b d)
inductive P63
  | e
inductive R63
  | r0 (r1 : Int)
  | r1 (r0_0 : Int) (r0_1 : List Room) (r0_2 : List Day) (r0_3 : List School) (r0_4 : Int) (r0_5 : Int) (r0_6 : List Count) (r0_7 : Int) (r0_8 : Int) (r0_9 : Int) (r1 : Int)
noncomputable def T63 (b : Book) (d : Int) : P63 → Tr P63 R63
  | .e => let c1 := b.days.getD (d).toNat tDay.zero; let c2 := (b.days.length : Int) - (1 : Int); let c3 := bookCheck b; (.call 13 [.agg (cC b)] (.tuple [iI (c3.1), iI (c3.2.1), iI (c3.2.2)]) true true (.br (c3.2.2 != (0 : Int)) (.out (.r0 (c3.2.2))) (.need (inR .i64 c2) (.call 14 [iI 0, iI c2, .list 1 1 (litC 1 1 [iI d])] (.bool (!within d 0 c2)) ((decide (1 ≤ 1)) && true) true (.br (!within d 0 c2) (.out (.r0 4)) (.front [] [] (((decide (0 ≤ d) && decide (d < (b.days.length : Int))) && true) && true) true (.out (.r1 b.price b.rooms b.days (c1.schools) (c1.door.seen) (c1.door.miss) (c1.rooms) (c1.taken) 0 0 0))))))))
noncomputable def g63 (b : Book) (d : Int) : P63 → List Item × St
  | .e => bd Try.f16 [.agg (cC b), iI d] 33
noncomputable def n63 : R63 → Exit × St
  | .r0 r1 => (.ret, ⟨mk 35 [(4, .nil), (5, iI r1)], [], []⟩)
  | .r1 r0_0 r0_1 r0_2 r0_3 r0_4 r0_5 r0_6 r0_7 r0_8 r0_9 r1 => (.ret, ⟨mk 35 [(4, .ref 2 0 0), (5, iI r1)], [.gone, .gone, .cells [iI r0_0, tRoom.lst r0_1, tDay.lst r0_2, tSchool.lst r0_3, iI r0_4, iI r0_5, tCount.lst r0_6, iI r0_7, iI r0_8, iI r0_9]], []⟩)
noncomputable def v63 : R63 → V
  | .r0 r1 => .tuple [.nil, iI r1]
  | .r1 r0_0 r0_1 r0_2 r0_3 r0_4 r0_5 r0_6 r0_7 r0_8 r0_9 r1 => .tuple [.cref 10 fun q => ([iI r0_0, tRoom.lst r0_1, tDay.lst r0_2, tSchool.lst r0_3, iI r0_4, iI r0_5, tCount.lst r0_6, iI r0_7, iI r0_8, iI r0_9] : List V).getD q uU, iI r1]
theorem s63 (b : Book) (d : Int) : Sm 0 (g63 b d) (T63 b d) (n63)
  | .e => ⟨400, by kernel_rfl⟩
theorem q63 : ∀ r, bodyQ Try.prog Try.f16 (· = v63 r) (n63 r).1 (n63 r).2
  | .r0 r1 => bq (.tuple [.nil, iI r1]) (by kernel_rfl)
  | .r1 r0_0 r0_1 r0_2 r0_3 r0_4 r0_5 r0_6 r0_7 r0_8 r0_9 r1 => ⟨.inr rfl, by simp [n63], (.tuple [.ref 2 0 0, iI r1]), (.tuple [.cref 10 fun q => ([iI r0_0, tRoom.lst r0_1, tDay.lst r0_2, tSchool.lst r0_3, iI r0_4, iI r0_5, tCount.lst r0_6, iI r0_7, iI r0_8, iI r0_9] : List V).getD q uU, iI r1]), by kernel_rfl, (.tuple rfl fun j hj => match j, hj with | 0, _ => .weak (.ref (n := 10) rfl (Nat.le_refl _) (by intro j hj; match j, hj with | 0, _ => exact .imm rfl | 1, _ => exact .imm rfl | 2, _ => exact .imm rfl | 3, _ => exact .imm rfl | 4, _ => exact .imm rfl | 5, _ => exact .imm rfl | 6, _ => exact .imm rfl | 7, _ => exact .imm rfl | 8, _ => exact .imm rfl | 9, _ => exact .imm rfl)) (VLe.refl _) | 1, _ => .imm rfl), rfl⟩
theorem w63 (b : Book) (d : Int) {post : V → Prop} (h : WQ (T63 b d) v63 post .e) : PC 16 [.agg (cC b), iI d] post :=
  PCalls.wq Try.func16 (s63 b d) q63 h
theorem c63 (b : Book) (d : Int) (hs : SmB b) : PC 16 [.agg (tBook.cells b), iI d] (· = .tuple [enterV b d, iI (askedR b d)]) := by
  have k13 := c13 b ⟨hs.rooms, hs.days, hs.each⟩
  have k53 := c53l 0 ((b.days.length : Int) - 1) d (c := litC 1 1 [iI d]) rfl
  have hm : maxn = 281474976710656 := rfl
  have hdl := hs.days
  have r1 : inR .i64 ((b.days.length : Int) - 1) = true := inR64 (by omega) (by omega)
  by_cases h1 : (bookCheck b).2.2 = 0
  · rw [h1] at k13
    by_cases h2 : within d 0 ((b.days.length : Int) - 1) = true
    · have e : askedR b d = 0 := by unfold askedR; rw [if_neg (fun q => q h1), if_pos h2]
      have e2 : enterV b d = lk (lookOf b d) := by unfold enterV; exact if_neg (fun q => q e)
      have hw := within_iff.1 h2
      have hd : 0 ≤ d ∧ d < b.days.length := by omega
      have hl : lk (lookOf b d) = .cref 10 fun q => ([iI b.price, tRoom.lst b.rooms, tDay.lst b.days, tSchool.lst (b.days.getD d.toNat zDay).schools, iI (b.days.getD d.toNat zDay).door.seen, iI (b.days.getD d.toNat zDay).door.miss, tCount.lst (b.days.getD d.toNat zDay).rooms, iI (b.days.getD d.toNat zDay).taken, iI 0, iI 0] : List V).getD q uU := rfl
      rw [h2] at k53
      refine w63 b d (WP.step ?_)
      simp only [T63, Go, Ends', v63, Tr.sure, SS, h1, h2, z8]
      repeat' with_reducible first | intro _ | apply And.intro
      all_goals first | exact k13 | exact k53 | (simp [e, e2, r1, hd, hl, Go, Ends', v63, -List.getD_eq_getElem?_getD, *]; done)
    · have h2' := Bool.eq_false_iff.2 h2
      have e : askedR b d = 4 := by unfold askedR; rw [if_neg (fun q => q h1), if_neg h2]
      have e2 : enterV b d = .nil := by unfold enterV; exact if_pos (by rw [e]; decide)
      rw [h2'] at k53
      refine w63 b d (WP.step ?_)
      simp only [T63, Go, Ends', v63, Tr.sure, SS, h1, h2']
      repeat' with_reducible first | intro _ | apply And.intro
      all_goals first | exact k13 | exact k53 | (simp [e, e2, r1, Go, Ends', v63, -List.getD_eq_getElem?_getD, *]; done)
  · have e : askedR b d = (bookCheck b).2.2 := by unfold askedR; rw [if_pos h1]
    have e2 : enterV b d = .nil := by unfold enterV; exact if_pos (by rw [e]; exact h1)
    refine w63 b d (WP.step ?_)
    simp only [T63, Go, Ends', v63, Tr.sure, SS, h1]
    repeat' with_reducible first | intro _ | apply And.intro
    all_goals first | exact k13 | (simp [e, e2, r1, Go, Ends', v63, -List.getD_eq_getElem?_getD, *]; done)
end
noncomputable section
inductive P15
  | e
inductive R15
  | r0 (r0 : Int) (r1 : Int)
noncomputable def T15 (b : Book) (n : Int) : P15 → Tr P15 R15
  | .e => let c1 := bookCheck b; (.call 13 [.agg (cC b)] (.tuple [iI (c1.1), iI (c1.2.1), iI (c1.2.2)]) true true (.br (c1.2.2 != (0 : Int)) (.out (.r0 0 (c1.2.2))) (.call 14 [iI 0, iI 60, .list 1 1 (litC 1 1 [iI n])] (.bool (!within n 0 60)) ((decide (1 ≤ 1)) && true) true (.br (!within n 0 60) (.out (.r0 0 7)) (.call 15 [.cref 10 fun q => ([iI b.price, tRoom.lst b.rooms, tDay.lst b.days, .nils, iI 0, iI 0, .nils, iI 0, iI 0, iI 0] : List V).getD q uU, iI n] (iI (feeR b n)) true true (.out (.r0 (feeR b n) 0)))))))
noncomputable def g15 (b : Book) (n : Int) : P15 → List Item × St
  | .e => bd Try.f5 [.agg (cC b), iI n] 28
noncomputable def n15 : R15 → Exit × St
  | .r0 r0 r1 => (.ret, ⟨mk 30 [(4, iI r0), (5, iI r1)], [], []⟩)
noncomputable def v15 : R15 → V
  | .r0 r0 r1 => .tuple [iI r0, iI r1]
theorem s15 (b : Book) (n : Int) : Sm 0 (g15 b n) (T15 b n) (n15)
  | .e => ⟨400, by kernel_rfl⟩
theorem q15 : ∀ r, bodyQ Try.prog Try.f5 (· = v15 r) (n15 r).1 (n15 r).2
  | .r0 r0 r1 => bq (.tuple [iI r0, iI r1]) (by kernel_rfl)
theorem w15 (b : Book) (n : Int) {post : V → Prop} (h : WQ (T15 b n) v15 post .e) : PC 5 [.agg (cC b), iI n] post :=
  PCalls.wq Try.func5 (s15 b n) q15 h
theorem c15 (b : Book) (n : Int) (hs : SmB b) : PC 5 [.agg (tBook.cells b), iI n] (· = .tuple [iI (schoolR b n).1, iI (schoolR b n).2]) := by
  have k13 := c13 b ⟨hs.rooms, hs.days, hs.each⟩
  have k53 := c53l 0 60 n (c := litC 1 1 [iI n]) rfl
  by_cases h1 : (bookCheck b).2.2 = 0
  · rw [h1] at k13
    by_cases h2 : within n 0 60 = true
    · have e : schoolR b n = (feeR b n, 0) := by unfold schoolR; rw [if_neg (fun q => q h1), if_pos h2]
      have k61 := PCalls.arg (pre := []) (c61 ⟨b, zDay, 0, 0⟩ n (okBook h1) (within_iff.1 h2)) (a' := .cref 10 fun q => ([iI b.price, tRoom.lst b.rooms, tDay.lst b.days, .nils, iI 0, iI 0, .nils, iI 0, iI 0, iI 0] : List V).getD q uU) (VLe.cref fun j hj => by
        rcases show j = 0 ∨ j = 1 ∨ j = 2 ∨ j = 3 ∨ j = 4 ∨ j = 5 ∨ j = 6 ∨ j = 7 ∨ j = 8 ∨ j = 9 by omega with q | q | q | q | q | q | q | q | q | q <;> subst q
        all_goals first | exact VLe.refl _ | exact VLe.nils)
      rw [h2] at k53
      refine w15 b n (WP.step ?_)
      simp only [T15, Go, Ends', v15, Tr.sure, SS, h1, h2]
      repeat' with_reducible first | intro _ | apply And.intro
      all_goals first | exact k13 | exact k53 | exact k61 | (simp [e, Go, Ends', v15, -List.getD_eq_getElem?_getD, *]; done)
    · have h2' := Bool.eq_false_iff.2 h2
      have e : schoolR b n = (0, 7) := by unfold schoolR; rw [if_neg (fun q => q h1), if_neg h2]
      rw [h2'] at k53
      refine w15 b n (WP.step ?_)
      simp only [T15, Go, Ends', v15, Tr.sure, SS, h1, h2']
      repeat' with_reducible first | intro _ | apply And.intro
      all_goals first | exact k13 | exact k53 | (simp [e, Go, Ends', v15, -List.getD_eq_getElem?_getD, *]; done)
  · have e : schoolR b n = (0, (bookCheck b).2.2) := by unfold schoolR; rw [if_pos h1]
    refine w15 b n (WP.step ?_)
    simp only [T15, Go, Ends', v15, Tr.sure, SS, h1]
    repeat' with_reducible first | intro _ | apply And.intro
    all_goals first | exact k13 | (simp [e, Go, Ends', v15, -List.getD_eq_getElem?_getD, *]; done)
theorem lookOf_ok {b : Book} {d : Int} (h : askedR b d = 0) : OkLook (lookOf b d) := by
  obtain ⟨h1, h2, h3, h4⟩ := asked_ok h
  exact ⟨h1, h4⟩
theorem enterV_ok {b : Book} {d : Int} (h : askedR b d = 0) : enterV b d = lk (lookOf b d) := by unfold enterV; exact if_neg (fun q => q h)
theorem enterV_no {b : Book} {d : Int} (h : ¬ askedR b d = 0) : enterV b d = .nil := by unfold enterV; exact if_pos h
theorem c63y (b : Book) (d : Int) (h : askedR b d = 0) : PC 16 [.agg (tBook.cells b), iI d] (· = .tuple [lk (lookOf b d), iI 0]) := by
  have := c63 b d (.of_ok (lookOf_ok h).b); rwa [h, enterV_ok h] at this
theorem c63n (b : Book) (d : Int) (hs : SmB b) (h : ¬ askedR b d = 0) : PC 16 [.agg (tBook.cells b), iI d] (· = .tuple [.nil, iI (askedR b d)]) := by
  have := c63 b d hs; rwa [enterV_no h] at this
inductive P17
  | e
inductive R17
  | r0 (r0 : Int) (r1 : Int) (r2 : Int)
noncomputable def T17 (b : Book) (d : Int) : P17 → Tr P17 R17
  | .e => let c1 := lookOf b d; let c2 : V := .tuple [(enterV b d), iI (askedR b d)]; let c3 := pupilsR c1.day; (.call 16 [.agg (cC b), iI d] c2 true true (.br ((askedR b d) != (0 : Int)) (.out (.r0 0 0 (askedR b d))) (.wait 2 (.vle 7 ((enterV b d)) (lk c1) (.vle 9 c2 uU (.vle 12 c2 uU (.vle 13 ((enterV b d)) (lk c1) (.call 17 [lk c1] (.tuple [iI (feesR c1.b c1.day), iI c3]) true true (.call 15 [lk c1, iI c3] (iI (feeR c1.b c3)) true true (.out (.r0 (feesR c1.b c1.day) (feeR c1.b c3) 0)))))))))))
noncomputable def g17 (b : Book) (d : Int) : P17 → List Item × St
  | .e => bd Try.f6 [.agg (cC b), iI d] 25
noncomputable def n17 : R17 → Exit × St
  | .r0 r0 r1 r2 => (.ret, ⟨mk 27 [(4, iI r0), (5, iI r1), (6, iI r2)], [], []⟩)
noncomputable def v17 : R17 → V
  | .r0 r0 r1 r2 => .tuple [iI r0, iI r1, iI r2]
theorem s17 (b : Book) (d : Int) : Sm 0 (g17 b d) (T17 b d) (n17)
  | .e => ⟨400, by kernel_rfl⟩
theorem q17 : ∀ r, bodyQ Try.prog Try.f6 (· = v17 r) (n17 r).1 (n17 r).2
  | .r0 r0 r1 r2 => bq (.tuple [iI r0, iI r1, iI r2]) (by kernel_rfl)
theorem w17 (b : Book) (d : Int) {post : V → Prop} (h : WQ (T17 b d) v17 post .e) : PC 6 [.agg (cC b), iI d] post :=
  PCalls.wq Try.func6 (s17 b d) q17 h
theorem c17 (b : Book) (d : Int) (hs : SmB b) : PC 6 [.agg (tBook.cells b), iI d] (· = .tuple [iI (togetherR b d).1, iI (togetherR b d).2.1, iI (togetherR b d).2.2]) := by
  by_cases h : askedR b d = 0
  · have hk := lookOf_ok h
    have k63 := c63y b d h
    have k64 := c64 (lookOf b d) hk
    have k61 := c61 (lookOf b d) (pupilsR (lookOf b d).day) hk.b (pupils_in (b := b) (d := d) hk.day)
    have e : togetherR b d = (feesR (lookOf b d).b (lookOf b d).day, feeR (lookOf b d).b (pupilsR (lookOf b d).day), 0) := by unfold togetherR; rw [if_neg (fun q => q h)]; rfl
    have hv := enterV_ok h
    refine w17 b d (WP.step ?_)
    simp only [T17, Go, Ends', v17, Tr.sure, SS, h, hv]
    repeat' with_reducible first | intro _ | apply And.intro
    all_goals first | exact k63 | exact k64 | exact k61 | exact (by with_reducible exact VLe.refl _) | exact (by with_reducible exact VLe.undef _) | (simp [e, Go, Ends', v17, -List.getD_eq_getElem?_getD, *]; done)
  · have e : togetherR b d = (0, 0, askedR b d) := by unfold togetherR; rw [if_pos h]
    have k63 := c63n b d hs h
    have hv := enterV_no h
    refine w17 b d (WP.step ?_)
    simp only [T17, Go, Ends', v17, Tr.sure, SS, h, hv]
    repeat' with_reducible first | intro _ | apply And.intro
    all_goals first | exact k63 | (simp [e, Go, Ends', v17, -List.getD_eq_getElem?_getD, *]; done)
def entC (x : Look) : Option Int → List V
  | none => [iI (-1), fF 60, fG 61 [rR (lk x)]]
  | some i => [iI i, fG 62 [rR (iI i)], fG 63 [rR (iI i), rR (lk x)]]
def tEnt (x : Look) : Ty (Option Int) := ⟨3, entC x, none⟩
def cntX (D : Day) : Option Int → Count
  | none => D.door
  | some i => D.rooms.getD i.toNat zCount
def ignX (x : Look) (bit : Int) : Bool := x.off.toNat.testBit bit.toNat
def boundR (x : Look) (bit : Int) (most : Int) (k : Option Int) : Int × Int :=
  if ignX x bit = true then (0, most) else ((cntX x.day k).seen, min most ((cntX x.day k).seen + (cntX x.day k).miss + x.missed))
inductive P114
  | e
inductive R114
  | r0 (r0 : Int)
noncomputable def T114 (d : Day) : P114 → Tr P114 R114
  | .e => (.out (.r0 d.door.seen))
noncomputable def g114 (d : Day) : P114 → List Item × St
  | .e => bd Try.f60 [.agg [tSchool.lst d.schools, iI d.door.seen, iI d.door.miss, tCount.lst d.rooms, iI d.taken]] 5
noncomputable def n114 : R114 → Exit × St
  | .r0 r0 => (.ret, ⟨mk 6 [(2, iI r0)], [], []⟩)
noncomputable def v114 : R114 → V
  | .r0 r0 => iI r0
theorem s114 (d : Day) : Sm 0 (g114 d) (T114 d) (n114)
  | .e => ⟨400, by kernel_rfl⟩
theorem q114 : ∀ r, bodyQ Try.prog Try.f60 (· = v114 r) (n114 r).1 (n114 r).2
  | .r0 r0 => bq (iI r0) (by kernel_rfl)
theorem w114 (d : Day) {post : V → Prop} (h : WQ (T114 d) v114 post .e) : PC 60 [.agg [tSchool.lst d.schools, iI d.door.seen, iI d.door.miss, tCount.lst d.rooms, iI d.taken]] post :=
  PCalls.wq Try.func60 (s114 d) q114 h
theorem c114 (d : Day) : PC 60 [.agg (tDay.cells d)] (· = iI d.door.seen) := by
  refine w114 d (WP.step ?_)
  simp only [T114, Go, Ends', v114, Tr.sure, SS]
  repeat' with_reducible first | intro _ | apply And.intro
inductive P115
  | e
inductive R115
  | r0 (r0 : Int)
noncomputable def T115 (x : Look) (d : Day) (most : Int) : P115 → Tr P115 R115
  | .e => let c1 := d.door.seen + d.door.miss; (.front [] [] (((inR .i64 c1) && ((inR .i64 (c1 + x.missed)) && true)) && true) true (.out (.r0 (min most (c1 + x.missed)))))
noncomputable def g115 (x : Look) (d : Day) (most : Int) : P115 → List Item × St
  | .e => bd Try.f61 [.agg [tSchool.lst d.schools, iI d.door.seen, iI d.door.miss, tCount.lst d.rooms, iI d.taken], iI most, rR (lk x)] 17
noncomputable def n115 : R115 → Exit × St
  | .r0 r0 => (.ret, ⟨mk 20 [(5, iI r0)], [], []⟩)
noncomputable def v115 : R115 → V
  | .r0 r0 => iI r0
theorem s115 (x : Look) (d : Day) (most : Int) : Sm 0 (g115 x d most) (T115 x d most) (n115)
  | .e => ⟨400, by kernel_rfl⟩
theorem q115 : ∀ r, bodyQ Try.prog Try.f61 (· = v115 r) (n115 r).1 (n115 r).2
  | .r0 r0 => bq (iI r0) (by kernel_rfl)
theorem w115 (x : Look) (d : Day) (most : Int) {post : V → Prop} (h : WQ (T115 x d most) v115 post .e) : PC 61 [.agg [tSchool.lst d.schools, iI d.door.seen, iI d.door.miss, tCount.lst d.rooms, iI d.taken], iI most, rR (lk x)] post :=
  PCalls.wq Try.func61 (s115 x d most) q115 h
theorem c115 (x : Look) (d : Day) (most : Int) (r1 : inR .i64 (d.door.seen + d.door.miss) = true) (r2 : inR .i64 (d.door.seen + d.door.miss + x.missed) = true) : PC 61 [.agg (tDay.cells d), iI most, rR (lk x)] (· = iI (min most (d.door.seen + d.door.miss + x.missed))) := by
  refine w115 x d most (WP.step ?_)
  simp only [T115, Go, Ends', v115, Tr.sure, SS]
  repeat' with_reducible first | intro _ | apply And.intro
  all_goals simp [r1, r2, Go, Ends', v115, -List.getD_eq_getElem?_getD, *]
inductive P116
  | e
inductive R116
  | r0 (r0 : Int)
noncomputable def T116 (m : Nat) (d : Day) : P116 → Tr P116 R116
  | .e => (.need (decide (0 ≤ (m : Int)) && decide ((m : Int) < (d.rooms.length : Int))) (.out (.r0 ((d.rooms.getD ((m : Int)).toNat tCount.zero).seen))))
noncomputable def g116 (m : Nat) (d : Day) : P116 → List Item × St
  | .e => bd Try.f62 [.agg [tSchool.lst d.schools, iI d.door.seen, iI d.door.miss, tCount.lst d.rooms, iI d.taken], rR (iI (m : Int))] 8
noncomputable def n116 : R116 → Exit × St
  | .r0 r0 => (.ret, ⟨mk 10 [(3, iI r0)], [], []⟩)
noncomputable def v116 : R116 → V
  | .r0 r0 => iI r0
theorem s116 (m : Nat) (d : Day) : Sm 0 (g116 m d) (T116 m d) (n116)
  | .e => ⟨400, by kernel_rfl⟩
theorem q116 : ∀ r, bodyQ Try.prog Try.f62 (· = v116 r) (n116 r).1 (n116 r).2
  | .r0 r0 => bq (iI r0) (by kernel_rfl)
theorem w116 (m : Nat) (d : Day) {post : V → Prop} (h : WQ (T116 m d) v116 post .e) : PC 62 [.agg [tSchool.lst d.schools, iI d.door.seen, iI d.door.miss, tCount.lst d.rooms, iI d.taken], rR (iI (m : Int))] post :=
  PCalls.wq Try.func62 (s116 m d) q116 h
theorem c116 (m : Nat) (d : Day) (hk : m < d.rooms.length) : PC 62 [.agg (tDay.cells d), rR (iI (m : Int))] (· = iI (d.rooms.getD m zCount).seen) := by
  have hk' : (m : Int) < d.rooms.length := by omega
  refine w116 m d (WP.step ?_)
  simp only [T116, Go, Ends', v116, Tr.sure, SS, hk', z5]
  repeat' with_reducible first | intro _ | apply And.intro
inductive P117
  | e
inductive R117
  | r0 (r0 : Int)
noncomputable def T117 (m : Nat) (x : Look) (d : Day) (most : Int) : P117 → Tr P117 R117
  | .e => let c1 := d.rooms.getD ((m : Int)).toNat tCount.zero; let c2 := decide (0 ≤ (m : Int)) && decide ((m : Int) < (d.rooms.length : Int)); let c3 := c1.seen + c1.miss; (.front [] [] ((c2 && (c2 && ((inR .i64 c3) && ((inR .i64 (c3 + x.missed)) && true)))) && true) true (.out (.r0 (min most (c3 + x.missed)))))
noncomputable def g117 (m : Nat) (x : Look) (d : Day) (most : Int) : P117 → List Item × St
  | .e => bd Try.f63 [.agg [tSchool.lst d.schools, iI d.door.seen, iI d.door.miss, tCount.lst d.rooms, iI d.taken], iI most, rR (iI (m : Int)), rR (lk x)] 23
noncomputable def n117 : R117 → Exit × St
  | .r0 r0 => (.ret, ⟨mk 27 [(6, iI r0)], [], []⟩)
noncomputable def v117 : R117 → V
  | .r0 r0 => iI r0
theorem s117 (m : Nat) (x : Look) (d : Day) (most : Int) : Sm 0 (g117 m x d most) (T117 m x d most) (n117)
  | .e => ⟨400, by kernel_rfl⟩
theorem q117 : ∀ r, bodyQ Try.prog Try.f63 (· = v117 r) (n117 r).1 (n117 r).2
  | .r0 r0 => bq (iI r0) (by kernel_rfl)
theorem w117 (m : Nat) (x : Look) (d : Day) (most : Int) {post : V → Prop} (h : WQ (T117 m x d most) v117 post .e) : PC 63 [.agg [tSchool.lst d.schools, iI d.door.seen, iI d.door.miss, tCount.lst d.rooms, iI d.taken], iI most, rR (iI (m : Int)), rR (lk x)] post :=
  PCalls.wq Try.func63 (s117 m x d most) q117 h
theorem c117 (m : Nat) (x : Look) (d : Day) (most : Int) (hk : m < d.rooms.length) (r1 : inR .i64 ((d.rooms.getD m zCount).seen + (d.rooms.getD m zCount).miss) = true) (r2 : inR .i64 ((d.rooms.getD m zCount).seen + (d.rooms.getD m zCount).miss + x.missed) = true) :
    PC 63 [.agg (tDay.cells d), iI most, rR (iI (m : Int)), rR (lk x)] (· = iI (min most ((d.rooms.getD m zCount).seen + (d.rooms.getD m zCount).miss + x.missed))) := by
  have hk' : (m : Int) < d.rooms.length := by omega
  refine w117 m x d most (WP.step ?_)
  simp only [T117, Go, Ends', v117, Tr.sure, SS, hk', z5]
  repeat' with_reducible first | intro _ | apply And.intro
  all_goals simp [r1, r2, Go, Ends', v117, -List.getD_eq_getElem?_getD, *]
inductive P83
  | e
  | l0 (x0_14 : Int) (a0_1 : List (Option Int))
inductive R83
  | r0 (r0 : List (Option Int))
noncomputable def T83 (x : Look) : P83 → Tr P83 R83
  | .e => (.wait 3 (.frz 0 (underL 0 [lk x]) (.wait 5 (.telb 1 3 1 (litC 3 1 [iI (-1), fF 60, fG 61 [rR (lk x)]]) (rowsRev (tEnt x) ([none])) (.go (.l0 0 ([none])))))))
  | .l0 x0_14 a0_1 => (.br (decide (x0_14 < (x.b.rooms.length : Int))) (.wait 5 (.telc 2 [iI x0_14] [iI x0_14] (.frz 2 (underL 0 [iI x0_14]) (.need ((decide (a0_1.length = a0_1.length) && decide (a0_1.length + 1 ≤ 4294967296)) && decide (1 ≤ 1)) (.scal (fun _ => true) (.need (inR .i64 (x0_14 + (1 : Int))) (.telb 3 3 1 (litC 3 1 [iI x0_14, fG 62 [rR (iI x0_14)], fG 63 [rR (iI x0_14), rR (lk x)]]) (rowsRev (tEnt x) ([(some x0_14)])) (.go (.l0 (x0_14 + (1 : Int)) ((some x0_14) :: a0_1)))))))))) (.out (.r0 a0_1)))
noncomputable def g83 (x : Look) : P83 → List Item × St
  | .e => bd Try.f37 [lk x] 25
  | .l0 x0_14 a0_1 => (cutOf Try.f37 0, ⟨mk 26 [(1, rR (lk x)), (3, .row 1 a0_1.length), (13, iI (x.b.rooms.length : Int)), (14, iI x0_14)], [.gone, .rows 105 3 a0_1.length (rowsRev (tEnt x) a0_1)], []⟩)
noncomputable def n83 (x : Look) : R83 → Exit × St
  | .r0 r0 => (.ret, ⟨mk 26 [(2, .row 1 r0.length)], [.gone, .rows 105 3 r0.length (rowsRev (tEnt x) r0)], []⟩)
noncomputable def v83 (x : Look) : R83 → V
  | .r0 r0 => (tEnt x).lst r0.reverse
theorem s83 (x : Look) : Sm 0 (g83 x) (T83 x) (n83 x)
  | .e => ⟨400, by kernel_rfl⟩
  | .l0 _ _ => ⟨400, by kernel_rfl⟩
theorem q83 (x : Look) : ∀ r, bodyQ Try.prog Try.f37 (· = v83 x r) (n83 x r).1 (n83 x r).2
  | .r0 r0 => ⟨.inr rfl, by simp [n83], (.row 1 r0.length), ((tEnt x).lst r0.reverse), by kernel_rfl, (.weak (.row rfl (Nat.le_refl _)) (VLe.rev (tEnt x) r0)), rfl⟩
theorem w83 (x : Look) {post : V → Prop} (h : WP Try.prog ⟨none, 0⟩ (T83 x) (Ends' fun r => post (v83 x r)) .e) : PC 37 [lk x] post :=
  PCalls.wq Try.func37 (s83 x) (q83 x) h
def entsT (n : Nat) : List (Option Int) := none :: (List.range n).map fun (i : Nat) => some (i : Int)
def entsR (x : Look) : List (Option Int) := entsT x.b.rooms.length
theorem tel_ent (x : Look) (k : Option Int) {cs : List V} (hc : cs = entC x k) {r j : Nat} (hr : r < 1) (hj : j < 3) : VLe (litC 3 1 cs r j) (rowsRev (tEnt x) [k] r j) := by
  subst hc
  obtain rfl : r = 0 := by omega
  exact VLe.refl _
theorem c83 (x : Look) (h : x.b.rooms.length ≤ 3) : PC 37 [lk x] (· = (tEnt x).lst (entsR x)) := by
  have hmain : WP Try.prog ⟨none, 0⟩ (T83 x) (Ends' fun r => v83 x r = (tEnt x).lst (entsR x)) (.l0 0 [none]) := by
    refine WP.run (fun i => .l0 (i : Int) (entsT i).reverse) rfl x.b.rooms.length (fun i hi => ?_) ?_
    · have hr : inR .i64 ((i : Int) + 1) = true := inR64 (by omega) (by omega)
      have hi' : (i : Int) < x.b.rooms.length := by omega
      have hn : (entsT (i + 1)).reverse = some (i : Int) :: (entsT i).reverse := by simp [entsT, List.range_succ]
      rw [hn]
      have hl : (entsT i).reverse.length + 1 ≤ 4294967296 := by simp [entsT]; omega
      have hu : underL 0 ([iI (i : Int)] : List V) = true := rfl
      generalize (entsT i).reverse = B at *
      refine WP.once ?_
      simp only [T83, Tr.sure, SS, hi']
      repeat' with_reducible first | intro _ | apply And.intro
      all_goals first | exact (by with_reducible exact VLe.refl _) | exact (by with_reducible exact hu) | exact (tel_ent x (some (i : Int)) rfl ‹_› ‹_›) | (simp [hr, hl, Go, Ends', v83, -List.getD_eq_getElem?_getD, *]; done)
    · have hrr : (entsT x.b.rooms.length).reverse.reverse = entsR x := List.reverse_reverse _
      refine WP.step ?_
      simp only [T83, Go, Ends', v83, Tr.sure, SS, Int.lt_irrefl]
      repeat' with_reducible first | intro _ | apply And.intro
      all_goals simp [hrr, Go, Ends', v83, -List.getD_eq_getElem?_getD, *]
  refine w83 x (WP.step ?_)
  simp only [T83, Go, Ends', v83, Tr.sure, SS]
  repeat' with_reducible first | intro _ | apply And.intro
  all_goals first | exact (show underL 0 [lk x] = true from rfl) | exact (tel_ent x none rfl ‹_› ‹_›) | exact hmain
def entF (x : Look) : Nat → List V
  | 0 => entC x none
  | k + 1 => entC x (some (k : Int))
def entsV (x : Look) : V := .list 3 (entsR x).length fun r j => (entF x r).getD j uU
theorem entsV_le (x : Look) : VLe ((tEnt x).lst (entsR x)) (entsV x) := VLe.list fun r j hr hj => by
  cases r with
  | zero => rfl
  | succ k =>
    have hk : k < x.b.rooms.length := by simpa [entsR, entsT] using hr
    have e : (entsR x).getD (k + 1) none = some (k : Int) := by simp [entsR, entsT, List.getD_eq_getElem?_getD, List.getElem?_map, List.getElem?_range hk]
    show ((tEnt x).cells ((entsR x).getD (k + 1) none)).getD j uU = _
    rw [e]; rfl
theorem PCalls.weakV {P : Program} {f : FuncId} {args : List V} {v v' : V} (h : PCalls P f args (· = v)) (hv : VLe v v') : PCalls P f args (· = v') :=
  ⟨h.1, fun G w xs hk hl hr => (h.2 G w xs hk hl hr).mono fun _ _ ⟨u, x, G', h1, h2, h3, h4, h5, h6, h7, h8⟩ => ⟨v', x, G', h1, h2, h3, h4, h5, h6, hv _ _ _ (by rw [← h8]; exact h7), rfl⟩⟩
theorem c83v (x : Look) (h : x.b.rooms.length ≤ 3) : PC 37 [lk x] (· = entsV x) := PCalls.weakV (c83 x h) (entsV_le x)
end
noncomputable section
theorem bit_t : ∀ s : Nat, s < 32 → ∀ n : Nat, n < 6 → (bitsOf .and .i64 ((s : Int).fdiv (2 ^ (min n 64))) 1 == 1) = s.testBit n := by decide +kernel
inductive P113
  | e
inductive R113
  | r0 (r0 : Bool)
noncomputable def T113 (x : Look) (n : Int) : P113 → Tr P113 R113
  | .e => (.need (decide (0 ≤ n)) (.out (.r0 ((bitsOf .and .i64 (x.off.fdiv (2 ^ (min (n).toNat 64))) (1 : Int)) == (1 : Int)))))
noncomputable def g113 (x : Look) (n : Int) : P113 → List Item × St
  | .e => bd Try.f44 [lk x, iI n] 11
noncomputable def n113 : R113 → Exit × St
  | .r0 r0 => (.ret, ⟨mk 13 [(4, .bool r0)], [], []⟩)
noncomputable def v113 : R113 → V
  | .r0 r0 => .bool r0
theorem s113 (x : Look) (n : Int) : Sm 0 (g113 x n) (T113 x n) (n113)
  | .e => ⟨400, by kernel_rfl⟩
theorem q113 : ∀ r, bodyQ Try.prog Try.f44 (· = v113 r) (n113 r).1 (n113 r).2
  | .r0 r0 => bq (.bool r0) (by kernel_rfl)
theorem w113 (x : Look) (n : Int) {post : V → Prop} (h : WQ (T113 x n) v113 post .e) : PC 44 [lk x, iI n] post :=
  PCalls.wq Try.func44 (s113 x n) q113 h
theorem c113 (x : Look) (n : Int) (ho : 0 ≤ x.off ∧ x.off < 32) (hn : 0 ≤ n ∧ n ≤ 5) : PC 44 [lk x, iI n] (· = .bool (ignX x n)) := by
  have hb := bit_t x.off.toNat (by omega) n.toNat (by omega)
  rw [Int.toNat_of_nonneg ho.1] at hb
  have hb' : (bitsOf .and .i64 (x.off.fdiv (2 ^ (min n.toNat 64))) 1 == 1) = ignX x n := hb
  refine w113 x n (WP.step ?_)
  simp only [T113, Go, Ends', v113, Tr.sure, SS]
  repeat' with_reducible first | intro _ | apply And.intro
  all_goals simp [hb', hn, Go, Ends', v113, -List.getD_eq_getElem?_getD, *]
inductive P105_d
  | e
inductive R105_d
  | r0 (r0 : Int) (r1 : Int)
noncomputable def T105_d (x : Look) (bit : Int) (most : Int) : P105_d → Tr P105_d R105_d
  | .e => let c1 := min most (x.day.door.seen + x.day.door.miss + x.missed); (.call 44 [lk x, iI bit] (.bool (ignX x bit)) true true (.br (ignX x bit) (.out (.r0 0 most)) (.front [(6, 60, [.agg [tSchool.lst x.day.schools, iI x.day.door.seen, iI x.day.door.miss, tCount.lst x.day.rooms, iI x.day.taken]], iI x.day.door.seen)] [] true true (.call 61 [.agg [tSchool.lst x.day.schools, iI x.day.door.seen, iI x.day.door.miss, tCount.lst x.day.rooms, iI x.day.taken], iI most, rR (lk x)] (iI c1) true true (.out (.r0 x.day.door.seen c1))))))
noncomputable def g105_d (x : Look) (bit : Int) (most : Int) : P105_d → List Item × St
  | .e => bd Try.f38 [lk x, iI bit, iI most, .agg [iI (-1), fF 60, fG 61 [rR (lk x)]]] 28
noncomputable def n105_d : R105_d → Exit × St
  | .r0 r0 r1 => (.ret, ⟨mk 32 [(8, iI r0), (9, iI r1)], [], []⟩)
noncomputable def v105_d : R105_d → V
  | .r0 r0 r1 => .tuple [iI r0, iI r1]
theorem s105_d (x : Look) (bit : Int) (most : Int) : Sm 0 (g105_d x bit most) (T105_d x bit most) (n105_d)
  | .e => ⟨400, by kernel_rfl⟩
theorem q105_d : ∀ r, bodyQ Try.prog Try.f38 (· = v105_d r) (n105_d r).1 (n105_d r).2
  | .r0 r0 r1 => bq (.tuple [iI r0, iI r1]) (by kernel_rfl)
theorem w105_d (x : Look) (bit : Int) (most : Int) {post : V → Prop} (h : WQ (T105_d x bit most) v105_d post .e) : PC 38 [lk x, iI bit, iI most, .agg [iI (-1), fF 60, fG 61 [rR (lk x)]]] post :=
  PCalls.wq Try.func38 (s105_d x bit most) q105_d h
inductive P105_r
  | e
inductive R105_r
  | r0 (r0 : Int) (r1 : Int)
noncomputable def T105_r (m : Nat) (x : Look) (bit : Int) (most : Int) : P105_r → Tr P105_r R105_r
  | .e => let c1 := x.day.rooms.getD m zCount; let c2 := min most (c1.seen + c1.miss + x.missed); (.call 44 [lk x, iI bit] (.bool (ignX x bit)) true true (.br (ignX x bit) (.out (.r0 0 most)) (.front [(6, 62, [.agg [tSchool.lst x.day.schools, iI x.day.door.seen, iI x.day.door.miss, tCount.lst x.day.rooms, iI x.day.taken], rR (iI (m : Int))], iI (c1.seen))] [] true true (.call 63 [.agg [tSchool.lst x.day.schools, iI x.day.door.seen, iI x.day.door.miss, tCount.lst x.day.rooms, iI x.day.taken], iI most, rR (iI (m : Int)), rR (lk x)] (iI c2) true true (.out (.r0 (c1.seen) c2))))))
noncomputable def g105_r (m : Nat) (x : Look) (bit : Int) (most : Int) : P105_r → List Item × St
  | .e => bd Try.f38 [lk x, iI bit, iI most, .agg [iI (m : Int), fG 62 [rR (iI (m : Int))], fG 63 [rR (iI (m : Int)), rR (lk x)]]] 28
noncomputable def n105_r : R105_r → Exit × St
  | .r0 r0 r1 => (.ret, ⟨mk 32 [(8, iI r0), (9, iI r1)], [], []⟩)
noncomputable def v105_r : R105_r → V
  | .r0 r0 r1 => .tuple [iI r0, iI r1]
theorem s105_r (m : Nat) (x : Look) (bit : Int) (most : Int) : Sm 0 (g105_r m x bit most) (T105_r m x bit most) (n105_r)
  | .e => ⟨400, by kernel_rfl⟩
theorem q105_r : ∀ r, bodyQ Try.prog Try.f38 (· = v105_r r) (n105_r r).1 (n105_r r).2
  | .r0 r0 r1 => bq (.tuple [iI r0, iI r1]) (by kernel_rfl)
theorem w105_r (m : Nat) (x : Look) (bit : Int) (most : Int) {post : V → Prop} (h : WQ (T105_r m x bit most) v105_r post .e) : PC 38 [lk x, iI bit, iI most, .agg [iI (m : Int), fG 62 [rR (iI (m : Int))], fG 63 [rR (iI (m : Int)), rR (lk x)]]] post :=
  PCalls.wq Try.func38 (s105_r m x bit most) q105_r h
structure OkX (x : Look) : Prop where
  ok : OkLook x
  off : 0 ≤ x.off ∧ x.off < 32
  missed : 0 ≤ x.missed ∧ x.missed ≤ 60
theorem c105 (x : Look) (bit most : Int) (k : Option Int) (h : OkX x) (hb : 0 ≤ bit ∧ bit ≤ 5) (hk : ∀ i, k = some i → 0 ≤ i ∧ i < x.b.rooms.length) :
    PC 38 [lk x, iI bit, iI most, .agg [(entC x k).getD 0 uU, (entC x k).getD 1 uU, (entC x k).getD 2 uU]] (· = .tuple [iI (boundR x bit most k).1, iI (boundR x bit most k).2]) := by
  have k113 := c113 x bit h.off hb
  have hm := h.missed
  have hday := h.ok.day
  cases hi : ignX x bit with
  | true =>
    have e : boundR x bit most k = (0, most) := by unfold boundR; rw [if_pos hi]
    rw [hi] at k113
    rw [e]
    match k, hk with
    | none, _ =>
      show PCalls _ _ [_, _, _, .agg [iI (-1), fF 60, fG 61 [rR (lk x)]]] _
      refine w105_d x bit most (WP.step ?_)
      simp only [T105_d, Go, Ends', v105_d, Tr.sure, SS, hi]
      repeat' with_reducible first | intro _ | apply And.intro
      all_goals exact k113
    | some i, hk =>
      obtain ⟨m, rfl⟩ : ∃ m : Nat, i = (m : Int) := ⟨i.toNat, by have := hk i rfl; omega⟩
      show PCalls _ _ [_, _, _, .agg [iI (m : Int), fG 62 [rR (iI (m : Int))], fG 63 [rR (iI (m : Int)), rR (lk x)]]] _
      refine w105_r m x bit most (WP.step ?_)
      simp only [T105_r, Go, Ends', v105_r, Tr.sure, SS, hi]
      repeat' with_reducible first | intro _ | apply And.intro
      all_goals exact k113
  | false =>
    have e : boundR x bit most k = ((cntX x.day k).seen, min most ((cntX x.day k).seen + (cntX x.day k).miss + x.missed)) := by unfold boundR; rw [if_neg (by rw [hi]; decide)]
    rw [hi] at k113
    rw [e]
    match k, hk with
    | none, _ =>
      have hd := hday.door
      have k114 := c114 x.day
      have k115 := c115 x x.day most (inR64 (by omega) (by omega)) (inR64 (by omega) (by omega))
      show PCalls _ _ [_, _, _, .agg [iI (-1), fF 60, fG 61 [rR (lk x)]]] _
      refine w105_d x bit most (WP.step ?_)
      simp only [T105_d, Go, Ends', v105_d, Tr.sure, SS, hi]
      repeat' with_reducible first | intro _ | apply And.intro
      all_goals first | exact k113 | exact k114 | exact k115 | (simp [cntX, Go, Ends', v105_d, -List.getD_eq_getElem?_getD, *]; done)
    | some i, hk =>
      obtain ⟨m, rfl⟩ : ∃ m : Nat, i = (m : Int) := ⟨i.toNat, by have := hk i rfl; omega⟩
      have hmr := hk _ rfl
      have hmn := hday.many
      have hd := hday.room _ (getD_mem zCount x.day.rooms m (by omega))
      have k116 := c116 m x.day (by omega)
      have k117 := c117 m x x.day most (by omega) (inR64 (by omega) (by omega)) (inR64 (by omega) (by omega))
      show PCalls _ _ [_, _, _, .agg [iI (m : Int), fG 62 [rR (iI (m : Int))], fG 63 [rR (iI (m : Int)), rR (lk x)]]] _
      refine w105_r m x bit most (WP.step ?_)
      simp only [T105_r, Go, Ends', v105_r, Tr.sure, SS, hi]
      repeat' with_reducible first | intro _ | apply And.intro
      all_goals first | exact k113 | exact k116 | exact k117 | (simp [cntX, Go, Ends', v105_r, -List.getD_eq_getElem?_getD, *]; done)
def fnL (L : List Int) : Nat → Int := fun i => L.getD i 0
def zero3 (r : Nat → Int) : Bool := r 0 == 0 && (r 1 == 0 && (r 2 == 0 && true))
def cells3 (r : Nat → Int) : List V := [iI (r 0), iI (r 1), iI (r 2)]
theorem arr_cells3 (r : Nat → Int) : VLe (.arr 1 3 (rowsFn tint r)) (.agg (cells3 r)) := VLe.arrAgg rfl fun j hj => match j, hj with
  | 0, _ => rfl | 1, _ => rfl | 2, _ => rfl
theorem sem_zero3 (h : List Blk) (r : Nat → Int) : SemOK Try.prog (opAt Try.f19 1 2) [(.tmp 7, .arr 1 3 (rowsFn tint r)), (.tmp 8, .agg [iI 0, iI 0, iI 0])] h (.bool (zero3 r)) h :=
  sem_weak [(7, .agg (cells3 r)), (8, .agg [iI 0, iI 0, iI 0])] (fun p hp => by
    simp only [List.mem_cons, List.not_mem_nil, or_false] at hp
    rcases hp with rfl | rfl
    · exact ⟨_, by simp, arr_cells3 r⟩
    · exact ⟨_, by simp, VLe.refl _⟩) (by kernel_rfl)
inductive P68
  | e
  | l0 (x0_4 : Int) (x0_16 : Int)
inductive R68
  | r0 (r0 : Int)
noncomputable def T68 (x : Look) (r : Nat → Int) : P68 → Tr P68 R68
  | .e => let c1 : List Blk := [.rows 71 1 3 (rowsFn tint r)]; (.sem (opAt Try.f19 1 2) [(.tmp 7, .arr 1 3 (rowsFn tint r)), (.tmp 8, .agg [iI 0, iI 0, iI 0])] c1 (.bool (zero3 r)) c1 true (.br (zero3 r) (.out (.r0 0)) (.go (.l0 0 0))))
  | .l0 x0_4 x0_16 => let c1 := (r ((x0_16).toNat)) * (x.b.rooms.getD (x0_16).toNat tRoom.zero).more; let c2 := x0_16 < (x.b.rooms.length : Int); (.br (decide c2) (.need (decide (0 ≤ x0_16) && decide c2) (.front [] [] (((decide (0 ≤ x0_16) && decide (x0_16 < (3 : Int))) && ((decide ((x0_16).toNat < 3) && decide (0 < 1)) && ((inR .i64 c1) && true))) && true) true (.need (inR .i64 (x0_4 + c1)) (.need (inR .i64 (x0_16 + (1 : Int))) (.go (.l0 (x0_4 + c1) (x0_16 + (1 : Int)))))))) (.out (.r0 x0_4)))
noncomputable def g68 (x : Look) (r : Nat → Int) : P68 → List Item × St
  | .e => bd Try.f19 [lk x, .arr 1 3 (rowsFn tint r)] 29
  | .l0 x0_4 x0_16 => (cutOf Try.f19 0, ⟨mk 31 [(3, .ref 0 0 0), (4, iI x0_4), (14, tRoom.lst x.b.rooms), (15, iI (x.b.rooms.length : Int)), (16, iI x0_16)], [.rows 71 1 3 (rowsFn tint r)], []⟩)
noncomputable def n68 : R68 → Exit × St
  | .r0 r0 => (.ret, ⟨mk 31 [(4, iI r0)], [], []⟩)
noncomputable def v68 : R68 → V
  | .r0 r0 => iI r0
theorem s68 (x : Look) (r : Nat → Int) : Sm 0 (g68 x r) (T68 x r) (n68)
  | .e => ⟨400, by kernel_rfl⟩
  | .l0 _ _ => ⟨400, by kernel_rfl⟩
theorem q68 : ∀ r, bodyQ Try.prog Try.f19 (· = v68 r) (n68 r).1 (n68 r).2
  | .r0 r0 => bq (iI r0) (by kernel_rfl)
theorem w68 (x : Look) (r : Nat → Int) {post : V → Prop} (h : WQ (T68 x r) v68 post .e) : PC 19 [lk x, .arr 1 3 (rowsFn tint r)] post :=
  PCalls.wq Try.func19 (s68 x r) q68 h
theorem extra_zero {b : Book} {L : List Int} (hl : L.length ≤ 3) (hz : zero3 (fnL L) = true) : extraR b L = 0 := by
  simp only [zero3, fnL, Bool.and_eq_true, beq_iff_eq] at hz
  have h0 : ∀ i, i < L.length → L.getD i 0 = 0 := fun i hi => by
    rcases show i = 0 ∨ i = 1 ∨ i = 2 by omega with e | e | e <;> subst e
    · exact hz.1
    · exact hz.2.1
    · exact hz.2.2.1
  have : ∀ n, n ≤ L.length → extraTo b L n = 0 := by
    intro n
    induction n with
    | zero => intro _; rfl
    | succ n ih => intro hn; rw [extra_next, ih (by omega), h0 n (by omega)]; simp
  exact this _ (Nat.le_refl _)
theorem c68 (x : Look) (L : List Int) (h : OkBook x.b) (hL : ∀ n ∈ L, 0 ≤ n ∧ n ≤ 60) (hl : L.length = x.b.rooms.length) : PC 19 [lk x, .arr 1 3 (rowsFn tint (fnL L))] (· = iI (extraR x.b L)) := by
  have h3 := h.nr
  have hmain : WP Try.prog ⟨none, 0⟩ (T68 x (fnL L)) (Ends' fun r => v68 r = iI (extraR x.b L)) (.l0 0 0) := by
    refine WP.run (fun i => .l0 (extraTo x.b L i) i) rfl L.length (fun i hi => ?_) ?_
    · have hi' : (i : Int) < x.b.rooms.length := by omega
      have hi3 : (i : Int) < 3 := by omega
      have hin := extra_in h (r := L) (fun n hn => by have := hL n hn; omega) (by omega) i (by omega)
      have hst := hin.2.2 hi
      have hfn : fnL L i = L.getD i 0 := rfl
      have r1 : inR .i64 (L.getD i 0 * (x.b.rooms.getD i zRoom).more) = true := inR64 (by omega) (by omega)
      have r2 : inR .i64 (extraTo x.b L i + L.getD i 0 * (x.b.rooms.getD i zRoom).more) = true := inR64 (by omega) (by omega)
      have r3 : inR .i64 ((i : Int) + 1) = true := inR64 (by omega) (by omega)
      rw [extra_next]
      refine WP.once ?_
      simp only [T68, Tr.sure, SS, hi', hi3, z2, hfn]
      repeat' with_reducible first | intro _ | apply And.intro
      all_goals first | exact (show i < 3 by omega) | (simp [r1, r2, r3, Go, Ends', v68, -List.getD_eq_getElem?_getD, *]; done)
    · have hlt : ((L.length : Nat) : Int) = x.b.rooms.length := by omega
      refine WP.step ?_
      simp only [T68, Go, Ends', v68, Tr.sure, SS, Int.lt_irrefl, hlt]
      repeat' with_reducible first | intro _ | apply And.intro
      all_goals simp [extraR, Go, Ends', v68, -List.getD_eq_getElem?_getD, *]
  have hze := extra_zero (b := x.b) (L := L) (by omega)
  refine w68 x (fnL L) (WP.step ?_)
  simp only [T68, Go, Ends', v68, Tr.sure, SS]
  repeat' with_reducible first | intro _ | apply And.intro
  all_goals first | exact (sem_zero3 _ _) | exact hmain | (simp [hze, Go, Ends', v68, -List.getD_eq_getElem?_getD, *]; done)
end
end Go.Proofs.Ytfgmckfomckliaa
