/-
  Part of the proof of the law DoorKnown. Conditions: those that stand in each theorem.
-/
import Derived.Test.YtfgmckfomckliaaB08
set_option linter.unusedSimpArgs false
set_option linter.unusedVariables false
set_option maxRecDepth 100000
namespace Go.Proofs.Ytfgmckfomckliaa
open Ab Go
noncomputable section
theorem feed_app (go : List V → Bool) : ∀ (a b tr : List V), feed go tr (a ++ b) = feed go (feed go tr a) b
  | [], b, tr => rfl
  | x :: a, b, tr => by
    simp only [List.cons_append, feed]
    cases h : go tr with
    | true => simp only [cond_true]; exact feed_app go a b _
    | false =>
      simp only [cond_false]
      cases b with
      | nil => rfl
      | cons y b => simp [feed, h]
theorem feed_stop {go : List V → Bool} {tr : List V} (h : go tr = false) (b : List V) : feed go tr b = tr := by
  cases b with
  | nil => rfl
  | cons y b => simp [feed, h]
theorem feed_all {go : List V → Bool} : ∀ {a tr : List V}, go (feed go tr a) = true → feed go tr a = tr ++ a
  | [], tr, _ => by simp [feed]
  | x :: a, tr, h => by
    simp only [feed] at h ⊢
    cases hg : go tr with
    | true =>
      rw [hg] at h
      simp only [cond_true] at h ⊢
      rw [feed_all h]; simp
    | false =>
      rw [hg] at h
      simp only [cond_false] at h
      rw [hg] at h; cases h
theorem feed_one {go : List V → Bool} {tr : List V} (h : go tr = true) (y : V) : feed go tr [y] = tr ++ [y] := by simp [feed, h]
def bdX (x : Look) (all : Int) (rm : Nat) : Int × Int := boundR x ((rm : Int) + 1) (min all (x.b.rooms.getD rm zRoom).full) (some (rm : Int))
def yV (own : Int) (f : Nat → Int) : V := .tuple [iI own, .arr 1 3 (rowsFn tint f)]
def stepW (X : Ext) (w : (Nat → Int) → List V → (Nat → Int) × List V) (rm : Nat) (s : (Nat → Int) × List V) (v : Int) : (Nat → Int) × List V := bif X.go s.2 then w (upd s.1 rm v) s.2 else s
def walkN (X : Ext) (x : Look) (pu all : Int) : Nat → Nat → (Nat → Int) → List V → (Nat → Int) × List V
  | 0, _, f, tr => (f, tr ++ [yV (all - pu) f])
  | n + 1, rm, f, tr => (rangeI (bdX x all rm).1 (bdX x all rm).2).foldl (stepW X (walkN X x pu all n (rm + 1)) rm) (f, tr)
def walkX (X : Ext) (x : Look) (pu all : Int) (rm : Nat) (f : Nat → Int) (tr : List V) : (Nat → Int) × List V := walkN X x pu all (x.b.rooms.length - rm) rm f tr
def leafN (x : Look) (all : Int) : Nat → Nat → (Nat → Int) → List (Nat → Int)
  | 0, _, f => [f]
  | n + 1, rm, f => (rangeI (bdX x all rm).1 (bdX x all rm).2).flatMap fun v => leafN x all n (rm + 1) (upd f rm v)
theorem leaf_congr (x : Look) (all : Int) : ∀ (n rm : Nat) (f g : Nat → Int), (∀ i, i < rm ∨ rm + n ≤ i → f i = g i) → leafN x all n rm f = leafN x all n rm g
  | 0, rm, f, g, h => by
    have : f = g := funext fun i => h i (by omega)
    rw [this]
  | n + 1, rm, f, g, h => by
    unfold leafN
    refine congrArg (fun k => List.flatMap k _) (funext fun v => leaf_congr x all n (rm + 1) _ _ fun i hi => ?_)
    unfold upd
    split
    · rfl
    · exact h i (by omega)
def ysL (x : Look) (pu all : Int) (n rm : Nat) (f : Nat → Int) : List V := (leafN x all n rm f).map (yV (all - pu))
theorem ysL_step (x : Look) (pu all : Int) (n rm : Nat) (f : Nat → Int) : ysL x pu all (n + 1) rm f = (rangeI (bdX x all rm).1 (bdX x all rm).2).flatMap fun v => ysL x pu all n (rm + 1) (upd f rm v) := by
  unfold ysL
  rw [leafN, List.map_flatMap]
theorem fold_spec (X : Ext) (x : Look) (pu all : Int) (n rm : Nat) (f : Nat → Int)
    (hw : ∀ (f : Nat → Int) (tr : List V), X.go tr = true → (walkN X x pu all n (rm + 1) f tr).2 = feed X.go tr (ysL x pu all n (rm + 1) f) ∧ ∀ i, i < rm + 1 ∨ rm + 1 + n ≤ i → (walkN X x pu all n (rm + 1) f tr).1 i = f i) :
    ∀ (L : List Int) (s : (Nat → Int) × List V), (∀ i, i < rm ∨ rm + (n + 1) ≤ i → s.1 i = f i) →
        (L.foldl (stepW X (walkN X x pu all n (rm + 1)) rm) s).2 = feed X.go s.2 (L.flatMap fun v => ysL x pu all n (rm + 1) (upd f rm v)) ∧ ∀ i, i < rm ∨ rm + (n + 1) ≤ i → (L.foldl (stepW X (walkN X x pu all n (rm + 1)) rm) s).1 i = f i := by
  intro L
  induction L with
  | nil => intro s hs; exact ⟨rfl, hs⟩
  | cons v L ih =>
    intro s hs
    rw [List.foldl_cons, List.flatMap_cons, feed_app]
    have hup : ∀ i, i < rm + 1 ∨ rm + 1 + n ≤ i → upd s.1 rm v i = upd f rm v i := fun i hi => by
      unfold upd
      split
      · rfl
      · exact hs i (by omega)
    cases hgs : X.go s.2 with
    | false =>
      have e : stepW X (walkN X x pu all n (rm + 1)) rm s v = s := by unfold stepW; rw [hgs]; rfl
      rw [e, feed_stop hgs]
      exact ih s hs
    | true =>
      have e : stepW X (walkN X x pu all n (rm + 1)) rm s v = walkN X x pu all n (rm + 1) (upd s.1 rm v) s.2 := by unfold stepW; rw [hgs]; rfl
      obtain ⟨w1, w2⟩ := hw (upd s.1 rm v) s.2 hgs
      have w3 : ysL x pu all n (rm + 1) (upd s.1 rm v) = ysL x pu all n (rm + 1) (upd f rm v) := by unfold ysL; rw [leaf_congr x all n (rm + 1) _ _ hup]
      rw [w3] at w1
      rw [e, ← w1]
      refine ih _ fun i hi => ?_
      rw [w2 i (by omega), hup i (by omega)]
      unfold upd
      rw [if_neg (by omega)]
theorem walk_spec (X : Ext) (x : Look) (pu all : Int) : ∀ (n rm : Nat) (f : Nat → Int) (tr : List V), X.go tr = true →
    (walkN X x pu all n rm f tr).2 = feed X.go tr (ysL x pu all n rm f) ∧ ∀ i, i < rm ∨ rm + n ≤ i → (walkN X x pu all n rm f tr).1 i = f i
  | 0, rm, f, tr, hg => ⟨(feed_one hg _).symm, fun i _ => rfl⟩
  | n + 1, rm, f, tr, hg => by
    rw [ysL_step]
    exact fold_spec X x pu all n rm f (walk_spec X x pu all n (rm + 1)) _ (f, tr) fun i _ => rfl
theorem fold_stop (X : Ext) (w : (Nat → Int) → List V → (Nat → Int) × List V) (rm : Nat) {s : (Nat → Int) × List V} (h : X.go s.2 = false) : ∀ L : List Int, L.foldl (stepW X w rm) s = s
  | [] => rfl
  | v :: L => by
    have e : stepW X w rm s v = s := by unfold stepW; rw [h]; rfl
    rw [List.foldl_cons, e]; exact fold_stop X w rm h L
theorem walk_congr (x : Look) (pu all : Int) (n : Nat) (f g : Nat → Int) (h : ∀ i, n ≤ i → f i = g i) : ysL x pu all n 0 f = ysL x pu all n 0 g := by
  unfold ysL; rw [leaf_congr x all n 0 f g fun i hi => h i (by omega)]
inductive P106
  | e
  | l0 (x0_13 : Int) (e0_0 : List V) (a0_4 : Nat → Int)
inductive R106
  | r0 (r0 : List V) (r1 : Int) (r2 : Nat → Int) (r3 : Bool)
noncomputable def T106 (X : Ext) (tr : List V) (x : Look) (pu : Int) (f : Nat → Int) (rm : Nat) (all : Int) : P106 → Tr P106 R106
  | .e => let c2 : List V := [iI (all - pu), .arr 1 3 (rowsFn tint f)]; let c3 := (rm : Int) + (1 : Int); let c1 := boundR x c3 (min all ((x.b.rooms.getD ((rm : Int)).toNat tRoom.zero).full)) (some (rm : Int)); (.br ((rm : Int) == (x.b.rooms.length : Int)) (.need (inR .i64 (all - pu)) (.yld X tr c2 c2 true (.out (.r0 (tr ++ [V.tuple c2]) pu f (X.go (tr ++ [V.tuple c2])))))) (.front [(19, 38, [lk x, iI c3, iI (min all ((x.b.rooms.getD ((rm : Int)).toNat tRoom.zero).full)), .agg [iI (rm : Int), fG 62 [rR (iI (rm : Int))], fG 63 [rR (iI (rm : Int)), rR (lk x)]]], .tuple [iI (c1.1), iI (c1.2)])] [] ((true && (true && ((inR .i64 c3) && (true && (true && (true && (true && (true && (true && (true && ((decide (0 ≤ (rm : Int)) && decide ((rm : Int) < (x.b.rooms.length : Int))) && (true && (true && (true && (true && (true && ((inR .i64 c3) && ((decide (0 ≤ c3) && decide (c3 < (((entsR x).length) : Int))) && (true && (true && (true && (true && (true && (true && true)))))))))))))))))))))))) && true) true (.go (.l0 (c1.1) tr f))))
  | .l0 x0_13 e0_0 a0_4 => let c1 := walkX X x pu all (rm + 1) (upd a0_4 (((rm : Int)).toNat) x0_13) e0_0; let c2 : List V := [fG 39 [rR (lk x), .ref 1 0 0, .ref 3 0 0, .ref 4 0 0, .ref 2 0 0, .ref 5 0 0]]; let c3 := ([iI x0_13] : List V); let c4 := rowsFn tint (upd a0_4 (((rm : Int)).toNat) x0_13); let c5 := (rm : Int) + (1 : Int); (.br (decide (x0_13 ≤ (boundR x c5 (min all ((x.b.rooms.getD ((rm : Int)).toNat tRoom.zero).full)) (some (rm : Int))).2)) (.need (decide (0 ≤ (rm : Int)) && decide ((rm : Int) < (3 : Int))) (.need ((decide (((rm : Int)).toNat < 3) && decide (0 + c3.length ≤ 1)) && underL 0 c3) (.telb 4 1 3 (fun r' j => if r' = ((rm : Int)).toNat ∧ 0 ≤ j ∧ j < 0 + c3.length then c3.getD (j - 0) uU else (rowsFn tint a0_4) r' j) c4 (.need (inR .i64 c5) (.hcall 39 [iI all, iI c5, rR (lk x), .ref 1 0 0, .ref 3 0 0, .ref 4 0 0, .ref 2 0 0, .ref 5 0 0] (.bool (X.go c1.2)) [.ext X e0_0, .cells [.yld 0], .cells [.list 3 ((entsR x).length) (fun r j => (entF x r).getD j uU)], .cells [iI pu], .rows 71 1 3 c4, .cells c2] [.ext X (c1.2), .cells [.yld 0], .cells [.list 3 ((entsR x).length) (fun r j => (entF x r).getD j uU)], .cells [iI pu], .rows 71 1 3 (rowsFn tint (c1.1)), .cells c2] true (.br (!(X.go c1.2)) (.out (.r0 (c1.2) pu (c1.1) false)) (.need (inR .i64 (x0_13 + (1 : Int))) (.go (.l0 (x0_13 + (1 : Int)) (c1.2) (c1.1)))))))))) (.out (.r0 e0_0 pu a0_4 true)))
noncomputable def g106 (X : Ext) (tr : List V) (x : Look) (pu : Int) (f : Nat → Int) (rm : Nat) (all : Int) : P106 → List Item × St
  | .e => ([.code (Try.f39.body.getD .skip)], ⟨[iI all, iI (rm : Int), rR (lk x), .ref 1 0 0, .ref 3 0 0, .ref 4 0 0, .ref 2 0 0, .ref 5 0 0] ++ List.replicate 58 uU, [.ext X tr, .cells [.yld 0], .cells [.list 3 ((entsR x).length) (fun r j => (entF x r).getD j uU)], .cells [iI pu], .rows 71 1 3 (rowsFn tint f), .cells [fG 39 [rR (lk x), .ref 1 0 0, .ref 3 0 0, .ref 4 0 0, .ref 2 0 0, .ref 5 0 0]]], []⟩)
  | .l0 x0_13 e0_0 a0_4 => (cutOf Try.f39 0, ⟨mk 66 [(0, iI all), (1, iI (rm : Int)), (5, .ref 4 0 0), (7, .ref 5 0 0), (12, iI ((boundR x ((rm : Int) + (1 : Int)) (min all ((x.b.rooms.getD ((rm : Int)).toNat tRoom.zero).full)) (some (rm : Int))).2)), (13, iI x0_13)], [.ext X e0_0, .cells [.yld 0], .cells [.list 3 ((entsR x).length) (fun r j => (entF x r).getD j uU)], .cells [iI pu], .rows 71 1 3 (rowsFn tint a0_4), .cells [fG 39 [rR (lk x), .ref 1 0 0, .ref 3 0 0, .ref 4 0 0, .ref 2 0 0, .ref 5 0 0]]], []⟩)
noncomputable def n106 (X : Ext) (tr : List V) (x : Look) (pu : Int) (f : Nat → Int) (rm : Nat) : R106 → Exit × St
  | .r0 r0 r1 r2 r3 => (.ret, ⟨mk 66 [(10, .bool r3)], [.ext X r0, .cells [.yld 0], .cells [.list 3 ((entsR x).length) (fun r j => (entF x r).getD j uU)], .cells [iI r1], .rows 71 1 3 (rowsFn tint r2), .cells [fG 39 [rR (lk x), .ref 1 0 0, .ref 3 0 0, .ref 4 0 0, .ref 2 0 0, .ref 5 0 0]]], []⟩)
theorem s106 (X : Ext) (tr : List V) (x : Look) (pu : Int) (f : Nat → Int) (rm : Nat) (all : Int) : Sm 6 (g106 X tr x pu f rm all) (T106 X tr x pu f rm all) (n106 X tr x pu f rm)
  | .e => ⟨400, by kernel_rfl⟩
  | .l0 _ _ _ => ⟨400, by kernel_rfl⟩
noncomputable def hh106 (X : Ext) (tr : List V) (x : Look) (pu : Int) (f : Nat → Int) (rm : Nat) : R106 → List Blk
  | .r0 r0 r1 r2 r3 => [.ext X r0, .cells [.yld 0], .cells [.list 3 ((entsR x).length) (fun r j => (entF x r).getD j uU)], .cells [iI r1], .rows 71 1 3 (rowsFn tint r2), .cells [fG 39 [rR (lk x), .ref 1 0 0, .ref 3 0 0, .ref 4 0 0, .ref 2 0 0, .ref 5 0 0]]]
noncomputable def v106 (X : Ext) (tr : List V) (x : Look) (pu : Int) (f : Nat → Int) (rm : Nat) : R106 → V
  | .r0 r0 r1 r2 r3 => .bool r3
theorem q106 (X : Ext) (tr : List V) (x : Look) (pu : Int) (f : Nat → Int) (rm : Nat) : ∀ r, ((n106 X tr x pu f rm r).1 = .normal ∨ (n106 X tr x pu f rm r).1 = .ret) ∧ (n106 X tr x pu f rm r).2.d = [] ∧ (n106 X tr x pu f rm r).2.h = hh106 X tr x pu f rm r ∧ resultV Try.prog Try.f39 (n106 X tr x pu f rm r).2 = some (v106 X tr x pu f rm r)
  | .r0 r0 r1 r2 r3 => ⟨.inr rfl, rfl, rfl, by kernel_rfl⟩
theorem w106 (X : Ext) (tr : List V) (x : Look) (pu : Int) (f : Nat → Int) (rm : Nat) (all : Int) {V0 : V} {h' : List Blk} (h : WP Try.prog ⟨none, 6⟩ (T106 X tr x pu f rm all) (Ends' fun r => v106 X tr x pu f rm r = V0 ∧ hh106 X tr x pu f rm r = h') .e) : HCalls Try.prog 39 [iI all, iI (rm : Int), rR (lk x), .ref 1 0 0, .ref 3 0 0, .ref 4 0 0, .ref 2 0 0, .ref 5 0 0] V0 [.ext X tr, .cells [.yld 0], .cells [.list 3 ((entsR x).length) (fun r j => (entF x r).getD j uU)], .cells [iI pu], .rows 71 1 3 (rowsFn tint f), .cells [fG 39 [rR (lk x), .ref 1 0 0, .ref 3 0 0, .ref 4 0 0, .ref 2 0 0, .ref 5 0 0]]] h' :=
  HCalls.wp mx Try.func39 (by kernel_rfl) (by kernel_rfl) (T106 X tr x pu f rm all) (g106 X tr x pu f rm all) (n106 X tr x pu f rm) .e rfl (s106 X tr x pu f rm all) h fun r hr => by rw [← hr.1, ← hr.2]; exact q106 X tr x pu f rm r
abbrev nextV (x : Look) : V := fG 39 [rR (lk x), .ref 1 0 0, .ref 3 0 0, .ref 4 0 0, .ref 2 0 0, .ref 5 0 0]
abbrev HW (X : Ext) (x : Look) (pu : Int) (tr : List V) (f : Nat → Int) : List Blk := [.ext X tr, .cells [.yld 0], .cells [entsV x], .cells [iI pu], .rows 71 1 3 (rowsFn tint f), .cells [nextV x]]
theorem entsR_len (x : Look) : (entsR x).length = x.b.rooms.length + 1 := by simp [entsR, entsT]
theorem tel_upd3 (f : Nat → Int) (i : Nat) (a : Int) {r j : Nat} (hj : j < 1) : VLe (if r = i ∧ 0 ≤ j ∧ j < 0 + ([iI a] : List V).length then ([iI a] : List V).getD (j - 0) uU else rowsFn tint f r j) (rowsFn tint (upd f i a) r j) := by
  exact tel_upd tint f i a (n := r + 1) (w := 1) _ rfl rfl r j (by omega) hj
theorem under1 (a : Int) : underL 0 [V.int .i64 a] = true := rfl
theorem bdX_in {x : Look} (h : OkX x) {all : Int} (ha : 0 ≤ all ∧ all ≤ 60) {rm : Nat} (hr : rm < x.b.rooms.length) : 0 ≤ (bdX x all rm).1 ∧ (bdX x all rm).2 ≤ 60 := by
  have hday := h.ok.day
  have h1 := hday.room _ (getD_mem zCount x.day.rooms rm (by rw [hday.many]; exact hr))
  have h2 := (h.ok.b.room _ (getD_mem zRoom x.b.rooms rm hr)).2
  unfold bdX
  unfold boundR
  split
  · exact ⟨Int.le_refl _, by simp only; omega⟩
  · exact ⟨h1.1.1, by simp only; omega⟩
set_option maxHeartbeats 4000000 in
theorem c106 (X : Ext) (hY : YSpec Try.prog X) (x : Look) (h : OkX x) (pu all : Int) (hpu : 0 ≤ pu ∧ pu ≤ 60) (hall : 0 ≤ all ∧ all ≤ 60) : ∀ (n rm : Nat) (f : Nat → Int) (tr : List V), rm + n = x.b.rooms.length → X.go tr = true → tr ++ ysL x pu all n rm f <+: X.ys →
    HCalls Try.prog 39 [iI all, iI (rm : Int), rR (lk x), .ref 1 0 0, .ref 3 0 0, .ref 4 0 0, .ref 2 0 0, .ref 5 0 0] (.bool (X.go (walkN X x pu all n rm f tr).2)) (HW X x pu tr f) (HW X x pu (walkN X x pu all n rm f tr).2 (walkN X x pu all n rm f tr).1)
  | 0, rm, f, tr, hn, hg, hp => by
    have hi : ((rm : Int) == (x.b.rooms.length : Int)) = true := by rw [beq_iff_eq]; omega
    have hr : inR .i64 (all - pu) = true := inR64 (by omega) (by omega)
    have hp' : tr ++ [V.tuple [iI (all - pu), .arr 1 3 (rowsFn tint f)]] <+: X.ys := hp
    have hw : walkN X x pu all 0 rm f tr = (f, tr ++ [yV (all - pu) f]) := rfl
    rw [hw]
    refine w106 X tr x pu f rm all (WP.step ?_)
    simp only [T106, Go, Ends', v106, Tr.sure, SS, hi]
    repeat' with_reducible first | intro _ | apply And.intro
    all_goals first | exact hY | exact hp' | exact (by with_reducible exact VLe.refl _) | (simp [hh106, yV, hg, hr, Go, Ends', v106, -List.getD_eq_getElem?_getD, *]; done) | skip
    all_goals exact rfl
  | n + 1, rm, f, tr, hn, hg, hp => by
    have hlt : rm < x.b.rooms.length := by omega
    have hlt' : (rm : Int) < x.b.rooms.length := by omega
    have h3 := h.ok.b.nr
    have hi : ((rm : Int) == (x.b.rooms.length : Int)) = false := by rw [beq_eq_false_iff_ne]; omega
    have hnat : ((rm : Int) + 1).toNat = rm + 1 := by omega
    have hr1 : inR .i64 ((rm : Int) + 1) = true := inR64 (by omega) (by omega)
    have hel := entsR_len x
    have hel' : ((rm : Int) + 1) < ((entsR x).length : Int) := by omega
    have hrm0 : 0 ≤ (rm : Int) + 1 := by omega
    have hz : (tEnt x).zero = none := rfl
    have k105 := c105 x ((rm : Int) + 1) (min all (x.b.rooms.getD rm zRoom).full) (some (rm : Int)) h (by omega) (fun i hi => by cases hi; omega)
    have hbd : boundR x ((rm : Int) + 1) (min all (x.b.rooms.getD rm zRoom).full) (some (rm : Int)) = bdX x all rm := rfl
    have hbin := bdX_in h hall hlt
    have hwx : ∀ g t, walkX X x pu all (rm + 1) g t = walkN X x pu all n (rm + 1) g t := fun g t => by
      unfold walkX; rw [show x.b.rooms.length - (rm + 1) = n by omega]
    have hw0 : walkN X x pu all (n + 1) rm f tr = (rangeI (bdX x all rm).1 (bdX x all rm).2).foldl (stepW X (walkN X x pu all n (rm + 1)) rm) (f, tr) := rfl
    have hleaf := ysL_step x pu all n rm f
    rw [hw0]
    rw [hleaf] at hp
    have hspec := fun g t hgt => walk_spec X x pu all n (rm + 1) g t hgt
    have ihh := fun g t => c106 X hY x h pu all hpu hall n (rm + 1) g t (by omega)
    rw [hbd] at k105
    generalize hB : bdX x all rm = B at *
    have hmain : WP Try.prog ⟨none, 6⟩ (T106 X tr x pu f rm all) (Ends' fun r => v106 X tr x pu f rm r = .bool (X.go ((rangeI B.1 B.2).foldl (stepW X (walkN X x pu all n (rm + 1)) rm) (f, tr)).2) ∧ hh106 X tr x pu f rm r = HW X x pu ((rangeI B.1 B.2).foldl (stepW X (walkN X x pu all n (rm + 1)) rm) (f, tr)).2 ((rangeI B.1 B.2).foldl (stepW X (walkN X x pu all n (rm + 1)) rm) (f, tr)).1) (.l0 B.1 tr f) := by
      have hfold := fold_spec X x pu all n rm f (walk_spec X x pu all n (rm + 1))
      have hstop := fun {s : (Nat → Int) × List V} (q : X.go s.2 = false) L => fold_stop X (walkN X x pu all n (rm + 1)) rm q L
      generalize hW : walkN X x pu all n (rm + 1) = W at *
      obtain ⟨st, hst⟩ : ∃ st : Nat → (Nat → Int) × List V, ∀ i, st i = ((rangeI B.1 B.2).take i).foldl (stepW X W rm) (f, tr) := ⟨_, fun _ => rfl⟩
      have hall2 : (rangeI B.1 B.2).foldl (stepW X W rm) (f, tr) = st (rangeI B.1 B.2).length := by rw [hst, List.take_length]
      rw [hall2]
      have h00 : (st 0).2 = tr ∧ (st 0).1 = f := by rw [hst]; exact ⟨rfl, rfl⟩
      refine WP.count (fun i => .l0 (B.1 + (i : Int)) (st i).2 (st i).1) (by rw [h00.1, h00.2]; simp) (rangeI B.1 B.2).length (fun i => X.go (st i).2 = true) (by rw [h00.1]; exact hg) (fun i hi hI => ?_) fun hI => ?_
      · have hget := rangeI_get hi
        have hi2 := hi
        rw [rangeI_len] at hi2
        obtain ⟨f1, f2⟩ := hfold ((rangeI B.1 B.2).take i) (f, tr) fun _ _ => rfl
        rw [← hst] at f1 f2
        have hsn : st (i + 1) = stepW X W rm (st i) (B.1 + (i : Int)) := by
          rw [hst, hst, take_snoc 0 _ i hi, List.foldl_append, hget]; rfl
        have hv : B.1 + (i : Int) ≤ B.2 := by omega
        have hcast : B.1 + ((i + 1 : Nat) : Int) = B.1 + (i : Int) + 1 := by omega
        have hrest : X.go (st (i + 1)).2 = false → st (rangeI B.1 B.2).length = st (i + 1) := fun q => by
          have e : rangeI B.1 B.2 = (rangeI B.1 B.2).take (i + 1) ++ (rangeI B.1 B.2).drop (i + 1) := (List.take_append_drop _ _).symm
          rw [hst (rangeI B.1 B.2).length, List.take_length]
          conv => lhs; rw [e]
          rw [List.foldl_append, ← hst, hstop q]
        have hstep : stepW X W rm (st i) (B.1 + (i : Int)) = W (upd (st i).1 rm (B.1 + (i : Int))) (st i).2 := by unfold stepW; rw [hI]; rfl
        rw [hstep] at hsn
        have hup : ysL x pu all n (rm + 1) (upd (st i).1 rm (B.1 + (i : Int))) = ysL x pu all n (rm + 1) (upd f rm (B.1 + (i : Int))) := by
          unfold ysL
          rw [leaf_congr x all n (rm + 1) _ (upd f rm (B.1 + (i : Int))) fun j hj => ?_]
          unfold upd
          split
          · rfl
          · exact f2 j (by omega)
        have hpf : (st i).2 ++ ysL x pu all n (rm + 1) (upd (st i).1 rm (B.1 + (i : Int))) <+: X.ys := by
          rw [hup]
          have hfa : (st i).2 = tr ++ ((rangeI B.1 B.2).take i).flatMap fun v => ysL x pu all n (rm + 1) (upd f rm v) := by
            rw [f1]; exact feed_all (by rw [← f1]; exact hI)
          rw [hfa]
          refine List.IsPrefix.trans ?_ hp
          have e : rangeI B.1 B.2 = (rangeI B.1 B.2).take i ++ (B.1 + (i : Int)) :: (rangeI B.1 B.2).drop (i + 1) := by
            have := drop_cons 0 (rangeI B.1 B.2) i hi
            rw [hget] at this
            rw [← this, List.take_append_drop]
          conv => rhs; rw [e]
          rw [List.flatMap_append, List.flatMap_cons, List.append_assoc]
          exact (List.prefix_append_right_inj tr).2 ((List.prefix_append_right_inj _).2 (List.prefix_append _ _))
        have ih := ihh (upd (st i).1 rm (B.1 + (i : Int))) (st i).2 hI hpf
        rw [← hsn] at ih
        have hwx2 := hwx (upd (st i).1 rm (B.1 + (i : Int))) (st i).2
        rw [← hsn] at hwx2
        rw [hcast]
        have hv0 : (0 : Int) ≤ rm := by omega
        have hv3 : (rm : Int) < 3 := by omega
        have hr2 : inR .i64 (B.1 + (i : Int) + 1) = true := inR64 (by omega) (by omega)
        generalize hsi : st i = S0 at *
        generalize hsi1 : st (i + 1) = S1 at *
        refine WP.step ?_
        simp only [T106, Go, Ends', v106, Tr.sure, SS, hbd, z2, hv, hwx2, Int.toNat_natCast]
        repeat' with_reducible first | intro _ | apply And.intro
        all_goals first | exact ih | exact (by with_reducible exact tel_upd3 _ _ _ ‹_›) | exact (by with_reducible exact under1 _) | exact (show rm < 3 by omega) | (simp [hr1, hr2, Go, Ends', v106, -List.getD_eq_getElem?_getD, *]; done) | skip
        · have hgf : X.go S1.2 = false := by with_reducible assumption
          right
          have e := hrest hgf
          rw [e, hgf]
          exact ⟨rfl, rfl⟩
        · have hgt : X.go S1.2 = true := by with_reducible assumption
          exact WP.stop (.inl ⟨rfl, hgt⟩)
      · have hno : ¬ B.1 + ((rangeI B.1 B.2).length : Int) ≤ B.2 := by rw [rangeI_len]; omega
        generalize hsi : st (rangeI B.1 B.2).length = S0 at *
        refine WP.step ?_
        simp only [T106, Go, Ends', v106, Tr.sure, SS, hbd, z2, hno, Int.toNat_natCast]
        repeat' with_reducible first | intro _ | apply And.intro
        all_goals first | (simp [hI, Go, Ends', v106, -List.getD_eq_getElem?_getD, *]; done) | skip
        all_goals exact rfl
    refine w106 X tr x pu f rm all (WP.step ?_)
    simp only [T106, Go, Ends', v106, Tr.sure, SS, hi, hnat, hz, hbd, z2]
    repeat' with_reducible first | intro _ | apply And.intro
    all_goals first | exact k105 | exact hmain | (simp [Go, Ends', v106, -List.getD_eq_getElem?_getD, *]; done)
end
noncomputable section
inductive P104
  | e
  | l0 (x0_10 : Int) (e0_0 : List V) (a0_4 : Nat → Int)
inductive R104
  | r0 (r0 : List V)
  | r1 (r0 : List V)
noncomputable def T104 (X : Ext) (x : Look) : P104 → Tr P104 R104
  | .e => let c1 := boundR x 0 60 none; (.call 37 [lk x] (.list 3 ((entsR x).length) (fun r j => (entF x r).getD j uU)) true true (.call 17 [lk x] (.tuple [iI (feesR x.b x.day), iI (pupilsR x.day)]) true true (.front [(4, 38, [lk x, iI 0, iI 60, .agg [iI (-1), fF 60, fG 61 [rR (lk x)]]], .tuple [iI (c1.1), iI (c1.2)])] [] ((true && (true && ((decide (0 ≤ (0 : Int)) && decide ((0 : Int) < (((entsR x).length) : Int))) && (true && (true && (true && (true && (true && (true && true))))))))) && true) true (.wait 2 (.telb 4 1 3 (fun _ j => ([iI 0] : List V).getD j uU) (rowsFn tint (fun _ => tint.zero)) (.go (.l0 (max (c1.1) (pupilsR x.day)) ([]) (fun _ => tint.zero))))))))
  | .l0 x0_10 e0_0 a0_4 => let c1 := walkX X x (pupilsR x.day) x0_10 0 a0_4 e0_0; let c2 : List V := [fG 39 [rR (lk x), .ref 1 0 0, .ref 3 0 0, .ref 4 0 0, .ref 2 0 0, .ref 5 0 0]]; (.br (decide (x0_10 ≤ (boundR x 0 60 none).2)) (.hcall 39 [iI x0_10, iI 0, rR (lk x), .ref 1 0 0, .ref 3 0 0, .ref 4 0 0, .ref 2 0 0, .ref 5 0 0] (.bool (X.go c1.2)) [.ext X e0_0, .cells [.yld 0], .cells [.list 3 ((entsR x).length) (fun r j => (entF x r).getD j uU)], .cells [iI (pupilsR x.day)], .rows 71 1 3 (rowsFn tint a0_4), .cells c2] [.ext X (c1.2), .cells [.yld 0], .cells [.list 3 ((entsR x).length) (fun r j => (entF x r).getD j uU)], .cells [iI (pupilsR x.day)], .rows 71 1 3 (rowsFn tint (c1.1)), .cells c2] true (.br (!(X.go c1.2)) (.out (.r0 (c1.2))) (.need (inR .i64 (x0_10 + (1 : Int))) (.go (.l0 (x0_10 + (1 : Int)) (c1.2) (c1.1)))))) (.out (.r1 e0_0)))
noncomputable def g104 (X : Ext) (x : Look) : P104 → List Item × St
  | .e => ([.code (Try.f36.body.getD .skip)], ⟨[.yld 0, rR (lk x)] ++ List.replicate 37 uU, [.ext X ([])], []⟩)
  | .l0 x0_10 e0_0 a0_4 => (cutOf Try.f36 0, ⟨mk 39 [(7, iI ((boundR x 0 60 none).2)), (9, .ref 5 0 0), (10, iI x0_10)], [.ext X e0_0, .cells [.yld 0], .cells [.list 3 ((entsR x).length) (fun r j => (entF x r).getD j uU)], .cells [iI (pupilsR x.day)], .rows 71 1 3 (rowsFn tint a0_4), .cells [fG 39 [rR (lk x), .ref 1 0 0, .ref 3 0 0, .ref 4 0 0, .ref 2 0 0, .ref 5 0 0]]], []⟩)
noncomputable def n104 (X : Ext) (x : Look) : R104 → Exit × St
  | .r0 r0 => (.ret, ⟨mk 39 [], [.ext X r0], []⟩)
  | .r1 r0 => (.normal, ⟨mk 39 [], [.ext X r0], []⟩)
theorem s104 (X : Ext) (x : Look) : Sm 1 (g104 X x) (T104 X x) (n104 X x)
  | .e => ⟨400, by kernel_rfl⟩
  | .l0 _ _ _ => ⟨400, by kernel_rfl⟩
noncomputable def hh104 (X : Ext) (x : Look) : R104 → List Blk
  | .r0 r0 => [.ext X r0]
  | .r1 r0 => [.ext X r0]
noncomputable def v104 (X : Ext) (x : Look) : R104 → V
  | .r0 r0 => .tuple []
  | .r1 r0 => .tuple []
theorem q104 (X : Ext) (x : Look) : ∀ r, ((n104 X x r).1 = .normal ∨ (n104 X x r).1 = .ret) ∧ (n104 X x r).2.d = [] ∧ (n104 X x r).2.h = hh104 X x r ∧ resultV Try.prog Try.f36 (n104 X x r).2 = some (v104 X x r)
  | .r0 r0 => ⟨.inr rfl, rfl, rfl, by kernel_rfl⟩
  | .r1 r0 => ⟨.inl rfl, rfl, rfl, by kernel_rfl⟩
theorem w104 (X : Ext) (x : Look) {V0 : V} {h' : List Blk} (h : WP Try.prog ⟨none, 1⟩ (T104 X x) (Ends' fun r => v104 X x r = V0 ∧ hh104 X x r = h') .e) : HCalls Try.prog 36 [.yld 0, rR (lk x)] V0 [.ext X ([])] h' :=
  HCalls.wp mx Try.func36 (by kernel_rfl) (by kernel_rfl) (T104 X x) (g104 X x) (n104 X x) .e rfl (s104 X x) h fun r hr => by rw [← hr.1, ← hr.2]; exact q104 X x r
def zeroF : Nat → Int := fun _ => 0
def stoodR (x : Look) : List (Int × (Nat → Int)) :=
  (rangeI (max (boundR x 0 60 none).1 (pupilsR x.day)) (boundR x 0 60 none).2).flatMap fun all => (leafN x all x.b.rooms.length 0 zeroF).map fun f => (all - pupilsR x.day, f)
def ysX (x : Look) : List V := (stoodR x).map fun p => yV p.1 p.2
theorem ysX_eq (x : Look) : ysX x = (rangeI (max (boundR x 0 60 none).1 (pupilsR x.day)) (boundR x 0 60 none).2).flatMap fun all => ysL x (pupilsR x.day) all x.b.rooms.length 0 zeroF := by
  unfold ysX stoodR ysL
  rw [List.map_flatMap]
  congr 1
  funext all
  rw [List.map_map]; rfl
theorem tel_zero3 (r j : Nat) : VLe (([iI 0] : List V).getD j uU) (rowsFn tint (fun _ => tint.zero) r j) := VLe.refl _
def stepA (X : Ext) (x : Look) (s : (Nat → Int) × List V) (all : Int) : (Nat → Int) × List V := bif X.go s.2 then walkN X x (pupilsR x.day) all x.b.rooms.length 0 s.1 s.2 else s
theorem all_spec (X : Ext) (x : Look) : ∀ (L : List Int) (s : (Nat → Int) × List V), (∀ i, x.b.rooms.length ≤ i → s.1 i = 0) →
    (L.foldl (stepA X x) s).2 = feed X.go s.2 (L.flatMap fun all => ysL x (pupilsR x.day) all x.b.rooms.length 0 zeroF) ∧ ∀ i, x.b.rooms.length ≤ i → (L.foldl (stepA X x) s).1 i = 0
  | [], s, hs => ⟨rfl, hs⟩
  | all :: L, s, hs => by
    rw [List.foldl_cons, List.flatMap_cons, feed_app]
    cases hg : X.go s.2 with
    | false =>
      have e : stepA X x s all = s := by unfold stepA; rw [hg]; rfl
      rw [e, feed_stop hg]
      exact all_spec X x L s hs
    | true =>
      have e : stepA X x s all = walkN X x (pupilsR x.day) all x.b.rooms.length 0 s.1 s.2 := by unfold stepA; rw [hg]; rfl
      obtain ⟨w1, w2⟩ := walk_spec X x (pupilsR x.day) all x.b.rooms.length 0 s.1 s.2 hg
      rw [walk_congr x (pupilsR x.day) all x.b.rooms.length s.1 zeroF hs] at w1
      rw [e, ← w1]
      exact all_spec X x L _ fun i hi => by rw [w2 i (by omega)]; exact hs i hi
theorem all_stop (X : Ext) (x : Look) {s : (Nat → Int) × List V} (h : X.go s.2 = false) : ∀ L : List Int, L.foldl (stepA X x) s = s
  | [] => rfl
  | v :: L => by
    have e : stepA X x s v = s := by unfold stepA; rw [h]; rfl
    rw [List.foldl_cons, e]; exact all_stop X x h L
set_option maxHeartbeats 4000000 in
theorem c104 (x : Look) (h : OkX x) : Iter Try.prog 36 [rR (lk x)] (ysX x) := by
  intro X hX hY hg
  refine ⟨.tuple [], ?_⟩
  have hday := h.ok.day
  have h3 := h.ok.b.nr
  have k83 := c83v x h3
  have k64 := c64 x h.ok
  have k105 := c105 x 0 60 none h (by omega) (fun i hi => by cases hi)
  have hpu : 0 ≤ pupilsR x.day ∧ pupilsR x.day ≤ 60 := ⟨(sum_in hday.school _ (Nat.le_refl _)).1, hday.all⟩
  have hel := entsR_len x
  have hel' : (0 : Int) < ((entsR x).length : Int) := by omega
  have hbd : 0 ≤ (boundR x 0 60 none).1 ∧ (boundR x 0 60 none).2 ≤ 60 := by
    have hd := hday.door
    unfold boundR
    split
    · exact ⟨Int.le_refl _, Int.le_refl _⟩
    · exact ⟨hd.1.1, by simp only; omega⟩
  have hwx : ∀ pu all g t, walkX X x pu all 0 g t = walkN X x pu all x.b.rooms.length 0 g t := fun pu all g t => rfl
  have c106' := c106 X hY x h (pupilsR x.day)
  have hys := ysX_eq x
  have hmain : WP Try.prog ⟨none, 1⟩ (T104 X x) (Ends' fun r => v104 X x r = .tuple [] ∧ hh104 X x r = [.ext X (feed X.go [] (ysX x))]) (.l0 (max (boundR x 0 60 none).1 (pupilsR x.day)) [] zeroF) := by
    rw [hys]
    rw [hys] at hX
    have hsp := all_spec X x
    have hstop := fun {s : (Nat → Int) × List V} (q : X.go s.2 = false) L => all_stop X x q L
    generalize hLo : max (boundR x 0 60 none).1 (pupilsR x.day) = lo at *
    generalize hHi : (boundR x 0 60 none).2 = hi at *
    have hlo0 : 0 ≤ lo := by omega
    obtain ⟨Y, hY2⟩ : ∃ Y : Int → List V, Y = fun all => ysL x (pupilsR x.day) all x.b.rooms.length 0 zeroF := ⟨_, rfl⟩
    rw [← hY2] at hX hsp ⊢
    obtain ⟨st, hst⟩ : ∃ st : Nat → (Nat → Int) × List V, ∀ i, st i = ((rangeI lo hi).take i).foldl (stepA X x) (zeroF, []) := ⟨_, fun _ => rfl⟩
    have hfin : feed X.go [] ((rangeI lo hi).flatMap Y) = (st (rangeI lo hi).length).2 := by
      rw [hst, List.take_length]; exact (hsp (rangeI lo hi) (zeroF, []) fun _ _ => rfl).1.symm
    rw [hfin]
    have h00 : (st 0).2 = [] ∧ (st 0).1 = zeroF := by rw [hst]; exact ⟨rfl, rfl⟩
    refine WP.count (fun i => .l0 (lo + (i : Int)) (st i).2 (st i).1) (by rw [h00.1, h00.2]; simp) (rangeI lo hi).length (fun i => X.go (st i).2 = true) (by rw [h00.1]; exact hg) (fun i hi2 hI => ?_) fun hI => ?_
    · have hget := rangeI_get hi2
      have hi3 := hi2
      rw [rangeI_len] at hi3
      obtain ⟨f1, f2⟩ := hsp ((rangeI lo hi).take i) (zeroF, []) fun _ _ => rfl
      rw [← hst] at f1 f2
      have hsn : st (i + 1) = stepA X x (st i) (lo + (i : Int)) := by
        rw [hst, hst, take_snoc 0 _ i hi2, List.foldl_append, hget]; rfl
      have hv : lo + (i : Int) ≤ hi := by omega
      have hcast : lo + ((i + 1 : Nat) : Int) = lo + (i : Int) + 1 := by omega
      have hrest : X.go (st (i + 1)).2 = false → st (rangeI lo hi).length = st (i + 1) := fun q => by
        have e : rangeI lo hi = (rangeI lo hi).take (i + 1) ++ (rangeI lo hi).drop (i + 1) := (List.take_append_drop _ _).symm
        rw [hst (rangeI lo hi).length, List.take_length]
        conv => lhs; rw [e]
        rw [List.foldl_append, ← hst, hstop q]
      have hstep : stepA X x (st i) (lo + (i : Int)) = walkN X x (pupilsR x.day) (lo + (i : Int)) x.b.rooms.length 0 (st i).1 (st i).2 := by unfold stepA; rw [hI]; rfl
      rw [hstep] at hsn
      have hcg := walk_congr x (pupilsR x.day) (lo + (i : Int)) x.b.rooms.length (st i).1 zeroF f2
      have hpf : (st i).2 ++ ysL x (pupilsR x.day) (lo + (i : Int)) x.b.rooms.length 0 (st i).1 <+: X.ys := by
        rw [hcg]
        have hfa : (st i).2 = ((rangeI lo hi).take i).flatMap Y := by
          rw [f1]
          have := feed_all (go := X.go) (a := ((rangeI lo hi).take i).flatMap Y) (tr := []) (by rw [← f1]; exact hI)
          simpa using this
        rw [hfa, hX]
        have e : rangeI lo hi = (rangeI lo hi).take i ++ (lo + (i : Int)) :: (rangeI lo hi).drop (i + 1) := by
          have := drop_cons 0 (rangeI lo hi) i hi2
          rw [hget] at this
          rw [← this, List.take_append_drop]
        conv => rhs; rw [e]
        rw [List.flatMap_append, List.flatMap_cons, hY2]
        exact (List.prefix_append_right_inj _).2 (List.prefix_append _ _)
      have ih := c106' (lo + (i : Int)) hpu (by omega) x.b.rooms.length 0 (st i).1 (st i).2 (by omega) hI hpf
      rw [← hsn] at ih
      have hwx2 := hwx (pupilsR x.day) (lo + (i : Int)) (st i).1 (st i).2
      rw [← hsn] at hwx2
      rw [hcast]
      have hr2 : inR .i64 (lo + (i : Int) + 1) = true := inR64 (by omega) (by omega)
      generalize hsi : st i = S0 at *
      generalize hsi1 : st (i + 1) = S1 at *
      refine WP.step ?_
      simp only [T104, Go, Ends', v104, Tr.sure, SS, hHi, hv, hwx2]
      repeat' with_reducible first | intro _ | apply And.intro
      all_goals first | exact ih | (simp [hr2, Go, Ends', v104, -List.getD_eq_getElem?_getD, *]; done) | skip
      · have hgf : X.go S1.2 = false := by with_reducible assumption
        right
        rw [hrest hgf]
        exact rfl
      · have hgt : X.go S1.2 = true := by with_reducible assumption
        exact WP.stop (.inl ⟨rfl, hgt⟩)
    · have hno : ¬ lo + ((rangeI lo hi).length : Int) ≤ hi := by rw [rangeI_len]; omega
      generalize hsi : st (rangeI lo hi).length = S0 at *
      refine WP.step ?_
      simp only [T104, Go, Ends', v104, Tr.sure, SS, hHi, hno]
      repeat' with_reducible first | intro _ | apply And.intro
      all_goals exact rfl
  refine w104 X x (WP.step ?_)
  simp only [T104, Go, Ends', v104, Tr.sure, SS, hel']
  repeat' with_reducible first | intro _ | apply And.intro
  all_goals first | exact k83 | exact k64 | exact k105 | exact hmain | exact (by with_reducible exact tel_zero3 _ _) | exact (show (0 : Int) ≤ 0 from Int.le_refl _)
inductive P67
  | e
inductive R67
  | r0
noncomputable def T67 (x : Look) : P67 → Tr P67 R67
  | .e => (.out (.r0))
noncomputable def g67 (x : Look) : P67 → List Item × St
  | .e => bd Try.f18 [lk x] 3
noncomputable def n67 (x : Look) : R67 → Exit × St
  | .r0 => (.ret, ⟨mk 4 [(2, fG 36 [.ref 0 0 0])], [.cells [lk x]], []⟩)
noncomputable def v67 (x : Look) : R67 → V
  | .r0 => fG 36 [rR (lk x)]
theorem s67 (x : Look) : Sm 0 (g67 x) (T67 x) (n67 x)
  | .e => ⟨400, by kernel_rfl⟩
theorem q67 (x : Look) : ∀ r, bodyQ Try.prog Try.f18 (· = v67 x r) (n67 x r).1 (n67 x r).2
  | .r0 => ⟨.inr rfl, by simp [n67], (fG 36 [.ref 0 0 0]), (fG 36 [rR (lk x)]), by kernel_rfl, (.func rfl rfl (by intro j hj; exact absurd hj (by simp)) (by intro j hj; match j, hj with | 0, _ => exact .weak (.ref (n := 1) rfl (Nat.le_refl _) (by intro j hj; match j, hj with | 0, _ => exact .imm rfl)) (VLe.refl _))), rfl⟩
theorem w67 (x : Look) {post : V → Prop} (h : WP Try.prog ⟨none, 0⟩ (T67 x) (Ends' fun r => post (v67 x r)) .e) : PC 18 [lk x] post :=
  PCalls.wq Try.func18 (s67 x) (q67 x) h
theorem c67 (x : Look) : PC 18 [lk x] (· = fG 36 [rR (lk x)]) := by
  refine w67 x (WP.step ?_)
  simp only [T67, Go, Ends', v67, Tr.sure, SS]
  repeat' with_reducible first | intro _ | apply And.intro
end
noncomputable section
def growX (x : Look) (all : Int) (rm : Nat) (l : List Int) : List (List Int) := (rangeI (bdX x all rm).1 (bdX x all rm).2).map fun v => l ++ [v]
def preX (x : Look) (all : Int) : Nat → List (List Int)
  | 0 => [[]]
  | i + 1 => (preX x all i).flatMap (growX x all i)
def extX (x : Look) (all : Int) : Nat → Nat → List Int → List (List Int)
  | 0, _, l => [l]
  | n + 1, rm, l => (rangeI (bdX x all rm).1 (bdX x all rm).2).flatMap fun v => extX x all n (rm + 1) (l ++ [v])
theorem fnL_snoc (l : List Int) (v : Int) : upd (fnL l) l.length v = fnL (l ++ [v]) := by
  funext i
  unfold upd fnL
  by_cases h : i = l.length
  · subst h; simp [List.getD_eq_getElem?_getD]
  · rw [if_neg h]
    rcases Nat.lt_or_ge i l.length with q | q
    · simp only [List.getD_eq_getElem?_getD, List.getElem?_append_left q]
    · rw [List.getD_eq_getElem?_getD, List.getElem?_eq_none q, List.getD_eq_getElem?_getD, List.getElem?_eq_none (by simp; omega)]
theorem leaf_ext (x : Look) (all : Int) : ∀ (n : Nat) (l : List Int), leafN x all n l.length (fnL l) = (extX x all n l.length l).map fnL
  | 0, l => rfl
  | n + 1, l => by
    unfold leafN extX
    rw [List.map_flatMap]
    congr 1
    funext v
    rw [fnL_snoc]
    have := leaf_ext x all n (l ++ [v])
    simpa using this
theorem pre_ext (x : Look) (all : Int) : ∀ k i : Nat, preX x all (i + k) = (preX x all i).flatMap (extX x all k i)
  | 0, i => by simp [extX]
  | k + 1, i => by
    rw [show i + (k + 1) = (i + 1) + k by omega, pre_ext x all k (i + 1), preX, List.flatMap_assoc]
    congr 1
    funext l
    unfold growX
    rw [List.flatMap_map]; rfl
theorem leaf_pre (x : Look) (all : Int) (n : Nat) : leafN x all n 0 zeroF = (preX x all n).map fnL := by
  have h := leaf_ext x all n []
  have h2 := pre_ext x all n 0
  rw [Nat.zero_add, show preX x all 0 = [[]] from rfl] at h2
  have hz : fnL [] = zeroF := funext fun i => by simp [fnL, zeroF]
  rw [hz] at h
  rw [h2, List.flatMap_cons, List.flatMap_nil, List.append_nil]; exact h
theorem ign_look (b : Book) (d bit : Int) : ignX (lookOf b d) bit = false := by
  unfold ignX lookOf; simp
theorem bdX_look {b : Book} {d : Int} (all : Int) (rm : Nat) : bdX (lookOf b d) all rm = ((spanAt b (dayOf b d) all [] rm).lo, (spanAt b (dayOf b d) all [] rm).hi) := by
  unfold bdX boundR
  rw [ign_look]
  unfold spanAt between
  rw [if_neg (by decide), if_neg (by simp [hasN])]
  simp only [cntX, lookOf, Int.toNat_natCast, Int.add_zero]
theorem pre_look (b : Book) (d all : Int) : ∀ i, preX (lookOf b d) all i = roomsN b (dayOf b d) all [] i
  | 0 => rfl
  | i + 1 => by
    unfold preX roomsN
    rw [pre_look b d all i]
    congr 1
    funext l
    unfold growX growL
    rw [bdX_look]
def stoodL (b : Book) (d : Int) : List (Int × List Int) := (rangeI (firstN b d) (doorS b d).hi).flatMap fun n => (inRoomsR b d n []).map fun L => (n - pupilsD b d, L)
theorem stood_look (b : Book) (d : Int) : stoodR (lookOf b d) = (stoodL b d).map fun p => (p.1, fnL p.2) := by
  have hb : boundR (lookOf b d) 0 60 none = ((doorS b d).lo, (doorS b d).hi) := by
    unfold boundR
    rw [ign_look]
    unfold doorS between
    simp only [cntX, lookOf, Int.add_zero, Bool.false_eq_true, if_false]
  unfold stoodR stoodL
  rw [hb, List.map_flatMap]
  show (rangeI (firstN b d) (doorS b d).hi).flatMap _ = _
  congr 1
  funext n
  rw [leaf_pre, pre_look, List.map_map, List.map_map]; rfl
theorem ysX_look (b : Book) (d : Int) : ysX (lookOf b d) = (stoodL b d).map fun p => yV p.1 (fnL p.2) := by
  unfold ysX; rw [stood_look, List.map_map]; rfl
theorem stood_in {b : Book} {d : Int} (h : OkBook b) (hd : OkDay b (dayOf b d)) : ∀ p ∈ stoodL b d, (0 ≤ p.1 ∧ p.1 ≤ 60) ∧ p.2.length = b.rooms.length ∧ ∀ n ∈ p.2, 0 ≤ n ∧ n ≤ 60 := fun p hp => by
  simp only [stoodL, List.mem_flatMap, List.mem_map, mem_rangeI] at hp
  obtain ⟨n, hn, L, hL, rfl⟩ := hp
  have h1 := inRooms_in h hd n [] L hL
  have h2 := doorS_in hd
  have h3 := pupils_in hd
  have h4 : pupilsD b d ≤ firstN b d := by unfold firstN; omega
  exact ⟨⟨by simp only; omega, by simp only; omega⟩, h1⟩
def atP (b : Book) (d : Int) (p : Int × List Int) : List Truth := agreeAt b d (p.1 + pupilsD b d) p.2
theorem explain_all (b : Book) (d : Int) : (stoodL b d).flatMap (atP b d) = agreeD b d := by
  unfold stoodL agreeD agreeN
  rw [List.flatMap_assoc]
  congr 1
  funext n
  rw [List.flatMap_map]
  congr 1
  funext L
  unfold atP
  simp only [Int.sub_add_cancel]
theorem okX_look {b : Book} {d : Int} (h : askedR b d = 0) : OkX (lookOf b d) := ⟨lookOf_ok h, ⟨Int.le_refl _, by show (0 : Int) < 32; decide⟩, ⟨Int.le_refl _, by show (0 : Int) ≤ 60; decide⟩⟩
theorem AWP.forget {P : Program} {ro : Env} {c : Code} {S : St} {t : List V} {Q : Exit → St → Prop} (hl : t.length = S.t.length) (ht : ∀ j, VLe (S.t.getD j uU) (t.getD j uU)) (h : AWP P ro c ⟨t, S.h, S.d⟩ Q) : AWP P ro c S Q :=
  fun β G K a w r => h β G K a w ⟨r.h, by rw [r.size]; exact hl.symm, fun j => ht j _ _ _ (r.tmp j), r.marks, r.mark⟩
def whoT (t : Truth) : Who := ⟨t.adults, t.children, fnL t.rooms⟩
def yT (t : Truth) : V := .tuple [.agg (tWho.cells (whoT t))]
def asgOf : Code → Code
  | .rangeFunc _ _ a _ => a
  | _ => .skip
def bdyOf : Code → Code
  | .rangeFunc _ _ _ b => b
  | _ => .skip
inductive P110a
  | e
inductive R110a
  | r0 (r0 : List V) (r1 : Int) (r2 : Int) (r3 : Nat → Int) (r4 : Int)
noncomputable def T110a (X : Ext) (tr : List V) (b : Book) (d : Int) (fe : Int) (hf : Int) (own : Int) (L : List Int) : P110a → Tr P110a R110a
  | .e => (.out (.r0 tr fe hf (fnL L) own))
noncomputable def g110a (X : Ext) (tr : List V) (b : Book) (d : Int) (fe : Int) (hf : Int) (own : Int) (L : List Int) : P110a → List Item × St
  | .e => ([.code (asgOf (rangeOf Try.f64))], ⟨[uU, rR (lk (lookOf b d)), .ref 1 0 0, .ref 2 0 0, uU, .ref 3 0 0, uU, uU, uU, uU, uU, uU, uU, uU, uU, uU, uU, uU, uU, uU, uU, uU, iI own, .arr 1 3 (rowsFn tint (fnL L)), uU, uU, uU, uU, uU, uU, uU, uU, uU, uU, uU, uU, uU, uU, uU, uU, uU, uU, uU, uU, uU, uU, uU, uU, uU, uU, uU, uU, uU, uU, uU, uU, uU, uU, uU, uU, uU, uU, uU, uU, uU, uU, uU], [.ext X tr, .cells [.yld 0], .cells [iI fe], .cells [iI hf]], []⟩)
noncomputable def n110a (X : Ext) (tr : List V) (b : Book) (d : Int) (fe : Int) (hf : Int) (own : Int) (L : List Int) : R110a → Exit × St
  | .r0 r0 r1 r2 r3 r4 => (.normal, ⟨mk 67 [(1, rR (lk (lookOf b d))), (2, .ref 1 0 0), (3, .ref 2 0 0), (5, .ref 3 0 0), (6, iI r4), (7, .ref 4 0 0)], [.ext X r0, .cells [.yld 0], .cells [iI r1], .cells [iI r2], .rows 71 1 3 (rowsFn tint r3)], []⟩)
theorem s110a (X : Ext) (tr : List V) (b : Book) (d : Int) (fe : Int) (hf : Int) (own : Int) (L : List Int) : Sm 4 (g110a X tr b d fe hf own L) (T110a X tr b d fe hf own L) (n110a X tr b d fe hf own L)
  | .e => ⟨400, by kernel_rfl⟩
inductive P110b
  | e
inductive R110b
  | r0 (r0 : List V) (r1 : Int) (r2 : Int)
  | r1 (r0 : List V) (r1 : Int) (r2 : Int)
noncomputable def T110b (X : Ext) (tr : List V) (b : Book) (d : Int) (fe : Int) (hf : Int) (own : Int) (L : List Int) : P110b → Tr P110b R110b
  | .e => let c4 := lookOf b d; let c1 := ((c4.day.taken - fe) - (extraR c4.b L)) - (own * hf); let c2 : List V := [.agg [iI (c1.tdiv hf), iI (own - (c1.tdiv hf)), iI ((fnL L) 0), iI ((fnL L) 1), iI ((fnL L) 2)]]; let c3 := decide (hf ≠ 0) && inR .i64 (c1.tdiv hf); let c5 : Tr P110b R110b := .out (.r0 tr fe hf); let c6 := tr ++ [V.tuple c2]; (.front [(9, 19, [lk c4, .arr 1 3 (rowsFn tint (fnL L))], iI (extraR c4.b L))] [] ((true && (true && (true && (true && (true && (true && ((inR .i64 (c4.day.taken - fe)) && (true && (true && (true && ((inR .i64 ((c4.day.taken - fe) - (extraR c4.b L))) && (true && (true && ((inR .i64 (own * hf)) && ((inR .i64 c1) && true))))))))))))))) && true) true (.br (decide (c1 < (0 : Int))) (.lit true (.lit true c5)) (.need (decide (hf ≠ 0)) (.br ((c1.tmod hf) != (0 : Int)) (.lit true c5) (.need c3 (.br (decide ((c1.tdiv hf) > own)) c5 (.front [] [] ((true && (true && (true && (c3 && (true && (true && (true && (c3 && ((inR .i64 (own - (c1.tdiv hf))) && (true && (true && true))))))))))) && true) true (.yld X tr c2 c2 true (.br (!(X.go c6)) (.out (.r1 c6 fe hf)) (.out (.r0 c6 fe hf)))))))))))
noncomputable def g110b (X : Ext) (tr : List V) (b : Book) (d : Int) (fe : Int) (hf : Int) (own : Int) (L : List Int) : P110b → List Item × St
  | .e => ([.code (bdyOf (rangeOf Try.f64))], ⟨[uU, rR (lk (lookOf b d)), .ref 1 0 0, .ref 2 0 0, uU, .ref 3 0 0, iI own, .ref 4 0 0, uU, uU, uU, uU, uU, uU, uU, uU, uU, uU, uU, uU, uU, uU, uU, uU, uU, uU, uU, uU, uU, uU, uU, uU, uU, uU, uU, uU, uU, uU, uU, uU, uU, uU, uU, uU, uU, uU, uU, uU, uU, uU, uU, uU, uU, uU, uU, uU, uU, uU, uU, uU, uU, uU, uU, uU, uU, uU, uU], [.ext X tr, .cells [.yld 0], .cells [iI fe], .cells [iI hf], .rows 71 1 3 (rowsFn tint (fnL L))], []⟩)
noncomputable def n110b (X : Ext) (tr : List V) (b : Book) (d : Int) (fe : Int) (hf : Int) (own : Int) (L : List Int) : R110b → Exit × St
  | .r0 r0 r1 r2 => (.normal, ⟨mk 67 [], [.ext X r0, .cells [.yld 0], .cells [iI r1], .cells [iI r2]], []⟩)
  | .r1 r0 r1 r2 => (.ret, ⟨mk 67 [], [.ext X r0, .cells [.yld 0], .cells [iI r1], .cells [iI r2]], []⟩)
theorem s110b (X : Ext) (tr : List V) (b : Book) (d : Int) (fe : Int) (hf : Int) (own : Int) (L : List Int) : Sm 4 (g110b X tr b d fe hf own L) (T110b X tr b d fe hf own L) (n110b X tr b d fe hf own L)
  | .e => ⟨400, by kernel_rfl⟩
def ysE (b : Book) (d : Int) : List V := (agreeD b d).map yT
def trE (X : Ext) (b : Book) (d : Int) (k : Nat) : List V := feed X.go [] ((((stoodL b d).take k).flatMap (atP b d)).map yT)
abbrev HE (X : Ext) (b : Book) (d : Int) (k : Nat) : List Blk := [.ext X (trE X b d k), .cells [.yld 0], .cells [iI (feesD b d)], .cells [iI (b.price.tdiv 2)]]
theorem trE_succ (X : Ext) {b : Book} {d : Int} {k : Nat} {p : Int × List Int} (hk : (stoodL b d)[k]? = some p) : trE X b d (k + 1) = feed X.go (trE X b d k) ((atP b d p).map yT) := by
  obtain ⟨hl, he⟩ := List.getElem?_eq_some_iff.1 hk
  unfold trE
  rw [flat_snoc (atP b d) (0, []) _ k hl, List.map_append, feed_app]
  congr 2
  rw [List.getD_eq_getElem?_getD, hk]; rfl
theorem trE_pre (X : Ext) {b : Book} {d : Int} {k : Nat} {p : Int × List Int} (hk : (stoodL b d)[k]? = some p) (hg : X.go (trE X b d k) = true) {t : Truth} (ht : atP b d p = [t]) : trE X b d k ++ [yT t] <+: ysE b d := by
  have h1 : trE X b d k = (((stoodL b d).take k).flatMap (atP b d)).map yT := by
    have := feed_all (go := X.go) (tr := []) hg
    unfold trE; simpa using this
  obtain ⟨hl, he⟩ := List.getElem?_eq_some_iff.1 hk
  have e : stoodL b d = (stoodL b d).take k ++ p :: (stoodL b d).drop (k + 1) := by
    have := drop_cons (0, []) (stoodL b d) k hl
    rw [List.getD_eq_getElem?_getD, hk, Option.getD_some] at this
    rw [← this, List.take_append_drop]
  rw [h1]
  unfold ysE
  rw [← explain_all]
  conv => rhs; rw [e]
  rw [List.flatMap_append, List.flatMap_cons, ht, List.map_append, List.map_append]
  exact (List.prefix_append_right_inj _).2 ⟨_, rfl⟩
set_option maxHeartbeats 4000000 in
theorem body110 (X : Ext) (hY : YSpec Try.prog X) (b : Book) (d : Int) (ha : askedR b d = 0) (hX : X.ys = ysE b d) (lid k : Nat) (p : Int × List Int) (hk : (stoodL b d)[k]? = some p) (hg : X.go (trE X b d k) = true) :
    AWP Try.prog ⟨some lid, 4⟩ (bdyOf (rangeOf Try.f64)) (g110b X (trE X b d k) b d (feesD b d) (b.price.tdiv 2) p.1 p.2 .e).2 fun e S2 => e = (bif X.go (trE X b d (k + 1)) then .normal else .ret) ∧ S2.h = HE X b d (k + 1) := by
  obtain ⟨own, L⟩ := p
  obtain ⟨h, hd1, hd2, hday⟩ := asked_ok ha
  obtain ⟨hown, hLl, hLn⟩ := stood_in h hday _ (List.mem_of_getElem? hk)
  simp only at hown hLl hLn
  have hsu := trE_succ X hk
  have hpre := fun t => trE_pre X hk hg (t := t)
  generalize trE X b d k = tr at *
  have hp := half_in h
  have hne : b.price.tdiv 2 ≠ 0 := by omega
  have k68 := c68 (lookOf b d) L h hLn hLl
  have hex := extraR_in h hLl hLn
  have hfe := feesD_in h hday
  have hta := hday.taken
  have hmul := half_mul h hown
  have hcm : own * b.price.tdiv 2 = b.price.tdiv 2 * own := Int.mul_comm _ _
  have htk : (lookOf b d).day.taken = (dayOf b d).taken := rfl
  have hbk : (lookOf b d).b = b := rfl
  have hat : atP b d (own, L) = if 0 ≤ leftR b d (own + pupilsD b d) L ∧ (leftR b d (own + pupilsD b d) L).tmod (b.price.tdiv 2) = 0 ∧ (leftR b d (own + pupilsD b d) L).tdiv (b.price.tdiv 2) ≤ own then [⟨(leftR b d (own + pupilsD b d) L).tdiv (b.price.tdiv 2), own - (leftR b d (own + pupilsD b d) L).tdiv (b.price.tdiv 2), L⟩] else [] := by
    unfold atP agreeAt; simp only [Int.add_sub_cancel]
  have hle : (dayOf b d).taken - feesD b d - extraR b L - b.price.tdiv 2 * own = leftR b d (own + pupilsD b d) L := by unfold leftR; rw [Int.add_sub_cancel]
  have q1 : inR .i64 ((dayOf b d).taken - feesD b d) = true := inR64 (by omega) (by omega)
  have q2 : inR .i64 ((dayOf b d).taken - feesD b d - extraR b L) = true := inR64 (by omega) (by omega)
  have q3 : inR .i64 (b.price.tdiv 2 * own) = true := inR64 (by omega) (by omega)
  have q5 : inR .i64 (leftR b d (own + pupilsD b d) L) = true := inR64 (by omega) (by omega)
  have hlt : leftR b d (own + pupilsD b d) L ≤ 10000 := by omega
  generalize leftR b d (own + pupilsD b d) L = left at *
  have hq : 0 ≤ left → 0 ≤ left.tdiv (b.price.tdiv 2) ∧ left.tdiv (b.price.tdiv 2) ≤ 10000 := fun h0 => by
    rw [Int.tdiv_eq_ediv_of_nonneg h0]
    exact ⟨Int.ediv_nonneg h0 (by omega), Int.le_trans (Int.ediv_le_self _ h0) (by omega)⟩
  have q6 : 0 ≤ left → inR .i64 (left.tdiv (b.price.tdiv 2)) = true := fun h0 => inR64 (by have := hq h0; omega) (by have := hq h0; omega)
  have q7 : 0 ≤ left → inR .i64 (own - left.tdiv (b.price.tdiv 2)) = true := fun h0 => inR64 (by have := hq h0; omega) (by have := hq h0; omega)
  refine AWP.wp mx (T110b X tr b d (feesD b d) (b.price.tdiv 2) own L) (g110b X tr b d (feesD b d) (b.price.tdiv 2) own L) (n110b X tr b d (feesD b d) (b.price.tdiv 2) own L) .e rfl (s110b X tr b d (feesD b d) (b.price.tdiv 2) own L)
    (post := fun r => (r = .r0 (trE X b d (k + 1)) (feesD b d) (b.price.tdiv 2) ∧ X.go (trE X b d (k + 1)) = true) ∨ (r = .r1 (trE X b d (k + 1)) (feesD b d) (b.price.tdiv 2) ∧ X.go (trE X b d (k + 1)) = false)) ?_ (fun r hr => ?_)
  case refine_2 =>
    rcases hr with ⟨rfl, hgo⟩ | ⟨rfl, hgo⟩ <;> rw [hgo] <;> exact ⟨rfl, rfl⟩
  rw [hsu]
  by_cases hc : 0 ≤ left ∧ left.tmod (b.price.tdiv 2) = 0 ∧ left.tdiv (b.price.tdiv 2) ≤ own
  · rw [if_pos hc] at hat
    have hpr := hpre _ hat
    obtain ⟨a1, a2, a3⟩ := hc
    have q6 := q6 a1
    have q7 := q7 a1
    rw [hat]
    have hf1 : feed X.go tr ([(⟨left.tdiv (b.price.tdiv 2), own - left.tdiv (b.price.tdiv 2), L⟩ : Truth)].map yT) = tr ++ [yT ⟨left.tdiv (b.price.tdiv 2), own - left.tdiv (b.price.tdiv 2), L⟩] := feed_one hg _
    rw [hf1]
    rw [← hX] at hpr
    have hyt : yT ⟨left.tdiv (b.price.tdiv 2), own - left.tdiv (b.price.tdiv 2), L⟩ = V.tuple [.agg [iI (left.tdiv (b.price.tdiv 2)), iI (own - left.tdiv (b.price.tdiv 2)), iI (fnL L 0), iI (fnL L 1), iI (fnL L 2)]] := rfl
    rw [hyt] at hpr ⊢
    clear hyt hsu hat
    have b1 : ¬ left < 0 := by omega
    have b3 : ¬ own < left.tdiv (b.price.tdiv 2) := by omega
    refine WP.step ?_
    simp only [T110b, Go, Ends', Tr.sure, SS, htk, hbk, hcm, hle, b1, a2, b3]
    repeat' with_reducible first | intro _ | apply And.intro
    all_goals first | exact k68 | exact hY | exact hpr | exact (by with_reducible exact VLe.refl _) | (simp [hg, q1, q2, q3, q5, q6, q7, hne, Go, Ends', -List.getD_eq_getElem?_getD, *]; done)
  · rw [if_neg hc] at hat
    rw [hat]
    have hf0 : feed X.go tr ([].map yT) = tr := rfl
    rw [hf0]
    clear hsu hat hpre
    by_cases a1 : 0 ≤ left
    · have q6 := q6 a1
      have b1 : ¬ left < 0 := by omega
      by_cases a2 : left.tmod (b.price.tdiv 2) = 0
      · have a3 : ¬ left.tdiv (b.price.tdiv 2) ≤ own := fun q => hc ⟨a1, a2, q⟩
        have b3 : own < left.tdiv (b.price.tdiv 2) := by omega
        refine WP.step ?_
        simp only [T110b, Go, Ends', Tr.sure, SS, htk, hbk, hcm, hle, b1, a2, b3]
        repeat' with_reducible first | intro _ | apply And.intro
        all_goals first | exact k68 | (simp [hg, q1, q2, q3, q5, q6, hne, Go, Ends', -List.getD_eq_getElem?_getD, *]; done)
      · refine WP.step ?_
        simp only [T110b, Go, Ends', Tr.sure, SS, htk, hbk, hcm, hle, b1, a2]
        repeat' with_reducible first | intro _ | apply And.intro
        all_goals first | exact k68 | (simp [hg, q1, q2, q3, q5, q6, hne, Go, Ends', -List.getD_eq_getElem?_getD, *]; done)
    · have b1 : left < 0 := by omega
      refine WP.step ?_
      simp only [T110b, Go, Ends', Tr.sure, SS, htk, hbk, hcm, hle, b1]
      repeat' with_reducible first | intro _ | apply And.intro
      all_goals first | exact k68 | (simp [hg, q1, q2, q3, q5, hne, Go, Ends', -List.getD_eq_getElem?_getD, *]; done)
end
noncomputable section
inductive P110
  | e
inductive R110
  | r0 (r0 : List V)
  | r1 (r0 : List V)
noncomputable def T110 (X : Ext) (b : Book) (d : Int) : P110 → Tr P110 R110
  | .e => let c4 := lookOf b d; let c1 : List V := [uU, rR (lk c4), .ref 1 0 0, .ref 2 0 0, uU, .ref 3 0 0, uU, uU, uU, uU, uU, uU, uU, uU, uU, uU, uU, uU, uU, uU, uU, fG 36 [rR (lk c4)], uU, uU, uU, uU, uU, uU, uU, uU, uU, uU, uU, uU, uU, uU, uU, uU, uU, uU, uU, uU, uU, uU, uU, uU, uU, uU, uU, uU, uU, uU, uU, uU, uU, uU, uU, uU, uU, uU, uU, uU, uU, uU, uU, uU, uU]; let c3 : List Blk := [.ext X ([]), .cells [.yld 0], .cells [iI (feesR c4.b c4.day)], .cells [iI ((c4.b.price).tdiv (2 : Int))]]; let c5 := feed X.go [] (ysE b d); let c2 : List Blk := [.ext X c5, .cells [.yld 0], .cells [iI (feesR c4.b c4.day)], .cells [iI ((c4.b.price).tdiv (2 : Int))], .obj (.deferred (some []))]; (.call 17 [lk c4] (.tuple [iI (feesR c4.b c4.day), iI (pupilsR c4.day)]) true true (.need (decide ((2 : Int) ≠ 0) && inR .i64 ((c4.b.price).tdiv (2 : Int))) (.call 18 [lk c4] (fG 36 [rR (lk c4)]) true true (.wait 1 (.drop ⟨[uU, .nil, .nil, .nil, uU, .nil, uU, uU, uU, uU, uU, uU, uU, uU, uU, uU, uU, uU, uU, uU, uU, .nil, uU, uU, uU, uU, uU, uU, uU, uU, uU, uU, uU, uU, uU, uU, uU, uU, uU, uU, uU, uU, uU, uU, uU, uU, uU, uU, uU, uU, uU, uU, uU, uU, uU, uU, uU, uU, uU, uU, uU, uU, uU, uU, uU, uU, uU], [.void, .void, .void, .void], []⟩ (.cas (X.go c5) (.over (rangeOf Try.f64) ⟨c1, c3, []⟩ .normal ⟨c1, c2, [4]⟩ true (.out (.r0 c5))) (.over (rangeOf Try.f64) ⟨c1, c3, []⟩ .ret ⟨c1, c2, [4]⟩ true (.out (.r1 c5)))))))))
noncomputable def g110 (X : Ext) (b : Book) (d : Int) : P110 → List Item × St
  | .e => ([.code (Try.f64.body.getD .skip)], ⟨[.yld 0, rR (lk (lookOf b d))] ++ List.replicate 65 uU, [.ext X ([])], []⟩)
noncomputable def n110 (X : Ext) (b : Book) (d : Int) : R110 → Exit × St
  | .r0 r0 => (.normal, ⟨mk 67 [], [.ext X r0, .gone, .gone, .gone, .obj (.deferred (some []))], [4]⟩)
  | .r1 r0 => (.ret, ⟨mk 67 [], [.ext X r0, .gone, .gone, .gone, .obj (.deferred (some []))], [4]⟩)
theorem s110 (X : Ext) (b : Book) (d : Int) : Sm 1 (g110 X b d) (T110 X b d) (n110 X b d)
  | .e => ⟨400, by kernel_rfl⟩
noncomputable def hh110 (X : Ext) (b : Book) (d : Int) : R110 → List Blk
  | .r0 r0 => [.ext X r0]
  | .r1 r0 => [.ext X r0]
noncomputable def v110 (X : Ext) (b : Book) (d : Int) : R110 → V
  | .r0 r0 => .tuple []
  | .r1 r0 => .tuple []
theorem q110 (X : Ext) (b : Book) (d : Int) : ∀ r, ((n110 X b d r).1 = .normal ∨ (n110 X b d r).1 = .ret) ∧ (n110 X b d r).2.d.Nodup ∧ (shut (n110 X b d r).2.d (n110 X b d r).2.h).take (hh110 X b d r).length = (hh110 X b d r) ∧ (hh110 X b d r).all (Blk.under (hh110 X b d r).length) = true ∧ (v110 X b d r).under (hh110 X b d r).length = true ∧ resultV Try.prog Try.f64 { (n110 X b d r).2 with h := shut (n110 X b d r).2.d (n110 X b d r).2.h } = some (v110 X b d r)
  | .r0 r0 => ⟨.inl rfl, by simp [n110], rfl, by rfl, rfl, by kernel_rfl⟩
  | .r1 r0 => ⟨.inr rfl, by simp [n110], rfl, by rfl, rfl, by kernel_rfl⟩
theorem w110 (X : Ext) (b : Book) (d : Int) {V0 : V} {h' : List Blk} (hl : 1 ≤ h'.length) (h : WP Try.prog ⟨none, 1⟩ (T110 X b d) (Ends' fun r => v110 X b d r = V0 ∧ hh110 X b d r = h') .e) : HCalls Try.prog 64 [.yld 0, rR (lk (lookOf b d))] V0 [.ext X ([])] h' :=
  HCalls.wpD mx Try.func64 (by kernel_rfl) (by kernel_rfl) hl (T110 X b d) (g110 X b d) (n110 X b d) .e rfl (s110 X b d) h fun r hr => by obtain ⟨e1, e2⟩ := hr; subst e1; subst e2; exact q110 X b d r
theorem stopK_spec (go : Nat → Bool) : ∀ n k, ∃ m, stopK go k n = k + m ∧ m ≤ n ∧ (m = n ∨ go (k + m) = false)
  | 0, k => ⟨0, rfl, Nat.le_refl _, .inl rfl⟩
  | n + 1, k => by
    cases h : go k with
    | false => exact ⟨0, by simp [stopK, h], Nat.zero_le _, .inr h⟩
    | true =>
      obtain ⟨m, h1, h2, h3⟩ := stopK_spec go n (k + 1)
      refine ⟨m + 1, by simp only [stopK, h, cond_true]; omega, by omega, ?_⟩
      rcases h3 with h3 | h3
      · exact .inl (by omega)
      · exact .inr (by rw [show k + (m + 1) = k + 1 + m by omega]; exact h3)
theorem trE_end (X : Ext) (b : Book) (d : Int) : trE X b d (stopK (fun k => X.go (trE X b d k)) 0 (stoodL b d).length) = feed X.go [] (ysE b d) := by
  obtain ⟨m, h1, h2, h3⟩ := stopK_spec (fun k => X.go (trE X b d k)) (stoodL b d).length 0
  rw [Nat.zero_add] at h1 h3
  rw [h1]
  have hall : ysE b d = (((stoodL b d).take m).flatMap (atP b d)).map yT ++ (((stoodL b d).drop m).flatMap (atP b d)).map yT := by
    unfold ysE
    rw [← explain_all, ← List.map_append, ← List.flatMap_append, List.take_append_drop]
  rcases h3 with h3 | h3
  · rw [h3] at hall ⊢
    rw [List.drop_length] at hall
    rw [hall]; simp [trE]
  · rw [hall, feed_app]
    exact (feed_stop (show X.go (trE X b d m) = false from h3) _).symm
theorem extAs_HE (X : Ext) (b : Book) (d : Int) {h0 : List Blk} {tr0 : List V} (h : h0[0]? = some (.ext X tr0)) (tr : List V) (rest : List Blk) (hr : noExt rest = true) : extAs h0 (.ext X tr :: rest) := fun i Y tr' hi => by
  cases i with
  | zero => cases hi; exact ⟨tr0, h⟩
  | succ i => exact absurd (show rest[i]? = some (.ext Y tr') from hi) (noExt_not hr)
abbrev t110 (b : Book) (d : Int) : List V := [uU, rR (lk (lookOf b d)), .ref 1 0 0, .ref 2 0 0, uU, .ref 3 0 0] ++ List.replicate 15 uU ++ [fG 36 [rR (lk (lookOf b d))]] ++ List.replicate 45 uU
theorem forget_set (t : List V) (i : Nat) (j : Nat) : VLe (t.getD j uU) ((t.set i uU).getD j uU) := by
  by_cases e : i = j
  · subst e
    rcases Nat.lt_or_ge i t.length with q | q
    · rw [List.getD_eq_getElem?_getD (l := t.set i V.undef), List.getElem?_set_self q]; exact VLe.undef _
    · rw [List.getD_eq_getElem?_getD (l := t.set i V.undef), List.getElem?_eq_none (by simpa using q)]; exact VLe.undef _
  · rw [List.getD_eq_getElem?_getD (l := t.set i V.undef), List.getElem?_set_ne e, ← List.getD_eq_getElem?_getD]; exact VLe.refl _
set_option maxHeartbeats 4000000 in
theorem range110 (X : Ext) (hY : YSpec Try.prog X) (b : Book) (d : Int) (ha : askedR b d = 0) (hX : X.ys = ysE b d) (hg : X.go [] = true) :
    AWP Try.prog ⟨none, 1⟩ (rangeOf Try.f64) ⟨t110 b d, [.ext X [], .cells [.yld 0], .cells [iI (feesD b d)], .cells [iI (b.price.tdiv 2)]], []⟩
      (fun e T => e = (bif X.go (feed X.go [] (ysE b d)) then .normal else .ret) ∧ T = ⟨t110 b d, [.ext X (feed X.go [] (ysE b d)), .cells [.yld 0], .cells [iI (feesD b d)], .cells [iI (b.price.tdiv 2)], .obj (.deferred (some []))], [4]⟩) := by
  have e : rangeOf Try.f64 = .rangeFunc (.tmp 21) #[22, 23] (asgOf (rangeOf Try.f64)) (bdyOf (rangeOf Try.f64)) := by kernel_rfl
  have hend := trE_end X b d
  have hlen : (ysX (lookOf b d)).length = (stoodL b d).length := by rw [ysX_look, List.length_map]
  rw [e]
  refine AWP.range (go := fun k => X.go (trE X b d k)) (H := HE X b d) (jx := .ret) (jc := .ret) (f := 36) (ys := ysX (lookOf b d)) (caps := [rR (lk (lookOf b d))])
    rfl rfl (PCalls.enters Try.func36 (c := Try.f36.body.getD .skip) (by kernel_rfl) (by kernel_rfl)) (c104 (lookOf b d) (okX_look ha)) rfl (fun _ => rfl) (fun k => extAs_HE X b d rfl _ _ rfl) (fun k j hj => absurd hj (List.not_mem_nil)) hg rfl (fun lid k us hk hgk => ?_) ?_
  · obtain ⟨p, hp, hy⟩ : ∃ p, (stoodL b d)[k]? = some p ∧ yV p.1 (fnL p.2) = .tuple us := by
      rw [ysX_look, List.getElem?_map] at hk
      cases hf : (stoodL b d)[k]? with
      | none => rw [hf] at hk; cases hk
      | some f => rw [hf] at hk; exact ⟨f, rfl, Option.some.inj hk⟩
    obtain rfl : us = [iI p.1, .arr 1 3 (rowsFn tint (fnL p.2))] := by unfold yV at hy; cases hy; rfl
    refine ⟨rfl, ?_⟩
    refine AWP.forget (t := (setPs [22, 23] [iI p.1, .arr 1 3 (rowsFn tint (fnL p.2))] (t110 b d)).set 21 uU) (by simp) (forget_set _ 21) ?_
    refine AWP.wp mx (T110a X (trE X b d k) b d (feesD b d) (b.price.tdiv 2) p.1 p.2) (g110a X (trE X b d k) b d (feesD b d) (b.price.tdiv 2) p.1 p.2) (n110a X (trE X b d k) b d (feesD b d) (b.price.tdiv 2) p.1 p.2) .e rfl (s110a X (trE X b d k) b d (feesD b d) (b.price.tdiv 2) p.1 p.2)
      (post := fun r => r = .r0 (trE X b d k) (feesD b d) (b.price.tdiv 2) (fnL p.2) p.1) ?_ (fun r hr => ?_)
    · refine WP.step ?_
      simp only [T110a, Go, Ends', Tr.sure, SS]
      repeat' with_reducible first | intro _ | apply And.intro
    · subst hr
      exact ⟨rfl, extAs_HE X b d rfl _ _ rfl, body110 X hY b d ha hX lid k p hp hgk⟩
  · rw [hlen, hend]
    refine ⟨rfl, ?_⟩
    unfold HE
    rw [hend]; rfl
theorem c110 (b : Book) (d : Int) (ha : askedR b d = 0) : Iter Try.prog 64 [rR (lk (lookOf b d))] (ysE b d) := by
  intro X hX hY hg
  refine ⟨.tuple [], ?_⟩
  have hk := lookOf_ok ha
  have hp := half_in hk.b
  have k64 := c64 (lookOf b d) hk
  have k67 := c67 (lookOf b d)
  have r1 : inR .i64 (b.price.tdiv 2) = true := inR64 (by have : 1 ≤ b.price.tdiv 2 := hp.1; omega) (by have : b.price.tdiv 2 ≤ 30 := hp.2.1; omega)
  have hr := range110 X hY b d ha hX hg
  have r1' : inR .i64 ((lookOf b d).b.price.tdiv 2) = true := r1
  cases hgo : X.go (feed X.go [] (ysE b d)) with
  | true =>
    rw [hgo] at hr
    refine w110 X b d (Nat.le_refl 1) (WP.step ?_)
    simp only [T110, Go, Ends', v110, Tr.sure, SS, hgo]
    repeat' with_reducible first | intro _ | apply And.intro
    all_goals first | exact k64 | exact k67 | exact hr | (simp [r1', Go, Ends', v110, -List.getD_eq_getElem?_getD, *]; done) | skip
    all_goals exact rfl
  | false =>
    rw [hgo] at hr
    refine w110 X b d (Nat.le_refl 1) (WP.step ?_)
    simp only [T110, Go, Ends', v110, Tr.sure, SS, hgo]
    repeat' with_reducible first | intro _ | apply And.intro
    all_goals first | exact k64 | exact k67 | exact hr | (simp [r1', Go, Ends', v110, -List.getD_eq_getElem?_getD, *]; done) | skip
    all_goals exact rfl
inductive P78
  | e
inductive R78
  | r0
noncomputable def T78 (b : Book) (d : Int) : P78 → Tr P78 R78
  | .e => (.out (.r0))
noncomputable def g78 (b : Book) (d : Int) : P78 → List Item × St
  | .e => bd Try.f40 [lk (lookOf b d)] 3
noncomputable def n78 (b : Book) (d : Int) : R78 → Exit × St
  | .r0 => (.ret, ⟨mk 4 [(2, fG 64 [.ref 0 0 0])], [.cells [lk (lookOf b d)]], []⟩)
noncomputable def v78 (b : Book) (d : Int) : R78 → V
  | .r0 => fG 64 [rR (lk (lookOf b d))]
theorem s78 (b : Book) (d : Int) : Sm 0 (g78 b d) (T78 b d) (n78 b d)
  | .e => ⟨400, by kernel_rfl⟩
theorem q78 (b : Book) (d : Int) : ∀ r, bodyQ Try.prog Try.f40 (· = v78 b d r) (n78 b d r).1 (n78 b d r).2
  | .r0 => ⟨.inr rfl, by simp [n78], (fG 64 [.ref 0 0 0]), (fG 64 [rR (lk (lookOf b d))]), by kernel_rfl, (.func rfl rfl (by intro j hj; exact absurd hj (by simp)) (by intro j hj; match j, hj with | 0, _ => exact .weak (.ref (n := 1) rfl (Nat.le_refl _) (by intro j hj; match j, hj with | 0, _ => exact .imm rfl)) (VLe.refl _))), rfl⟩
theorem w78 (b : Book) (d : Int) {post : V → Prop} (h : WP Try.prog ⟨none, 0⟩ (T78 b d) (Ends' fun r => post (v78 b d r)) .e) : PC 40 [lk (lookOf b d)] post :=
  PCalls.wq Try.func40 (s78 b d) (q78 b d) h
theorem c78 (b : Book) (d : Int) : PC 40 [lk (lookOf b d)] (· = fG 64 [rR (lk (lookOf b d))]) := by
  refine w78 b d (WP.step ?_)
  simp only [T78, Go, Ends', v78, Tr.sure, SS]
  repeat' with_reducible first | intro _ | apply And.intro
end
noncomputable section
def regionOf (fn : Func) (id : Nat) : Code := .region id ((regOf id (fn.body.getD .skip)).getD #[]) true
def dep (ops : Array Oper) (i j : Nat) : Bool := match ops[i]? with | some o => o.after.any (fun e => e.on == j && Region.binds .any e) | none => false
theorem dep_ready {ops : Array Oper} {l : Array Bool} {i j : Nat} (hd : dep ops i j = true) (hr : i ∈ Region.ready .any ops l) : l.getD j false = true := by
  unfold dep at hd
  split at hd
  · rename_i o ho
    obtain ⟨e, he, hq⟩ := Array.any_eq_true'.1 hd
    rw [Bool.and_eq_true, beq_iff_eq] at hq
    have := ready_dep hr ho e he hq.2
    rwa [hq.1] at this
  · cases hd
theorem dep_closed {ops : Array Oper} {l : Array Bool} {i j : Nat} (hd : dep ops i j = true) (hc : Closed ops l) (hi : l.getD i false = true) : l.getD j false = true := by
  unfold dep at hd
  split at hd
  · rename_i o ho
    obtain ⟨e, he, hq⟩ := Array.any_eq_true'.1 hd
    rw [Bool.and_eq_true, beq_iff_eq] at hq
    have := hc i hi o ho e he hq.2
    rwa [hq.1] at this
  · cases hd
theorem dep_not {ops : Array Oper} {l : Array Bool} {i j : Nat} (hd : dep ops i j = true) (hc : Closed ops l) (hj : l.getD j false = false) : l.getD i false = false := by
  cases h : l.getD i false with
  | false => rfl
  | true => rw [dep_closed hd hc h] at hj; cases hj
theorem gset {l : Array Bool} {i : Nat} (h : i < l.size) (q : Nat) : (l.setIfInBounds i true).getD q false = if i = q then true else l.getD q false := by
  by_cases e : i = q
  · subst e; simp [h]
  · rw [if_neg e, getD_set_ne false e]
def addS (s : Sp) (n : Int) : Sp := if s.met = 0 then ⟨n, n, 1⟩ else ⟨min s.lo n, max s.hi n, s.met + 1⟩
def o79 : Array Oper := (regOf 3 (Try.f45.body.getD .skip)).getD #[]
abbrev st79 (n : Int) (lo : Int) (hi : Int) (met : Int) (c0 c1 c2 c3 c4 c5 c6 c7 c8 c9 c10 c11 c12 c13 c14 c15 c16 : Bool) : St := ⟨[.ref 0 0 0, iI n, uU, uU, uU, uU, uU, uU, uU, uU, uU, uU, uU, uU, uU, uU, uU, uU, uU, uU, uU, uU, uU, uU, bif c0 then .ref 0 0 0 else uU, bif c1 then .ref 0 0 0 else uU, bif c2 then .ref 0 0 0 else uU, bif c3 then .ref 0 0 0 else uU, bif c4 then .ref 0 0 0 else uU, bif c5 then iI lo else uU, bif c6 then iI n else uU, bif c7 then iI (min lo n) else uU, bif c8 then .ref 0 0 0 else uU, bif c9 then .ref 0 0 0 else uU, bif c10 then .ref 0 0 1 else uU, bif c11 then iI hi else uU, bif c12 then iI n else uU, bif c13 then iI (max hi n) else uU, bif c14 then .ref 0 0 0 else uU, bif c15 then .ref 0 0 0 else uU, uU, uU], [.cells [(bif c16 then iI (min lo n) else iI lo), iI hi, iI met]], []⟩
abbrev fin79 (n : Int) (lo : Int) (hi : Int) (met : Int) : St := ⟨[.ref 0 0 0, iI n, uU, uU, uU, uU, uU, uU, uU, uU, uU, uU, uU, uU, uU, uU, uU, uU, uU, uU, uU, uU, uU, uU, .ref 0 0 0, .ref 0 0 0, .ref 0 0 0, .ref 0 0 0, .ref 0 0 0, iI lo, iI n, iI (min lo n), .ref 0 0 0, .ref 0 0 0, .ref 0 0 1, iI hi, iI n, iI (max hi n), .ref 0 0 0, .ref 0 0 0, .ref 0 0 0, .ref 0 0 1], [.cells [iI (min lo n), iI (max hi n), iI met]], []⟩
theorem sp79_0 (n : Int) (lo : Int) (hi : Int) (met : Int) (c1 c2 c3 c4 c5 c6 c7 c8 c9 c10 c11 c12 c13 c14 c15 c16 : Bool) : AStep Try.prog ⟨none, 1⟩ o79 0 (st79 n lo hi met false c1 c2 c3 c4 c5 c6 c7 c8 c9 c10 c11 c12 c13 c14 c15 c16) (st79 n lo hi met true c1 c2 c3 c4 c5 c6 c7 c8 c9 c10 c11 c12 c13 c14 c15 c16) :=
  AStep.of_ops (AOps.run [0] [] _ (st79 n lo hi met true c1 c2 c3 c4 c5 c6 c7 c8 c9 c10 c11 c12 c13 c14 c15 c16) true (by kernel_rfl) (fun j hj => absurd hj (List.not_mem_nil)) (AOps.nil ⟨rfl, rfl⟩))
theorem sp79_1 (n : Int) (lo : Int) (hi : Int) (met : Int) (c0 c2 c3 c4 c5 c6 c7 c8 c9 c10 c11 c12 c13 c14 c15 c16 : Bool) : AStep Try.prog ⟨none, 1⟩ o79 1 (st79 n lo hi met c0 false c2 c3 c4 c5 c6 c7 c8 c9 c10 c11 c12 c13 c14 c15 c16) (st79 n lo hi met c0 true c2 c3 c4 c5 c6 c7 c8 c9 c10 c11 c12 c13 c14 c15 c16) :=
  AStep.of_ops (AOps.run [1] [] _ (st79 n lo hi met c0 true c2 c3 c4 c5 c6 c7 c8 c9 c10 c11 c12 c13 c14 c15 c16) true (by kernel_rfl) (fun j hj => absurd hj (List.not_mem_nil)) (AOps.nil ⟨rfl, rfl⟩))
theorem sp79_2 (n : Int) (lo : Int) (hi : Int) (met : Int) (c0 c1 c3 c4 c5 c6 c7 c8 c9 c10 c11 c12 c13 c14 c15 c16 : Bool) : AStep Try.prog ⟨none, 1⟩ o79 2 (st79 n lo hi met c0 c1 false c3 c4 c5 c6 c7 c8 c9 c10 c11 c12 c13 c14 c15 c16) (st79 n lo hi met c0 c1 true c3 c4 c5 c6 c7 c8 c9 c10 c11 c12 c13 c14 c15 c16) :=
  AStep.of_ops (AOps.run [2] [] _ (st79 n lo hi met c0 c1 true c3 c4 c5 c6 c7 c8 c9 c10 c11 c12 c13 c14 c15 c16) true (by kernel_rfl) (fun j hj => absurd hj (List.not_mem_nil)) (AOps.nil ⟨rfl, rfl⟩))
theorem sp79_3 (n : Int) (lo : Int) (hi : Int) (met : Int) (c0 c1 c4 c5 c6 c7 c8 c9 c10 c11 c12 c13 c14 c15 c16 : Bool) : AStep Try.prog ⟨none, 1⟩ o79 3 (st79 n lo hi met c0 c1 true false c4 c5 c6 c7 c8 c9 c10 c11 c12 c13 c14 c15 c16) (st79 n lo hi met c0 c1 true true c4 c5 c6 c7 c8 c9 c10 c11 c12 c13 c14 c15 c16) :=
  AStep.of_ops (AOps.run [3] [] _ (st79 n lo hi met c0 c1 true true c4 c5 c6 c7 c8 c9 c10 c11 c12 c13 c14 c15 c16) true (by kernel_rfl) (fun j hj => absurd hj (List.not_mem_nil)) (AOps.nil ⟨rfl, rfl⟩))
theorem sp79_4 (n : Int) (lo : Int) (hi : Int) (met : Int) (c0 c1 c2 c5 c6 c7 c8 c9 c10 c11 c12 c13 c14 c15 c16 : Bool) : AStep Try.prog ⟨none, 1⟩ o79 4 (st79 n lo hi met c0 c1 c2 true false c5 c6 c7 c8 c9 c10 c11 c12 c13 c14 c15 c16) (st79 n lo hi met c0 c1 c2 true true c5 c6 c7 c8 c9 c10 c11 c12 c13 c14 c15 c16) :=
  AStep.of_ops (AOps.run [4] [] _ (st79 n lo hi met c0 c1 c2 true true c5 c6 c7 c8 c9 c10 c11 c12 c13 c14 c15 c16) true (by kernel_rfl) (fun j hj => absurd hj (List.not_mem_nil)) (AOps.nil ⟨rfl, rfl⟩))
theorem sp79_5 (n : Int) (lo : Int) (hi : Int) (met : Int) (c0 c1 c2 c3 c6 c7 c8 c9 c10 c11 c12 c13 c14 c15 : Bool) : AStep Try.prog ⟨none, 1⟩ o79 5 (st79 n lo hi met c0 c1 c2 c3 true false c6 c7 c8 c9 c10 c11 c12 c13 c14 c15 false) (st79 n lo hi met c0 c1 c2 c3 true true c6 c7 c8 c9 c10 c11 c12 c13 c14 c15 false) :=
  AStep.of_ops (AOps.run [5] [] _ (st79 n lo hi met c0 c1 c2 c3 true true c6 c7 c8 c9 c10 c11 c12 c13 c14 c15 false) true (by kernel_rfl) (fun j hj => absurd hj (List.not_mem_nil)) (AOps.nil ⟨rfl, rfl⟩))
theorem sp79_6 (n : Int) (lo : Int) (hi : Int) (met : Int) (c0 c1 c2 c3 c4 c5 c7 c8 c9 c10 c11 c12 c13 c14 c15 c16 : Bool) : AStep Try.prog ⟨none, 1⟩ o79 6 (st79 n lo hi met c0 c1 c2 c3 c4 c5 false c7 c8 c9 c10 c11 c12 c13 c14 c15 c16) (st79 n lo hi met c0 c1 c2 c3 c4 c5 true c7 c8 c9 c10 c11 c12 c13 c14 c15 c16) :=
  AStep.of_ops (AOps.run [6] [] _ (st79 n lo hi met c0 c1 c2 c3 c4 c5 true c7 c8 c9 c10 c11 c12 c13 c14 c15 c16) true (by kernel_rfl) (fun j hj => absurd hj (List.not_mem_nil)) (AOps.nil ⟨rfl, rfl⟩))
theorem sp79_7 (n : Int) (lo : Int) (hi : Int) (met : Int) (c0 c1 c2 c3 c4 c8 c9 c10 c11 c12 c13 c14 c15 c16 : Bool) : AStep Try.prog ⟨none, 1⟩ o79 7 (st79 n lo hi met c0 c1 c2 c3 c4 true true false c8 c9 c10 c11 c12 c13 c14 c15 c16) (st79 n lo hi met c0 c1 c2 c3 c4 true true true c8 c9 c10 c11 c12 c13 c14 c15 c16) :=
  AStep.of_ops (AOps.run [7] [] _ (st79 n lo hi met c0 c1 c2 c3 c4 true true true c8 c9 c10 c11 c12 c13 c14 c15 c16) true (by kernel_rfl) (fun j hj => absurd hj (List.not_mem_nil)) (AOps.nil ⟨rfl, rfl⟩))
theorem sp79_8 (n : Int) (lo : Int) (hi : Int) (met : Int) (c0 c1 c2 c3 c4 c5 c6 c7 c9 c10 c11 c12 c13 c14 c15 c16 : Bool) : AStep Try.prog ⟨none, 1⟩ o79 8 (st79 n lo hi met c0 c1 c2 c3 c4 c5 c6 c7 false c9 c10 c11 c12 c13 c14 c15 c16) (st79 n lo hi met c0 c1 c2 c3 c4 c5 c6 c7 true c9 c10 c11 c12 c13 c14 c15 c16) :=
  AStep.of_ops (AOps.run [8] [] _ (st79 n lo hi met c0 c1 c2 c3 c4 c5 c6 c7 true c9 c10 c11 c12 c13 c14 c15 c16) true (by kernel_rfl) (fun j hj => absurd hj (List.not_mem_nil)) (AOps.nil ⟨rfl, rfl⟩))
theorem sp79_9 (n : Int) (lo : Int) (hi : Int) (met : Int) (c0 c1 c2 c3 c4 c5 c6 c7 c10 c11 c12 c13 c14 c15 c16 : Bool) : AStep Try.prog ⟨none, 1⟩ o79 9 (st79 n lo hi met c0 c1 c2 c3 c4 c5 c6 c7 true false c10 c11 c12 c13 c14 c15 c16) (st79 n lo hi met c0 c1 c2 c3 c4 c5 c6 c7 true true c10 c11 c12 c13 c14 c15 c16) :=
  AStep.of_ops (AOps.run [9] [] _ (st79 n lo hi met c0 c1 c2 c3 c4 c5 c6 c7 true true c10 c11 c12 c13 c14 c15 c16) true (by kernel_rfl) (fun j hj => absurd hj (List.not_mem_nil)) (AOps.nil ⟨rfl, rfl⟩))
theorem sp79_10 (n : Int) (lo : Int) (hi : Int) (met : Int) (c0 c1 c2 c3 c4 c5 c6 c7 c8 c11 c12 c13 c14 c15 c16 : Bool) : AStep Try.prog ⟨none, 1⟩ o79 10 (st79 n lo hi met c0 c1 c2 c3 c4 c5 c6 c7 c8 true false c11 c12 c13 c14 c15 c16) (st79 n lo hi met c0 c1 c2 c3 c4 c5 c6 c7 c8 true true c11 c12 c13 c14 c15 c16) :=
  AStep.of_ops (AOps.run [10] [] _ (st79 n lo hi met c0 c1 c2 c3 c4 c5 c6 c7 c8 true true c11 c12 c13 c14 c15 c16) true (by kernel_rfl) (fun j hj => absurd hj (List.not_mem_nil)) (AOps.nil ⟨rfl, rfl⟩))
theorem sp79_11 (n : Int) (lo : Int) (hi : Int) (met : Int) (c0 c1 c2 c3 c4 c5 c6 c7 c8 c9 c12 c13 c14 c15 c16 : Bool) : AStep Try.prog ⟨none, 1⟩ o79 11 (st79 n lo hi met c0 c1 c2 c3 c4 c5 c6 c7 c8 c9 true false c12 c13 c14 c15 c16) (st79 n lo hi met c0 c1 c2 c3 c4 c5 c6 c7 c8 c9 true true c12 c13 c14 c15 c16) :=
  AStep.of_ops (AOps.run [11] [] _ (st79 n lo hi met c0 c1 c2 c3 c4 c5 c6 c7 c8 c9 true true c12 c13 c14 c15 c16) true (by kernel_rfl) (fun j hj => absurd hj (List.not_mem_nil)) (AOps.nil ⟨rfl, rfl⟩))
theorem sp79_12 (n : Int) (lo : Int) (hi : Int) (met : Int) (c0 c1 c2 c3 c4 c5 c6 c7 c8 c9 c10 c11 c13 c14 c15 c16 : Bool) : AStep Try.prog ⟨none, 1⟩ o79 12 (st79 n lo hi met c0 c1 c2 c3 c4 c5 c6 c7 c8 c9 c10 c11 false c13 c14 c15 c16) (st79 n lo hi met c0 c1 c2 c3 c4 c5 c6 c7 c8 c9 c10 c11 true c13 c14 c15 c16) :=
  AStep.of_ops (AOps.run [12] [] _ (st79 n lo hi met c0 c1 c2 c3 c4 c5 c6 c7 c8 c9 c10 c11 true c13 c14 c15 c16) true (by kernel_rfl) (fun j hj => absurd hj (List.not_mem_nil)) (AOps.nil ⟨rfl, rfl⟩))
theorem sp79_13 (n : Int) (lo : Int) (hi : Int) (met : Int) (c0 c1 c2 c3 c4 c5 c6 c7 c8 c9 c10 c14 c15 c16 : Bool) : AStep Try.prog ⟨none, 1⟩ o79 13 (st79 n lo hi met c0 c1 c2 c3 c4 c5 c6 c7 c8 c9 c10 true true false c14 c15 c16) (st79 n lo hi met c0 c1 c2 c3 c4 c5 c6 c7 c8 c9 c10 true true true c14 c15 c16) :=
  AStep.of_ops (AOps.run [13] [] _ (st79 n lo hi met c0 c1 c2 c3 c4 c5 c6 c7 c8 c9 c10 true true true c14 c15 c16) true (by kernel_rfl) (fun j hj => absurd hj (List.not_mem_nil)) (AOps.nil ⟨rfl, rfl⟩))
theorem sp79_14 (n : Int) (lo : Int) (hi : Int) (met : Int) (c1 c2 c3 c4 c5 c6 c7 c8 c9 c10 c11 c12 c13 c15 c16 : Bool) : AStep Try.prog ⟨none, 1⟩ o79 14 (st79 n lo hi met true c1 c2 c3 c4 c5 c6 c7 c8 c9 c10 c11 c12 c13 false c15 c16) (st79 n lo hi met true c1 c2 c3 c4 c5 c6 c7 c8 c9 c10 c11 c12 c13 true c15 c16) :=
  AStep.of_ops (AOps.run [14] [] _ (st79 n lo hi met true c1 c2 c3 c4 c5 c6 c7 c8 c9 c10 c11 c12 c13 true c15 c16) true (by kernel_rfl) (fun j hj => absurd hj (List.not_mem_nil)) (AOps.nil ⟨rfl, rfl⟩))
theorem sp79_15 (n : Int) (lo : Int) (hi : Int) (met : Int) (c0 c1 c2 c3 c4 c5 c6 c7 c8 c9 c10 c11 c12 c13 c16 : Bool) : AStep Try.prog ⟨none, 1⟩ o79 15 (st79 n lo hi met c0 c1 c2 c3 c4 c5 c6 c7 c8 c9 c10 c11 c12 c13 true false c16) (st79 n lo hi met c0 c1 c2 c3 c4 c5 c6 c7 c8 c9 c10 c11 c12 c13 true true c16) :=
  AStep.of_ops (AOps.run [15] [] _ (st79 n lo hi met c0 c1 c2 c3 c4 c5 c6 c7 c8 c9 c10 c11 c12 c13 true true c16) true (by kernel_rfl) (fun j hj => absurd hj (List.not_mem_nil)) (AOps.nil ⟨rfl, rfl⟩))
theorem sp79_16 (n : Int) (lo : Int) (hi : Int) (met : Int) (c0 c1 c2 c3 c4 c5 c6 c8 c9 c10 c11 c12 c13 c14 : Bool) : AStep Try.prog ⟨none, 1⟩ o79 16 (st79 n lo hi met c0 c1 c2 c3 c4 c5 c6 true c8 c9 c10 c11 c12 c13 c14 true false) (st79 n lo hi met c0 c1 c2 c3 c4 c5 c6 true c8 c9 c10 c11 c12 c13 c14 true true) :=
  AStep.of_ops (AOps.run [16] [] _ (st79 n lo hi met c0 c1 c2 c3 c4 c5 c6 true c8 c9 c10 c11 c12 c13 c14 true true) true (by kernel_rfl) (fun j hj => absurd hj (List.not_mem_nil)) (AOps.nil ⟨rfl, rfl⟩))
theorem ov79 (n : Int) (lo : Int) (hi : Int) (met : Int) : AWP Try.prog ⟨none, 1⟩ (regionOf Try.f45 3) (st79 n lo hi met false false false false false false false false false false false false false false false false false) (fun e T => e = .normal ∧ T = fin79 n lo hi met) := by
  have z_sz : o79.size = 20 := by kernel_rfl
  refine AWP.region_anyC (ops := o79) 17 mx (by kernel_rfl) (by omega) (fun j_ z_1 z_2 => ?_) (fun l_ => st79 n lo hi met (l_.getD 0 false) (l_.getD 1 false) (l_.getD 2 false) (l_.getD 3 false) (l_.getD 4 false) (l_.getD 5 false) (l_.getD 6 false) (l_.getD 7 false) (l_.getD 8 false) (l_.getD 9 false) (l_.getD 10 false) (l_.getD 11 false) (l_.getD 12 false) (l_.getD 13 false) (l_.getD 14 false) (l_.getD 15 false) (l_.getD 16 false)) (fun β_ G_ K_ a_ w_ r_ => ⟨β_, Homes.le_refl _, ?_⟩) (fun l_ i_ z_l z_i z_li z_j z_c z_r => ?_) (fun l_ z_l z_1 z_2 => ?_)
  · rcases show j_ = 17 ∨ j_ = 18 ∨ j_ = 19 by omega with rfl | rfl | rfl
    all_goals kernel_rfl
  · rw [z_sz]; exact r_
  · have z_lt : i_ < l_.size := by omega
    simp only [gset z_lt]
    rcases show i_ = 0 ∨ i_ = 1 ∨ i_ = 2 ∨ i_ = 3 ∨ i_ = 4 ∨ i_ = 5 ∨ i_ = 6 ∨ i_ = 7 ∨ i_ = 8 ∨ i_ = 9 ∨ i_ = 10 ∨ i_ = 11 ∨ i_ = 12 ∨ i_ = 13 ∨ i_ = 14 ∨ i_ = 15 ∨ i_ = 16 by omega with rfl | rfl | rfl | rfl | rfl | rfl | rfl | rfl | rfl | rfl | rfl | rfl | rfl | rfl | rfl | rfl | rfl
    · simp only [Nat.reduceEqDiff, if_true, if_false, reduceIte, z_li]
      exact sp79_0 n lo hi met _ _ _ _ _ _ _ _ _ _ _ _ _ _ _ _
    · simp only [Nat.reduceEqDiff, if_true, if_false, reduceIte, z_li]
      exact sp79_1 n lo hi met _ _ _ _ _ _ _ _ _ _ _ _ _ _ _ _
    · simp only [Nat.reduceEqDiff, if_true, if_false, reduceIte, z_li]
      exact sp79_2 n lo hi met _ _ _ _ _ _ _ _ _ _ _ _ _ _ _ _
    · have z_g2 := dep_ready (ops := o79) (i := 3) (j := 2) (by kernel_rfl) z_r
      simp only [Nat.reduceEqDiff, if_true, if_false, reduceIte, z_li, z_g2]
      exact sp79_3 n lo hi met _ _ _ _ _ _ _ _ _ _ _ _ _ _ _
    · have z_g3 := dep_ready (ops := o79) (i := 4) (j := 3) (by kernel_rfl) z_r
      simp only [Nat.reduceEqDiff, if_true, if_false, reduceIte, z_li, z_g3]
      exact sp79_4 n lo hi met _ _ _ _ _ _ _ _ _ _ _ _ _ _ _
    · have z_g4 := dep_ready (ops := o79) (i := 5) (j := 4) (by kernel_rfl) z_r
      have z_g16 := dep_not (ops := o79) (i := 16) (j := 5) (by kernel_rfl) z_c z_li
      simp only [Nat.reduceEqDiff, if_true, if_false, reduceIte, z_li, z_g4, z_g16]
      exact sp79_5 n lo hi met _ _ _ _ _ _ _ _ _ _ _ _ _ _
    · simp only [Nat.reduceEqDiff, if_true, if_false, reduceIte, z_li]
      exact sp79_6 n lo hi met _ _ _ _ _ _ _ _ _ _ _ _ _ _ _ _
    · have z_g5 := dep_ready (ops := o79) (i := 7) (j := 5) (by kernel_rfl) z_r
      have z_g6 := dep_ready (ops := o79) (i := 7) (j := 6) (by kernel_rfl) z_r
      simp only [Nat.reduceEqDiff, if_true, if_false, reduceIte, z_li, z_g5, z_g6]
      exact sp79_7 n lo hi met _ _ _ _ _ _ _ _ _ _ _ _ _ _
    · simp only [Nat.reduceEqDiff, if_true, if_false, reduceIte, z_li]
      exact sp79_8 n lo hi met _ _ _ _ _ _ _ _ _ _ _ _ _ _ _ _
    · have z_g8 := dep_ready (ops := o79) (i := 9) (j := 8) (by kernel_rfl) z_r
      simp only [Nat.reduceEqDiff, if_true, if_false, reduceIte, z_li, z_g8]
      exact sp79_9 n lo hi met _ _ _ _ _ _ _ _ _ _ _ _ _ _ _
    · have z_g9 := dep_ready (ops := o79) (i := 10) (j := 9) (by kernel_rfl) z_r
      simp only [Nat.reduceEqDiff, if_true, if_false, reduceIte, z_li, z_g9]
      exact sp79_10 n lo hi met _ _ _ _ _ _ _ _ _ _ _ _ _ _ _
    · have z_g10 := dep_ready (ops := o79) (i := 11) (j := 10) (by kernel_rfl) z_r
      simp only [Nat.reduceEqDiff, if_true, if_false, reduceIte, z_li, z_g10]
      exact sp79_11 n lo hi met _ _ _ _ _ _ _ _ _ _ _ _ _ _ _
    · simp only [Nat.reduceEqDiff, if_true, if_false, reduceIte, z_li]
      exact sp79_12 n lo hi met _ _ _ _ _ _ _ _ _ _ _ _ _ _ _ _
    · have z_g11 := dep_ready (ops := o79) (i := 13) (j := 11) (by kernel_rfl) z_r
      have z_g12 := dep_ready (ops := o79) (i := 13) (j := 12) (by kernel_rfl) z_r
      simp only [Nat.reduceEqDiff, if_true, if_false, reduceIte, z_li, z_g11, z_g12]
      exact sp79_13 n lo hi met _ _ _ _ _ _ _ _ _ _ _ _ _ _
    · have z_g0 := dep_ready (ops := o79) (i := 14) (j := 0) (by kernel_rfl) z_r
      simp only [Nat.reduceEqDiff, if_true, if_false, reduceIte, z_li, z_g0]
      exact sp79_14 n lo hi met _ _ _ _ _ _ _ _ _ _ _ _ _ _ _
    · have z_g14 := dep_ready (ops := o79) (i := 15) (j := 14) (by kernel_rfl) z_r
      simp only [Nat.reduceEqDiff, if_true, if_false, reduceIte, z_li, z_g14]
      exact sp79_15 n lo hi met _ _ _ _ _ _ _ _ _ _ _ _ _ _ _
    · have z_g7 := dep_ready (ops := o79) (i := 16) (j := 7) (by kernel_rfl) z_r
      have z_g15 := dep_ready (ops := o79) (i := 16) (j := 15) (by kernel_rfl) z_r
      simp only [Nat.reduceEqDiff, if_true, if_false, reduceIte, z_li, z_g7, z_g15]
      exact sp79_16 n lo hi met _ _ _ _ _ _ _ _ _ _ _ _ _ _
  · simp only [z_1 0 (by omega), z_1 1 (by omega), z_1 2 (by omega), z_1 3 (by omega), z_1 4 (by omega), z_1 5 (by omega), z_1 6 (by omega), z_1 7 (by omega), z_1 8 (by omega), z_1 9 (by omega), z_1 10 (by omega), z_1 11 (by omega), z_1 12 (by omega), z_1 13 (by omega), z_1 14 (by omega), z_1 15 (by omega), z_1 16 (by omega)]
    rw [z_sz]
    exact AOps.run [17, 18, 19] [] _ (fin79 n lo hi met) true (by kernel_rfl) (fun j hj => absurd hj (List.not_mem_nil)) (AOps.nil ⟨rfl, rfl⟩)
inductive P79
  | e
inductive R79
  | r0 (r0 : Int) (r1 : Int) (r2 : Int)
noncomputable def T79 (s : Sp) (n : Int) : P79 → Tr P79 R79
  | .e => let c1 : List V := [.ref 0 0 0, iI n, uU, uU, uU, uU, uU, uU, uU, uU, uU, uU, uU, uU, uU, uU, uU, uU, uU, uU, uU, uU, uU, uU, uU, uU, uU, uU, uU, uU, uU, uU, uU, uU, uU, uU, uU, uU, uU, uU, uU, uU]; let c2 : List V := [.nil, .nil, uU, uU, uU, uU, uU, uU, uU, uU, uU, uU, uU, uU, uU, uU, uU, uU, uU, uU, uU, uU, uU, uU, uU, uU, uU, uU, uU, uU, uU, uU, uU, uU, uU, uU, uU, uU, uU, uU, uU, uU]; let c3 := s.met + (1 : Int); (.need (inR .i64 c3) (.br (c3 == (1 : Int)) (.wait 1 (.drop ⟨c2, [.void], []⟩ (.over (regionOf Try.f45 3) ⟨c1, [.cells [iI n, iI n, iI c3]], []⟩ .normal ⟨[.ref 0 0 0, iI n, uU, uU, uU, uU, uU, uU, uU, uU, uU, uU, uU, uU, uU, uU, uU, uU, uU, uU, uU, uU, uU, uU, .ref 0 0 0, .ref 0 0 0, .ref 0 0 0, .ref 0 0 0, .ref 0 0 0, iI n, iI n, iI (min n n), .ref 0 0 0, .ref 0 0 0, .ref 0 0 1, iI n, iI n, iI (max n n), .ref 0 0 0, .ref 0 0 0, .ref 0 0 0, .ref 0 0 1], [.cells [iI (min n n), iI (max n n), iI c3]], []⟩ true (.out (.r0 (min n n) (max n n) c3))))) (.wait 1 (.drop ⟨c2, [.void], []⟩ (.over (regionOf Try.f45 3) ⟨c1, [.cells [iI s.lo, iI s.hi, iI c3]], []⟩ .normal ⟨[.ref 0 0 0, iI n, uU, uU, uU, uU, uU, uU, uU, uU, uU, uU, uU, uU, uU, uU, uU, uU, uU, uU, uU, uU, uU, uU, .ref 0 0 0, .ref 0 0 0, .ref 0 0 0, .ref 0 0 0, .ref 0 0 0, iI s.lo, iI n, iI (min s.lo n), .ref 0 0 0, .ref 0 0 0, .ref 0 0 1, iI s.hi, iI n, iI (max s.hi n), .ref 0 0 0, .ref 0 0 0, .ref 0 0 0, .ref 0 0 1], [.cells [iI (min s.lo n), iI (max s.hi n), iI c3]], []⟩ true (.out (.r0 (min s.lo n) (max s.hi n) c3)))))))
noncomputable def g79 (s : Sp) (n : Int) : P79 → List Item × St
  | .e => ([.code (Try.f45.body.getD .skip)], ⟨[.ref 0 0 0, iI n] ++ List.replicate 40 uU, [.cells [iI s.lo, iI s.hi, iI s.met]], []⟩)
noncomputable def n79 (s : Sp) : R79 → Exit × St
  | .r0 r0 r1 r2 => (.normal, ⟨mk 42 [], [.cells [iI r0, iI r1, iI r2]], []⟩)
theorem s79 (s : Sp) (n : Int) : Sm 1 (g79 s n) (T79 s n) (n79 s)
  | .e => ⟨400, by kernel_rfl⟩
noncomputable def hh79 (s : Sp) : R79 → List Blk
  | .r0 r0 r1 r2 => [.cells [iI r0, iI r1, iI r2]]
noncomputable def v79 (s : Sp) : R79 → V
  | .r0 r0 r1 r2 => .tuple []
theorem q79 (s : Sp) : ∀ r, ((n79 s r).1 = .normal ∨ (n79 s r).1 = .ret) ∧ (n79 s r).2.d = [] ∧ (n79 s r).2.h = hh79 s r ∧ resultV Try.prog Try.f45 (n79 s r).2 = some (v79 s r)
  | .r0 r0 r1 r2 => ⟨.inl rfl, rfl, rfl, by kernel_rfl⟩
theorem w79 (s : Sp) (n : Int) {V0 : V} {h' : List Blk} (h : WP Try.prog ⟨none, 1⟩ (T79 s n) (Ends' fun r => v79 s r = V0 ∧ hh79 s r = h') .e) : HCalls Try.prog 45 [.ref 0 0 0, iI n] V0 [.cells [iI s.lo, iI s.hi, iI s.met]] h' :=
  HCalls.wp mx Try.func45 (by kernel_rfl) (by kernel_rfl) (T79 s n) (g79 s n) (n79 s) .e rfl (s79 s n) h fun r hr => by rw [← hr.1, ← hr.2]; exact q79 s r
theorem c79 (s : Sp) (n : Int) (h : 0 ≤ s.met ∧ s.met ≤ 100000000000) : HCalls Try.prog 45 [.ref 0 0 0, iI n] (.tuple []) [.cells (tSp.cells s)] [.cells (tSp.cells (addS s n))] := by
  have r1 : inR .i64 (s.met + 1) = true := inR64 (by omega) (by omega)
  by_cases h0 : s.met = 0
  · have h1 : s.met + 1 = 1 := by omega
    have e : addS s n = ⟨n, n, s.met + 1⟩ := by unfold addS; rw [if_pos h0, h1]
    have e1 : min n n = n := by omega
    have e2 : max n n = n := by omega
    rw [e]
    refine w79 s n (WP.step ?_)
    simp only [T79, Go, Ends', v79, Tr.sure, SS]
    repeat' with_reducible first | intro _ | apply And.intro
    all_goals first | exact (ov79 _ _ _ _) | (simp [r1, hh79, tSp, h1, e1, e2, Go, Ends', v79, -List.getD_eq_getElem?_getD, *]; done) | (simp_all [r1, hh79, tSp, h1, e1, e2, Go, Ends', v79, -List.getD_eq_getElem?_getD]; done)
  · have h1 : ¬ s.met + 1 = 1 := by omega
    have e : addS s n = ⟨min s.lo n, max s.hi n, s.met + 1⟩ := by unfold addS; rw [if_neg h0]
    rw [e]
    refine w79 s n (WP.step ?_)
    simp only [T79, Go, Ends', v79, Tr.sure, SS]
    repeat' with_reducible first | intro _ | apply And.intro
    all_goals first | exact (ov79 _ _ _ _) | (simp [r1, hh79, tSp, h1, Go, Ends', v79, -List.getD_eq_getElem?_getD, *]; done) | (simp_all [r1, hh79, tSp, h1, Go, Ends', v79, -List.getD_eq_getElem?_getD]; done)
def o69 : Array Oper := (regOf 3 (Try.f20.body.getD .skip)).getD #[]
abbrev st69 (n : Int) (lo : Int) (hi : Int) (met : Int) (c0 c1 c2 c3 c4 c5 c6 c7 c8 c9 c10 c11 c12 c13 c14 c15 c16 : Bool) : St := ⟨[.ref 0 0 0, iI n, uU, uU, uU, uU, uU, uU, uU, uU, uU, uU, uU, uU, uU, uU, uU, uU, uU, uU, uU, uU, uU, uU, bif c0 then .ref 0 0 0 else uU, bif c1 then .ref 0 0 0 else uU, bif c2 then .ref 0 0 0 else uU, bif c3 then .ref 0 0 0 else uU, bif c4 then .ref 0 0 0 else uU, bif c5 then iI lo else uU, bif c6 then iI n else uU, bif c7 then iI (min lo n) else uU, bif c8 then .ref 0 0 0 else uU, bif c9 then .ref 0 0 0 else uU, bif c10 then .ref 0 0 1 else uU, bif c11 then iI hi else uU, bif c12 then iI n else uU, bif c13 then iI (max hi n) else uU, bif c14 then .ref 0 0 0 else uU, bif c15 then .ref 0 0 0 else uU, uU, uU], [.cells [(bif c16 then iI (min lo n) else iI lo), iI hi, iI met]], []⟩
abbrev fin69 (n : Int) (lo : Int) (hi : Int) (met : Int) : St := ⟨[.ref 0 0 0, iI n, uU, uU, uU, uU, uU, uU, uU, uU, uU, uU, uU, uU, uU, uU, uU, uU, uU, uU, uU, uU, uU, uU, .ref 0 0 0, .ref 0 0 0, .ref 0 0 0, .ref 0 0 0, .ref 0 0 0, iI lo, iI n, iI (min lo n), .ref 0 0 0, .ref 0 0 0, .ref 0 0 1, iI hi, iI n, iI (max hi n), .ref 0 0 0, .ref 0 0 0, .ref 0 0 0, .ref 0 0 1], [.cells [iI (min lo n), iI (max hi n), iI met]], []⟩
theorem sp69_0 (n : Int) (lo : Int) (hi : Int) (met : Int) (c1 c2 c3 c4 c5 c6 c7 c8 c9 c10 c11 c12 c13 c14 c15 c16 : Bool) : AStep Try.prog ⟨none, 1⟩ o69 0 (st69 n lo hi met false c1 c2 c3 c4 c5 c6 c7 c8 c9 c10 c11 c12 c13 c14 c15 c16) (st69 n lo hi met true c1 c2 c3 c4 c5 c6 c7 c8 c9 c10 c11 c12 c13 c14 c15 c16) :=
  AStep.of_ops (AOps.run [0] [] _ (st69 n lo hi met true c1 c2 c3 c4 c5 c6 c7 c8 c9 c10 c11 c12 c13 c14 c15 c16) true (by kernel_rfl) (fun j hj => absurd hj (List.not_mem_nil)) (AOps.nil ⟨rfl, rfl⟩))
theorem sp69_1 (n : Int) (lo : Int) (hi : Int) (met : Int) (c0 c2 c3 c4 c5 c6 c7 c8 c9 c10 c11 c12 c13 c14 c15 c16 : Bool) : AStep Try.prog ⟨none, 1⟩ o69 1 (st69 n lo hi met c0 false c2 c3 c4 c5 c6 c7 c8 c9 c10 c11 c12 c13 c14 c15 c16) (st69 n lo hi met c0 true c2 c3 c4 c5 c6 c7 c8 c9 c10 c11 c12 c13 c14 c15 c16) :=
  AStep.of_ops (AOps.run [1] [] _ (st69 n lo hi met c0 true c2 c3 c4 c5 c6 c7 c8 c9 c10 c11 c12 c13 c14 c15 c16) true (by kernel_rfl) (fun j hj => absurd hj (List.not_mem_nil)) (AOps.nil ⟨rfl, rfl⟩))
theorem sp69_2 (n : Int) (lo : Int) (hi : Int) (met : Int) (c0 c1 c3 c4 c5 c6 c7 c8 c9 c10 c11 c12 c13 c14 c15 c16 : Bool) : AStep Try.prog ⟨none, 1⟩ o69 2 (st69 n lo hi met c0 c1 false c3 c4 c5 c6 c7 c8 c9 c10 c11 c12 c13 c14 c15 c16) (st69 n lo hi met c0 c1 true c3 c4 c5 c6 c7 c8 c9 c10 c11 c12 c13 c14 c15 c16) :=
  AStep.of_ops (AOps.run [2] [] _ (st69 n lo hi met c0 c1 true c3 c4 c5 c6 c7 c8 c9 c10 c11 c12 c13 c14 c15 c16) true (by kernel_rfl) (fun j hj => absurd hj (List.not_mem_nil)) (AOps.nil ⟨rfl, rfl⟩))
theorem sp69_3 (n : Int) (lo : Int) (hi : Int) (met : Int) (c0 c1 c4 c5 c6 c7 c8 c9 c10 c11 c12 c13 c14 c15 c16 : Bool) : AStep Try.prog ⟨none, 1⟩ o69 3 (st69 n lo hi met c0 c1 true false c4 c5 c6 c7 c8 c9 c10 c11 c12 c13 c14 c15 c16) (st69 n lo hi met c0 c1 true true c4 c5 c6 c7 c8 c9 c10 c11 c12 c13 c14 c15 c16) :=
  AStep.of_ops (AOps.run [3] [] _ (st69 n lo hi met c0 c1 true true c4 c5 c6 c7 c8 c9 c10 c11 c12 c13 c14 c15 c16) true (by kernel_rfl) (fun j hj => absurd hj (List.not_mem_nil)) (AOps.nil ⟨rfl, rfl⟩))
theorem sp69_4 (n : Int) (lo : Int) (hi : Int) (met : Int) (c0 c1 c2 c5 c6 c7 c8 c9 c10 c11 c12 c13 c14 c15 c16 : Bool) : AStep Try.prog ⟨none, 1⟩ o69 4 (st69 n lo hi met c0 c1 c2 true false c5 c6 c7 c8 c9 c10 c11 c12 c13 c14 c15 c16) (st69 n lo hi met c0 c1 c2 true true c5 c6 c7 c8 c9 c10 c11 c12 c13 c14 c15 c16) :=
  AStep.of_ops (AOps.run [4] [] _ (st69 n lo hi met c0 c1 c2 true true c5 c6 c7 c8 c9 c10 c11 c12 c13 c14 c15 c16) true (by kernel_rfl) (fun j hj => absurd hj (List.not_mem_nil)) (AOps.nil ⟨rfl, rfl⟩))
theorem sp69_5 (n : Int) (lo : Int) (hi : Int) (met : Int) (c0 c1 c2 c3 c6 c7 c8 c9 c10 c11 c12 c13 c14 c15 : Bool) : AStep Try.prog ⟨none, 1⟩ o69 5 (st69 n lo hi met c0 c1 c2 c3 true false c6 c7 c8 c9 c10 c11 c12 c13 c14 c15 false) (st69 n lo hi met c0 c1 c2 c3 true true c6 c7 c8 c9 c10 c11 c12 c13 c14 c15 false) :=
  AStep.of_ops (AOps.run [5] [] _ (st69 n lo hi met c0 c1 c2 c3 true true c6 c7 c8 c9 c10 c11 c12 c13 c14 c15 false) true (by kernel_rfl) (fun j hj => absurd hj (List.not_mem_nil)) (AOps.nil ⟨rfl, rfl⟩))
theorem sp69_6 (n : Int) (lo : Int) (hi : Int) (met : Int) (c0 c1 c2 c3 c4 c5 c7 c8 c9 c10 c11 c12 c13 c14 c15 c16 : Bool) : AStep Try.prog ⟨none, 1⟩ o69 6 (st69 n lo hi met c0 c1 c2 c3 c4 c5 false c7 c8 c9 c10 c11 c12 c13 c14 c15 c16) (st69 n lo hi met c0 c1 c2 c3 c4 c5 true c7 c8 c9 c10 c11 c12 c13 c14 c15 c16) :=
  AStep.of_ops (AOps.run [6] [] _ (st69 n lo hi met c0 c1 c2 c3 c4 c5 true c7 c8 c9 c10 c11 c12 c13 c14 c15 c16) true (by kernel_rfl) (fun j hj => absurd hj (List.not_mem_nil)) (AOps.nil ⟨rfl, rfl⟩))
theorem sp69_7 (n : Int) (lo : Int) (hi : Int) (met : Int) (c0 c1 c2 c3 c4 c8 c9 c10 c11 c12 c13 c14 c15 c16 : Bool) : AStep Try.prog ⟨none, 1⟩ o69 7 (st69 n lo hi met c0 c1 c2 c3 c4 true true false c8 c9 c10 c11 c12 c13 c14 c15 c16) (st69 n lo hi met c0 c1 c2 c3 c4 true true true c8 c9 c10 c11 c12 c13 c14 c15 c16) :=
  AStep.of_ops (AOps.run [7] [] _ (st69 n lo hi met c0 c1 c2 c3 c4 true true true c8 c9 c10 c11 c12 c13 c14 c15 c16) true (by kernel_rfl) (fun j hj => absurd hj (List.not_mem_nil)) (AOps.nil ⟨rfl, rfl⟩))
theorem sp69_8 (n : Int) (lo : Int) (hi : Int) (met : Int) (c0 c1 c2 c3 c4 c5 c6 c7 c9 c10 c11 c12 c13 c14 c15 c16 : Bool) : AStep Try.prog ⟨none, 1⟩ o69 8 (st69 n lo hi met c0 c1 c2 c3 c4 c5 c6 c7 false c9 c10 c11 c12 c13 c14 c15 c16) (st69 n lo hi met c0 c1 c2 c3 c4 c5 c6 c7 true c9 c10 c11 c12 c13 c14 c15 c16) :=
  AStep.of_ops (AOps.run [8] [] _ (st69 n lo hi met c0 c1 c2 c3 c4 c5 c6 c7 true c9 c10 c11 c12 c13 c14 c15 c16) true (by kernel_rfl) (fun j hj => absurd hj (List.not_mem_nil)) (AOps.nil ⟨rfl, rfl⟩))
theorem sp69_9 (n : Int) (lo : Int) (hi : Int) (met : Int) (c0 c1 c2 c3 c4 c5 c6 c7 c10 c11 c12 c13 c14 c15 c16 : Bool) : AStep Try.prog ⟨none, 1⟩ o69 9 (st69 n lo hi met c0 c1 c2 c3 c4 c5 c6 c7 true false c10 c11 c12 c13 c14 c15 c16) (st69 n lo hi met c0 c1 c2 c3 c4 c5 c6 c7 true true c10 c11 c12 c13 c14 c15 c16) :=
  AStep.of_ops (AOps.run [9] [] _ (st69 n lo hi met c0 c1 c2 c3 c4 c5 c6 c7 true true c10 c11 c12 c13 c14 c15 c16) true (by kernel_rfl) (fun j hj => absurd hj (List.not_mem_nil)) (AOps.nil ⟨rfl, rfl⟩))
theorem sp69_10 (n : Int) (lo : Int) (hi : Int) (met : Int) (c0 c1 c2 c3 c4 c5 c6 c7 c8 c11 c12 c13 c14 c15 c16 : Bool) : AStep Try.prog ⟨none, 1⟩ o69 10 (st69 n lo hi met c0 c1 c2 c3 c4 c5 c6 c7 c8 true false c11 c12 c13 c14 c15 c16) (st69 n lo hi met c0 c1 c2 c3 c4 c5 c6 c7 c8 true true c11 c12 c13 c14 c15 c16) :=
  AStep.of_ops (AOps.run [10] [] _ (st69 n lo hi met c0 c1 c2 c3 c4 c5 c6 c7 c8 true true c11 c12 c13 c14 c15 c16) true (by kernel_rfl) (fun j hj => absurd hj (List.not_mem_nil)) (AOps.nil ⟨rfl, rfl⟩))
theorem sp69_11 (n : Int) (lo : Int) (hi : Int) (met : Int) (c0 c1 c2 c3 c4 c5 c6 c7 c8 c9 c12 c13 c14 c15 c16 : Bool) : AStep Try.prog ⟨none, 1⟩ o69 11 (st69 n lo hi met c0 c1 c2 c3 c4 c5 c6 c7 c8 c9 true false c12 c13 c14 c15 c16) (st69 n lo hi met c0 c1 c2 c3 c4 c5 c6 c7 c8 c9 true true c12 c13 c14 c15 c16) :=
  AStep.of_ops (AOps.run [11] [] _ (st69 n lo hi met c0 c1 c2 c3 c4 c5 c6 c7 c8 c9 true true c12 c13 c14 c15 c16) true (by kernel_rfl) (fun j hj => absurd hj (List.not_mem_nil)) (AOps.nil ⟨rfl, rfl⟩))
theorem sp69_12 (n : Int) (lo : Int) (hi : Int) (met : Int) (c0 c1 c2 c3 c4 c5 c6 c7 c8 c9 c10 c11 c13 c14 c15 c16 : Bool) : AStep Try.prog ⟨none, 1⟩ o69 12 (st69 n lo hi met c0 c1 c2 c3 c4 c5 c6 c7 c8 c9 c10 c11 false c13 c14 c15 c16) (st69 n lo hi met c0 c1 c2 c3 c4 c5 c6 c7 c8 c9 c10 c11 true c13 c14 c15 c16) :=
  AStep.of_ops (AOps.run [12] [] _ (st69 n lo hi met c0 c1 c2 c3 c4 c5 c6 c7 c8 c9 c10 c11 true c13 c14 c15 c16) true (by kernel_rfl) (fun j hj => absurd hj (List.not_mem_nil)) (AOps.nil ⟨rfl, rfl⟩))
theorem sp69_13 (n : Int) (lo : Int) (hi : Int) (met : Int) (c0 c1 c2 c3 c4 c5 c6 c7 c8 c9 c10 c14 c15 c16 : Bool) : AStep Try.prog ⟨none, 1⟩ o69 13 (st69 n lo hi met c0 c1 c2 c3 c4 c5 c6 c7 c8 c9 c10 true true false c14 c15 c16) (st69 n lo hi met c0 c1 c2 c3 c4 c5 c6 c7 c8 c9 c10 true true true c14 c15 c16) :=
  AStep.of_ops (AOps.run [13] [] _ (st69 n lo hi met c0 c1 c2 c3 c4 c5 c6 c7 c8 c9 c10 true true true c14 c15 c16) true (by kernel_rfl) (fun j hj => absurd hj (List.not_mem_nil)) (AOps.nil ⟨rfl, rfl⟩))
theorem sp69_14 (n : Int) (lo : Int) (hi : Int) (met : Int) (c1 c2 c3 c4 c5 c6 c7 c8 c9 c10 c11 c12 c13 c15 c16 : Bool) : AStep Try.prog ⟨none, 1⟩ o69 14 (st69 n lo hi met true c1 c2 c3 c4 c5 c6 c7 c8 c9 c10 c11 c12 c13 false c15 c16) (st69 n lo hi met true c1 c2 c3 c4 c5 c6 c7 c8 c9 c10 c11 c12 c13 true c15 c16) :=
  AStep.of_ops (AOps.run [14] [] _ (st69 n lo hi met true c1 c2 c3 c4 c5 c6 c7 c8 c9 c10 c11 c12 c13 true c15 c16) true (by kernel_rfl) (fun j hj => absurd hj (List.not_mem_nil)) (AOps.nil ⟨rfl, rfl⟩))
theorem sp69_15 (n : Int) (lo : Int) (hi : Int) (met : Int) (c0 c1 c2 c3 c4 c5 c6 c7 c8 c9 c10 c11 c12 c13 c16 : Bool) : AStep Try.prog ⟨none, 1⟩ o69 15 (st69 n lo hi met c0 c1 c2 c3 c4 c5 c6 c7 c8 c9 c10 c11 c12 c13 true false c16) (st69 n lo hi met c0 c1 c2 c3 c4 c5 c6 c7 c8 c9 c10 c11 c12 c13 true true c16) :=
  AStep.of_ops (AOps.run [15] [] _ (st69 n lo hi met c0 c1 c2 c3 c4 c5 c6 c7 c8 c9 c10 c11 c12 c13 true true c16) true (by kernel_rfl) (fun j hj => absurd hj (List.not_mem_nil)) (AOps.nil ⟨rfl, rfl⟩))
theorem sp69_16 (n : Int) (lo : Int) (hi : Int) (met : Int) (c0 c1 c2 c3 c4 c5 c6 c8 c9 c10 c11 c12 c13 c14 : Bool) : AStep Try.prog ⟨none, 1⟩ o69 16 (st69 n lo hi met c0 c1 c2 c3 c4 c5 c6 true c8 c9 c10 c11 c12 c13 c14 true false) (st69 n lo hi met c0 c1 c2 c3 c4 c5 c6 true c8 c9 c10 c11 c12 c13 c14 true true) :=
  AStep.of_ops (AOps.run [16] [] _ (st69 n lo hi met c0 c1 c2 c3 c4 c5 c6 true c8 c9 c10 c11 c12 c13 c14 true true) true (by kernel_rfl) (fun j hj => absurd hj (List.not_mem_nil)) (AOps.nil ⟨rfl, rfl⟩))
theorem ov69 (n : Int) (lo : Int) (hi : Int) (met : Int) : AWP Try.prog ⟨none, 1⟩ (regionOf Try.f20 3) (st69 n lo hi met false false false false false false false false false false false false false false false false false) (fun e T => e = .normal ∧ T = fin69 n lo hi met) := by
  have z_sz : o69.size = 20 := by kernel_rfl
  refine AWP.region_anyC (ops := o69) 17 mx (by kernel_rfl) (by omega) (fun j_ z_1 z_2 => ?_) (fun l_ => st69 n lo hi met (l_.getD 0 false) (l_.getD 1 false) (l_.getD 2 false) (l_.getD 3 false) (l_.getD 4 false) (l_.getD 5 false) (l_.getD 6 false) (l_.getD 7 false) (l_.getD 8 false) (l_.getD 9 false) (l_.getD 10 false) (l_.getD 11 false) (l_.getD 12 false) (l_.getD 13 false) (l_.getD 14 false) (l_.getD 15 false) (l_.getD 16 false)) (fun β_ G_ K_ a_ w_ r_ => ⟨β_, Homes.le_refl _, ?_⟩) (fun l_ i_ z_l z_i z_li z_j z_c z_r => ?_) (fun l_ z_l z_1 z_2 => ?_)
  · rcases show j_ = 17 ∨ j_ = 18 ∨ j_ = 19 by omega with rfl | rfl | rfl
    all_goals kernel_rfl
  · rw [z_sz]; exact r_
  · have z_lt : i_ < l_.size := by omega
    simp only [gset z_lt]
    rcases show i_ = 0 ∨ i_ = 1 ∨ i_ = 2 ∨ i_ = 3 ∨ i_ = 4 ∨ i_ = 5 ∨ i_ = 6 ∨ i_ = 7 ∨ i_ = 8 ∨ i_ = 9 ∨ i_ = 10 ∨ i_ = 11 ∨ i_ = 12 ∨ i_ = 13 ∨ i_ = 14 ∨ i_ = 15 ∨ i_ = 16 by omega with rfl | rfl | rfl | rfl | rfl | rfl | rfl | rfl | rfl | rfl | rfl | rfl | rfl | rfl | rfl | rfl | rfl
    · simp only [Nat.reduceEqDiff, if_true, if_false, reduceIte, z_li]
      exact sp69_0 n lo hi met _ _ _ _ _ _ _ _ _ _ _ _ _ _ _ _
    · simp only [Nat.reduceEqDiff, if_true, if_false, reduceIte, z_li]
      exact sp69_1 n lo hi met _ _ _ _ _ _ _ _ _ _ _ _ _ _ _ _
    · simp only [Nat.reduceEqDiff, if_true, if_false, reduceIte, z_li]
      exact sp69_2 n lo hi met _ _ _ _ _ _ _ _ _ _ _ _ _ _ _ _
    · have z_g2 := dep_ready (ops := o69) (i := 3) (j := 2) (by kernel_rfl) z_r
      simp only [Nat.reduceEqDiff, if_true, if_false, reduceIte, z_li, z_g2]
      exact sp69_3 n lo hi met _ _ _ _ _ _ _ _ _ _ _ _ _ _ _
    · have z_g3 := dep_ready (ops := o69) (i := 4) (j := 3) (by kernel_rfl) z_r
      simp only [Nat.reduceEqDiff, if_true, if_false, reduceIte, z_li, z_g3]
      exact sp69_4 n lo hi met _ _ _ _ _ _ _ _ _ _ _ _ _ _ _
    · have z_g4 := dep_ready (ops := o69) (i := 5) (j := 4) (by kernel_rfl) z_r
      have z_g16 := dep_not (ops := o69) (i := 16) (j := 5) (by kernel_rfl) z_c z_li
      simp only [Nat.reduceEqDiff, if_true, if_false, reduceIte, z_li, z_g4, z_g16]
      exact sp69_5 n lo hi met _ _ _ _ _ _ _ _ _ _ _ _ _ _
    · simp only [Nat.reduceEqDiff, if_true, if_false, reduceIte, z_li]
      exact sp69_6 n lo hi met _ _ _ _ _ _ _ _ _ _ _ _ _ _ _ _
    · have z_g5 := dep_ready (ops := o69) (i := 7) (j := 5) (by kernel_rfl) z_r
      have z_g6 := dep_ready (ops := o69) (i := 7) (j := 6) (by kernel_rfl) z_r
      simp only [Nat.reduceEqDiff, if_true, if_false, reduceIte, z_li, z_g5, z_g6]
      exact sp69_7 n lo hi met _ _ _ _ _ _ _ _ _ _ _ _ _ _
    · simp only [Nat.reduceEqDiff, if_true, if_false, reduceIte, z_li]
      exact sp69_8 n lo hi met _ _ _ _ _ _ _ _ _ _ _ _ _ _ _ _
    · have z_g8 := dep_ready (ops := o69) (i := 9) (j := 8) (by kernel_rfl) z_r
      simp only [Nat.reduceEqDiff, if_true, if_false, reduceIte, z_li, z_g8]
      exact sp69_9 n lo hi met _ _ _ _ _ _ _ _ _ _ _ _ _ _ _
    · have z_g9 := dep_ready (ops := o69) (i := 10) (j := 9) (by kernel_rfl) z_r
      simp only [Nat.reduceEqDiff, if_true, if_false, reduceIte, z_li, z_g9]
      exact sp69_10 n lo hi met _ _ _ _ _ _ _ _ _ _ _ _ _ _ _
    · have z_g10 := dep_ready (ops := o69) (i := 11) (j := 10) (by kernel_rfl) z_r
      simp only [Nat.reduceEqDiff, if_true, if_false, reduceIte, z_li, z_g10]
      exact sp69_11 n lo hi met _ _ _ _ _ _ _ _ _ _ _ _ _ _ _
    · simp only [Nat.reduceEqDiff, if_true, if_false, reduceIte, z_li]
      exact sp69_12 n lo hi met _ _ _ _ _ _ _ _ _ _ _ _ _ _ _ _
    · have z_g11 := dep_ready (ops := o69) (i := 13) (j := 11) (by kernel_rfl) z_r
      have z_g12 := dep_ready (ops := o69) (i := 13) (j := 12) (by kernel_rfl) z_r
      simp only [Nat.reduceEqDiff, if_true, if_false, reduceIte, z_li, z_g11, z_g12]
      exact sp69_13 n lo hi met _ _ _ _ _ _ _ _ _ _ _ _ _ _
    · have z_g0 := dep_ready (ops := o69) (i := 14) (j := 0) (by kernel_rfl) z_r
      simp only [Nat.reduceEqDiff, if_true, if_false, reduceIte, z_li, z_g0]
      exact sp69_14 n lo hi met _ _ _ _ _ _ _ _ _ _ _ _ _ _ _
    · have z_g14 := dep_ready (ops := o69) (i := 15) (j := 14) (by kernel_rfl) z_r
      simp only [Nat.reduceEqDiff, if_true, if_false, reduceIte, z_li, z_g14]
      exact sp69_15 n lo hi met _ _ _ _ _ _ _ _ _ _ _ _ _ _ _
    · have z_g7 := dep_ready (ops := o69) (i := 16) (j := 7) (by kernel_rfl) z_r
      have z_g15 := dep_ready (ops := o69) (i := 16) (j := 15) (by kernel_rfl) z_r
      simp only [Nat.reduceEqDiff, if_true, if_false, reduceIte, z_li, z_g7, z_g15]
      exact sp69_16 n lo hi met _ _ _ _ _ _ _ _ _ _ _ _ _ _
  · simp only [z_1 0 (by omega), z_1 1 (by omega), z_1 2 (by omega), z_1 3 (by omega), z_1 4 (by omega), z_1 5 (by omega), z_1 6 (by omega), z_1 7 (by omega), z_1 8 (by omega), z_1 9 (by omega), z_1 10 (by omega), z_1 11 (by omega), z_1 12 (by omega), z_1 13 (by omega), z_1 14 (by omega), z_1 15 (by omega), z_1 16 (by omega)]
    rw [z_sz]
    exact AOps.run [17, 18, 19] [] _ (fin69 n lo hi met) true (by kernel_rfl) (fun j hj => absurd hj (List.not_mem_nil)) (AOps.nil ⟨rfl, rfl⟩)
inductive P69
  | e
inductive R69
  | r0 (r0 : Int) (r1 : Int) (r2 : Int)
noncomputable def T69 (s : Sp) (n : Int) : P69 → Tr P69 R69
  | .e => let c1 : List V := [.ref 0 0 0, iI n, uU, uU, uU, uU, uU, uU, uU, uU, uU, uU, uU, uU, uU, uU, uU, uU, uU, uU, uU, uU, uU, uU, uU, uU, uU, uU, uU, uU, uU, uU, uU, uU, uU, uU, uU, uU, uU, uU, uU, uU]; let c2 : List V := [.nil, .nil, uU, uU, uU, uU, uU, uU, uU, uU, uU, uU, uU, uU, uU, uU, uU, uU, uU, uU, uU, uU, uU, uU, uU, uU, uU, uU, uU, uU, uU, uU, uU, uU, uU, uU, uU, uU, uU, uU, uU, uU]; let c3 := s.met + (1 : Int); (.need (inR .i64 c3) (.br (c3 == (1 : Int)) (.wait 1 (.drop ⟨c2, [.void], []⟩ (.over (regionOf Try.f20 3) ⟨c1, [.cells [iI n, iI n, iI c3]], []⟩ .normal ⟨[.ref 0 0 0, iI n, uU, uU, uU, uU, uU, uU, uU, uU, uU, uU, uU, uU, uU, uU, uU, uU, uU, uU, uU, uU, uU, uU, .ref 0 0 0, .ref 0 0 0, .ref 0 0 0, .ref 0 0 0, .ref 0 0 0, iI n, iI n, iI (min n n), .ref 0 0 0, .ref 0 0 0, .ref 0 0 1, iI n, iI n, iI (max n n), .ref 0 0 0, .ref 0 0 0, .ref 0 0 0, .ref 0 0 1], [.cells [iI (min n n), iI (max n n), iI c3]], []⟩ true (.out (.r0 (min n n) (max n n) c3))))) (.wait 1 (.drop ⟨c2, [.void], []⟩ (.over (regionOf Try.f20 3) ⟨c1, [.cells [iI s.lo, iI s.hi, iI c3]], []⟩ .normal ⟨[.ref 0 0 0, iI n, uU, uU, uU, uU, uU, uU, uU, uU, uU, uU, uU, uU, uU, uU, uU, uU, uU, uU, uU, uU, uU, uU, .ref 0 0 0, .ref 0 0 0, .ref 0 0 0, .ref 0 0 0, .ref 0 0 0, iI s.lo, iI n, iI (min s.lo n), .ref 0 0 0, .ref 0 0 0, .ref 0 0 1, iI s.hi, iI n, iI (max s.hi n), .ref 0 0 0, .ref 0 0 0, .ref 0 0 0, .ref 0 0 1], [.cells [iI (min s.lo n), iI (max s.hi n), iI c3]], []⟩ true (.out (.r0 (min s.lo n) (max s.hi n) c3)))))))
noncomputable def g69 (s : Sp) (n : Int) : P69 → List Item × St
  | .e => ([.code (Try.f20.body.getD .skip)], ⟨[.ref 0 0 0, iI n] ++ List.replicate 40 uU, [.cells [iI s.lo, iI s.hi, iI s.met]], []⟩)
noncomputable def n69 (s : Sp) : R69 → Exit × St
  | .r0 r0 r1 r2 => (.normal, ⟨mk 42 [], [.cells [iI r0, iI r1, iI r2]], []⟩)
theorem s69 (s : Sp) (n : Int) : Sm 1 (g69 s n) (T69 s n) (n69 s)
  | .e => ⟨400, by kernel_rfl⟩
noncomputable def hh69 (s : Sp) : R69 → List Blk
  | .r0 r0 r1 r2 => [.cells [iI r0, iI r1, iI r2]]
noncomputable def v69 (s : Sp) : R69 → V
  | .r0 r0 r1 r2 => .tuple []
theorem q69 (s : Sp) : ∀ r, ((n69 s r).1 = .normal ∨ (n69 s r).1 = .ret) ∧ (n69 s r).2.d = [] ∧ (n69 s r).2.h = hh69 s r ∧ resultV Try.prog Try.f20 (n69 s r).2 = some (v69 s r)
  | .r0 r0 r1 r2 => ⟨.inl rfl, rfl, rfl, by kernel_rfl⟩
theorem w69 (s : Sp) (n : Int) {V0 : V} {h' : List Blk} (h : WP Try.prog ⟨none, 1⟩ (T69 s n) (Ends' fun r => v69 s r = V0 ∧ hh69 s r = h') .e) : HCalls Try.prog 20 [.ref 0 0 0, iI n] V0 [.cells [iI s.lo, iI s.hi, iI s.met]] h' :=
  HCalls.wp mx Try.func20 (by kernel_rfl) (by kernel_rfl) (T69 s n) (g69 s n) (n69 s) .e rfl (s69 s n) h fun r hr => by rw [← hr.1, ← hr.2]; exact q69 s r
theorem c69 (s : Sp) (n : Int) (h : 0 ≤ s.met ∧ s.met ≤ 100000000000) : HCalls Try.prog 20 [.ref 0 0 0, iI n] (.tuple []) [.cells (tSp.cells s)] [.cells (tSp.cells (addS s n))] := by
  have r1 : inR .i64 (s.met + 1) = true := inR64 (by omega) (by omega)
  by_cases h0 : s.met = 0
  · have h1 : s.met + 1 = 1 := by omega
    have e : addS s n = ⟨n, n, s.met + 1⟩ := by unfold addS; rw [if_pos h0, h1]
    have e1 : min n n = n := by omega
    have e2 : max n n = n := by omega
    rw [e]
    refine w69 s n (WP.step ?_)
    simp only [T69, Go, Ends', v69, Tr.sure, SS]
    repeat' with_reducible first | intro _ | apply And.intro
    all_goals first | exact (ov69 _ _ _ _) | (simp [r1, hh69, tSp, h1, e1, e2, Go, Ends', v69, -List.getD_eq_getElem?_getD, *]; done) | (simp_all [r1, hh69, tSp, h1, e1, e2, Go, Ends', v69, -List.getD_eq_getElem?_getD]; done)
  · have h1 : ¬ s.met + 1 = 1 := by omega
    have e : addS s n = ⟨min s.lo n, max s.hi n, s.met + 1⟩ := by unfold addS; rw [if_neg h0]
    rw [e]
    refine w69 s n (WP.step ?_)
    simp only [T69, Go, Ends', v69, Tr.sure, SS]
    repeat' with_reducible first | intro _ | apply And.intro
    all_goals first | exact (ov69 _ _ _ _) | (simp [r1, hh69, tSp, h1, Go, Ends', v69, -List.getD_eq_getElem?_getD, *]; done) | (simp_all [r1, hh69, tSp, h1, Go, Ends', v69, -List.getD_eq_getElem?_getD]; done)
inductive P80
  | e
inductive R80
  | r0 (r0_0 : Int) (r0_1 : Int)
noncomputable def T80 (s : Sp) : P80 → Tr P80 R80
  | .e => (.front [] [] true true (.out (.r0 s.lo s.hi)))
noncomputable def g80 (s : Sp) : P80 → List Item × St
  | .e => bd Try.f46 [.cref 3 fun q => ([iI s.lo, iI s.hi, iI s.met] : List V).getD q uU] 11
noncomputable def n80 : R80 → Exit × St
  | .r0 r0_0 r0_1 => (.ret, ⟨mk 12 [(2, .ref 0 0 0)], [.cells [iI r0_0, iI r0_1]], []⟩)
noncomputable def v80 : R80 → V
  | .r0 r0_0 r0_1 => .agg [iI r0_0, iI r0_1]
theorem s80 (s : Sp) : Sm 0 (g80 s) (T80 s) (n80)
  | .e => ⟨400, by kernel_rfl⟩
theorem q80 : ∀ r, bodyQ Try.prog Try.f46 (· = v80 r) (n80 r).1 (n80 r).2
  | .r0 r0_0 r0_1 => bq (.agg [iI r0_0, iI r0_1]) (by kernel_rfl)
theorem w80 (s : Sp) {post : V → Prop} (h : WQ (T80 s) v80 post .e) : PC 46 [.cref 3 fun q => ([iI s.lo, iI s.hi, iI s.met] : List V).getD q uU] post :=
  PCalls.wq Try.func46 (s80 s) q80 h
theorem c80 (s : Sp) : PC 46 [.cref 3 fun q => (tSp.cells s).getD q uU] (· = .agg (tSpan.cells ⟨s.lo, s.hi⟩)) := by
  refine w80 s (WP.step ?_)
  simp only [T80, Go, Ends', v80, Tr.sure, SS]
  repeat' with_reducible first | intro _ | apply And.intro
  all_goals simp [tSpan, Go, Ends', v80, -List.getD_eq_getElem?_getD, *]
inductive P70
  | e
inductive R70
  | r0 (r0_0 : Int) (r0_1 : Int)
noncomputable def T70 (s : Sp) : P70 → Tr P70 R70
  | .e => (.front [] [] true true (.out (.r0 s.lo s.hi)))
noncomputable def g70 (s : Sp) : P70 → List Item × St
  | .e => bd Try.f21 [.cref 3 fun q => ([iI s.lo, iI s.hi, iI s.met] : List V).getD q uU] 11
noncomputable def n70 : R70 → Exit × St
  | .r0 r0_0 r0_1 => (.ret, ⟨mk 12 [(2, .ref 0 0 0)], [.cells [iI r0_0, iI r0_1]], []⟩)
noncomputable def v70 : R70 → V
  | .r0 r0_0 r0_1 => .agg [iI r0_0, iI r0_1]
theorem s70 (s : Sp) : Sm 0 (g70 s) (T70 s) (n70)
  | .e => ⟨400, by kernel_rfl⟩
theorem q70 : ∀ r, bodyQ Try.prog Try.f21 (· = v70 r) (n70 r).1 (n70 r).2
  | .r0 r0_0 r0_1 => bq (.agg [iI r0_0, iI r0_1]) (by kernel_rfl)
theorem w70 (s : Sp) {post : V → Prop} (h : WQ (T70 s) v70 post .e) : PC 21 [.cref 3 fun q => ([iI s.lo, iI s.hi, iI s.met] : List V).getD q uU] post :=
  PCalls.wq Try.func21 (s70 s) q70 h
theorem c70 (s : Sp) : PC 21 [.cref 3 fun q => (tSp.cells s).getD q uU] (· = .agg (tSpan.cells ⟨s.lo, s.hi⟩)) := by
  refine w70 s (WP.step ?_)
  simp only [T70, Go, Ends', v70, Tr.sure, SS]
  repeat' with_reducible first | intro _ | apply And.intro
  all_goals simp [tSpan, Go, Ends', v70, -List.getD_eq_getElem?_getD, *]
theorem addAt {f : Nat} {s : Sp} {n : Int} (hc : HCalls Try.prog f [.ref 0 0 0, iI n] (.tuple []) [.cells (tSp.cells s)] [.cells (tSp.cells (addS s n))]) {h : List Blk} {i : Nat} (hi : h[i]? = some (.cells (tSp.cells s))) :
    HCalls Try.prog f [.ref i 0 0, iI n] (.tuple []) h (h.set i (.cells (tSp.cells (addS s n)))) :=
  hc.at (fun j => match j with
    | 0 => .inl ⟨0, 0, rfl⟩
    | 1 => .inr rfl
    | j + 2 => .inr rfl) rfl rfl rfl hi
end
end Go.Proofs.Ytfgmckfomckliaa
