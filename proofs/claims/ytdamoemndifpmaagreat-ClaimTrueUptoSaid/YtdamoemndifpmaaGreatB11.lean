/-
  Part of the proof of the Claim laws. Conditions: those that stand in each theorem.
-/
import Derived.Test.YtdamoemndifpmaaGreatB10
set_option linter.unusedSimpArgs false
set_option linter.unusedVariables false
set_option maxRecDepth 100000
namespace Go.Proofs.YtdamoemndifpmaaGreat
open Ab Go
noncomputable section
theorem sameC_b (a b : Cast) : (a.mould == b.mould && (a.number == b.number && true)) = sameC a b := by simp [sameC]
inductive P184
  | e
  | l0 (x0_8 : Int)
inductive R184
  | r0 (r0 : Int)
noncomputable def T184 (s : List Cast) (v : Cast) : P184 → Tr P184 R184
  | .e => (.go (.l0 0))
  | .l0 x0_8 => let c1 := s.getD (x0_8).toNat tCast.zero; (.br (decide (x0_8 < (s.length : Int))) (.front [] [] (((decide (0 ≤ x0_8) && decide (x0_8 < (s.length : Int))) && true) && true) true (.br ((v.mould == c1.mould) && ((v.number == c1.number) && true)) (.out (.r0 x0_8)) (.need (inR .i64 (x0_8 + (1 : Int))) (.go (.l0 (x0_8 + (1 : Int))))))) (.out (.r0 (-1))))
noncomputable def g184 (s : List Cast) (v : Cast) : P184 → List Item × St
  | .e => bd Tryz.f184 [tCast.lst s, .agg [iI v.mould, iI v.number]] 17
  | .l0 x0_8 => (cutOf Tryz.f184 0, ⟨mk 19 [(0, tCast.lst s), (3, .ref 0 0 0), (7, iI (s.length : Int)), (8, iI x0_8)], [.cells [iI v.mould, iI v.number]], []⟩)
noncomputable def n184 : R184 → Exit × St
  | .r0 r0 => (.ret, ⟨mk 19 [(4, iI r0)], [], []⟩)
noncomputable def v184 : R184 → V
  | .r0 r0 => iI r0
theorem s184 (s : List Cast) (v : Cast) : Sm 0 (g184 s v) (T184 s v) (n184)
  | .e => ⟨400, by kernel_rfl⟩
  | .l0 _ => ⟨400, by kernel_rfl⟩
theorem q184 : ∀ r, bodyQ Tryz.prog Tryz.f184 (· = v184 r) (n184 r).1 (n184 r).2
  | .r0 r0 => bq (iI r0) (by kernel_rfl)
theorem w184 (s : List Cast) (v : Cast) {post : V → Prop} (h : WQ (T184 s v) v184 post .e) : PC 184 [tCast.lst s, .agg [iI v.mould, iI v.number]] post :=
  PCalls.wq Tryz.func184 (s184 s v) q184 h
theorem e184 : ∀ xs w, (callFunc 184 xs).run Tryz.prog w = .ok (.enter 184 xs) w := PCalls.enters Tryz.func184 (c := Tryz.f184.body.getD .skip) (by kernel_rfl) (by kernel_rfl)
theorem c184 (s : List Cast) (v : Cast) : PC 184 [tCast.lst s, .agg (tCast.cells v)] (· = iI (place (firstI (fun x => sameC v x) 0 s))) := by
  refine PCalls.assume e184 0 (by simp) .list fun hs => ?_
  refine w184 s v (WP.step ?_)
  simp only [T184, Go, Ends', v184, Tr.sure, SS]
  repeat' with_reducible first | intro _ | apply And.intro
  refine WP.findI (fun i => .l0 i) rfl s zCast (fun x => sameC v x) (fun i hi => ?_) fun hI => ?_
  · have hr := inRi hi hs
    refine WP.once ?_
    simp only [T184, Tr.sure, SS, hi, z5, sameC_b]
    repeat' with_reducible first | intro _ | apply And.intro
    all_goals first | (simp [hr, place, Go, Ends', v184, -List.getD_eq_getElem?_getD, *]; done) | (simp_all [hr, place, Go, Ends', v184, -List.getD_eq_getElem?_getD]; done)
  · refine WP.step ?_
    simp only [T184, Go, Ends', v184, Tr.sure, SS]
    repeat' with_reducible first | intro _ | apply And.intro
    all_goals simp [hI, place, Go, Ends', v184, -List.getD_eq_getElem?_getD, *]
inductive P141
  | e
inductive R141
  | r0 (r0 : Bool)
noncomputable def T141 (s : List Cast) (v : Cast) : P141 → Tr P141 R141
  | .e => (.call 184 [tCast.lst s, .agg [iI v.mould, iI v.number]] (iI (place (firstI (fun x => sameC v x) 0 s))) true true (.out (.r0 (decide ((place (firstI (fun x => sameC v x) 0 s)) ≥ (0 : Int))))))
noncomputable def g141 (s : List Cast) (v : Cast) : P141 → List Item × St
  | .e => bd Tryz.f141 [tCast.lst s, .agg [iI v.mould, iI v.number]] 7
noncomputable def n141 : R141 → Exit × St
  | .r0 r0 => (.ret, ⟨mk 9 [(4, .bool r0)], [], []⟩)
noncomputable def v141 : R141 → V
  | .r0 r0 => .bool r0
theorem s141 (s : List Cast) (v : Cast) : Sm 0 (g141 s v) (T141 s v) (n141)
  | .e => ⟨400, by kernel_rfl⟩
theorem q141 : ∀ r, bodyQ Tryz.prog Tryz.f141 (· = v141 r) (n141 r).1 (n141 r).2
  | .r0 r0 => bq (.bool r0) (by kernel_rfl)
theorem w141 (s : List Cast) (v : Cast) {post : V → Prop} (h : WQ (T141 s v) v141 post .e) : PC 141 [tCast.lst s, .agg [iI v.mould, iI v.number]] post :=
  PCalls.wq Tryz.func141 (s141 s v) q141 h
theorem c141 (s : List Cast) (v : Cast) : PC 141 [tCast.lst s, .agg (tCast.cells v)] (· = .bool (s.any fun x => sameC v x)) := by
  have h1 : decide (0 ≤ place (firstI (fun x => sameC v x) 0 s)) = s.any fun x => sameC v x := by rw [← firstI_any _ s 0, Bool.eq_iff_iff, decide_eq_true_iff]; exact place_ge _
  refine w141 s v (WP.step ?_)
  simp only [T141, Go, Ends', v141, Tr.sure, SS]
  repeat' with_reducible first | intro _ | apply And.intro
  all_goals first | exact (c184 _ _) | (simp [h1, Go, Ends', v141, -List.getD_eq_getElem?_getD, *]; done)
inductive P140
  | e
  | l0 (x0_32 : Int) (e0_0 : List V) (a0_2 : Nat → Cast)
  | l1 (x0_32 : Int) (x1_39 : Int) (e1_0 : List V) (a1_2 : Nat → Cast)
  | l2 (x0_32 : Int) (x1_39 : Int) (e1_0 : List V) (a1_2 : Nat → Cast) (x2_59 : Int)
inductive R140
  | r0 (r0 : List V) (r1 : Nat → Cast) (r2 : Bool)
noncomputable def T140 (X : Ext) (tr : List V) (c : Case) (ks : List Int) (f : Nat → Cast) (hd : Nat) : P140 → Tr P140 R140
  | .e => let c1 : List V := [.arr 2 4 (rowsFn tCast f)]; (.br ((hd : Int) == (c.shop.heads.length : Int)) (.yld X tr c1 c1 true (.out (.r0 (tr ++ [V.tuple c1]) f (X.go (tr ++ [V.tuple c1]))))) (.go (.l0 0 tr f)))
  | .l0 x0_32 e0_0 a0_2 => let c1 := x0_32 < (c.shop.moulds.length : Int); (.br (decide c1) (.need (decide (0 ≤ x0_32) && decide c1) (.go (.l1 x0_32 0 e0_0 a0_2))) (.out (.r0 e0_0 a0_2 true)))
  | .l1 x0_32 x1_39 e1_0 a1_2 => let c1 := x1_39 + (1 : Int); let c2 := ([iI x0_32, iI c1] : List V); let c3 := (hd : Int); let c4 := (⟨x0_32, c1⟩ : Cast); (.br (decide (x1_39 < (c.shop.moulds.getD (x0_32).toNat tMould.zero).casts)) (.need (inR .i64 c1) (.front [] [] (((((decide (0 ≤ (0 : Int)) && decide ((0 : Int) ≤ (hd : Int))) && decide ((hd : Int) ≤ (4 : Int))) && decide (4 = 4)) && true) && true) true (.call 141 [.list 2 (c3.toNat) (rowsFn tCast a1_2), .agg [iI x0_32, iI c1]] (.bool ((preA f hd).any fun x => sameC c4 x)) ((decide (c3.toNat ≤ 4)) && true) true (.br ((preA f hd).any fun x => sameC c4 x) (.need (inR .i64 c1) (.go (.l1 x0_32 c1 e1_0 a1_2))) (.need (decide (0 ≤ (hd : Int)) && decide ((hd : Int) < (4 : Int))) (.need ((decide (c3.toNat < 4) && decide (0 + c2.length ≤ 2)) && underL 0 c2) (.telb 2 2 4 (fun r' j => if r' = c3.toNat ∧ 0 ≤ j ∧ j < 0 + c2.length then c2.getD (j - 0) uU else (rowsFn tCast a1_2) r' j) (rowsFn tCast (upd a1_2 (c3.toNat) c4)) (.go (.l2 x0_32 x1_39 e1_0 a1_2 0))))))))) (.need (inR .i64 (x0_32 + (1 : Int))) (.go (.l0 (x0_32 + (1 : Int)) e1_0 a1_2))))
  | .l2 x0_32 x1_39 e1_0 a1_2 x2_59 => let c3 := ([iI 0, iI 0] : List V); let c6 := (decide (((hd : Int)).toNat < 4) && decide (0 + c3.length ≤ 2)) && underL 0 c3; let c8 : List V := [fG 140 [rR (court c ks), .ref 1 0 0, .ref 2 0 0, .ref 3 0 0]]; let c9 := decide (0 ≤ (hd : Int)) && decide ((hd : Int) < (4 : Int)); let c10 := ((hd : Int)).toNat; let c11 := x1_39 + (1 : Int); let c1 := upd a1_2 c10 (⟨x0_32, c11⟩ : Cast); let c2 := leavesH c.shop (hd + 1) c1; let c4 := lastA c.shop c1 x0_32 x2_59 c.shop.heads.length; let c5 := feed X.go e1_0 (ysA c2); let c7 := endF X.go c1 e1_0 c2; let c12 := (⟨0, 0⟩ : Cast); let c13 := rowsFn tCast c1; (.br (decide (x2_59 < c.shop.features)) (.call 142 [court c ks, .arr 2 4 c13, iI x0_32, iI x2_59] (.agg [iI (c4.lo), iI (c4.hi)]) true true (.br (decide (c4.lo > c4.hi)) (.need c9 (.need c6 (.telb 2 2 4 (fun r' j => if r' = ((hd : Int)).toNat ∧ 0 ≤ j ∧ j < 0 + c3.length then c3.getD (j - 0) uU else c13 r' j) (rowsFn tCast (upd c1 c10 c12)) (.need (inR .i64 c11) (.go (.l1 x0_32 c11 e1_0 (upd c1 c10 c12))))))) (.need (inR .i64 (x2_59 + (1 : Int))) (.go (.l2 x0_32 x1_39 e1_0 a1_2 (x2_59 + (1 : Int))))))) (.need (inR .i64 ((hd : Int) + (1 : Int))) (.hcall 140 [iI ((hd : Int) + (1 : Int)), rR (court c ks), .ref 1 0 0, .ref 2 0 0, .ref 3 0 0] (.bool (X.go c5)) [.ext X e1_0, .cells [.yld 0], .rows 130 2 4 c13, .cells c8] [.ext X c5, .cells [.yld 0], .rows 130 2 4 (rowsFn tCast c7), .cells c8] true (.br (!(X.go c5)) (.out (.r0 c5 c7 false)) (.need c9 (.need c6 (.telb 2 2 4 (fun r' j => if r' = ((hd : Int)).toNat ∧ 0 ≤ j ∧ j < 0 + c3.length then c3.getD (j - 0) uU else (rowsFn tCast c7) r' j) (rowsFn tCast (upd c7 c10 c12)) (.need (inR .i64 c11) (.go (.l1 x0_32 c11 c5 (upd c7 c10 c12)))))))))))
noncomputable def g140 (X : Ext) (tr : List V) (c : Case) (ks : List Int) (f : Nat → Cast) (hd : Nat) : P140 → List Item × St
  | .e => ([.code (Tryz.f140.body.getD .skip)], ⟨[iI (hd : Int), rR (court c ks), .ref 1 0 0, .ref 2 0 0, .ref 3 0 0] ++ List.replicate 81 uU, [.ext X tr, .cells [.yld 0], .rows 130 2 4 (rowsFn tCast f), .cells [fG 140 [rR (court c ks), .ref 1 0 0, .ref 2 0 0, .ref 3 0 0]]], []⟩)
  | .l0 x0_32 e0_0 a0_2 => (cutOf Tryz.f140 0, ⟨mk 86 [(0, iI (hd : Int)), (1, rR (court c ks)), (3, .ref 2 0 0), (4, .ref 3 0 0), (30, tMould.lst c.shop.moulds), (31, iI (c.shop.moulds.length : Int)), (32, iI x0_32)], [.ext X e0_0, .cells [.yld 0], .rows 130 2 4 (rowsFn tCast a0_2), .cells [fG 140 [rR (court c ks), .ref 1 0 0, .ref 2 0 0, .ref 3 0 0]]], []⟩)
  | .l1 x0_32 x1_39 e1_0 a1_2 => (cutOf Tryz.f140 1, ⟨mk 86 [(0, iI (hd : Int)), (1, rR (court c ks)), (3, .ref 2 0 0), (4, .ref 3 0 0), (7, iI x0_32), (30, tMould.lst c.shop.moulds), (31, iI (c.shop.moulds.length : Int)), (32, iI x0_32), (38, iI ((c.shop.moulds.getD (x0_32).toNat tMould.zero).casts)), (39, iI x1_39)], [.ext X e1_0, .cells [.yld 0], .rows 130 2 4 (rowsFn tCast a1_2), .cells [fG 140 [rR (court c ks), .ref 1 0 0, .ref 2 0 0, .ref 3 0 0]]], []⟩)
  | .l2 x0_32 x1_39 e1_0 a1_2 x2_59 => (cutOf Tryz.f140 2, ⟨mk 86 [(0, iI (hd : Int)), (1, rR (court c ks)), (3, .ref 2 0 0), (4, .ref 3 0 0), (7, iI x0_32), (30, tMould.lst c.shop.moulds), (31, iI (c.shop.moulds.length : Int)), (32, iI x0_32), (38, iI ((c.shop.moulds.getD (x0_32).toNat tMould.zero).casts)), (39, iI x1_39), (58, iI c.shop.features), (59, iI x2_59)], [.ext X e1_0, .cells [.yld 0], .rows 130 2 4 (rowsFn tCast (upd a1_2 (((hd : Int)).toNat) (⟨x0_32, (x1_39 + (1 : Int))⟩ : Cast))), .cells [fG 140 [rR (court c ks), .ref 1 0 0, .ref 2 0 0, .ref 3 0 0]]], []⟩)
noncomputable def n140 (X : Ext) (tr : List V) (c : Case) (ks : List Int) (f : Nat → Cast) (hd : Nat) : R140 → Exit × St
  | .r0 r0 r1 r2 => (.ret, ⟨mk 86 [(6, .bool r2)], [.ext X r0, .cells [.yld 0], .rows 130 2 4 (rowsFn tCast r1), .cells [fG 140 [rR (court c ks), .ref 1 0 0, .ref 2 0 0, .ref 3 0 0]]], []⟩)
theorem s140 (X : Ext) (tr : List V) (c : Case) (ks : List Int) (f : Nat → Cast) (hd : Nat) : Sm 4 (g140 X tr c ks f hd) (T140 X tr c ks f hd) (n140 X tr c ks f hd)
  | .e => ⟨400, by kernel_rfl⟩
  | .l0 _ _ _ => ⟨400, by kernel_rfl⟩
  | .l1 _ _ _ _ => ⟨400, by kernel_rfl⟩
  | .l2 _ _ _ _ _ => ⟨400, by kernel_rfl⟩
noncomputable def hh140 (X : Ext) (tr : List V) (c : Case) (ks : List Int) (f : Nat → Cast) (hd : Nat) : R140 → List Blk
  | .r0 r0 r1 r2 => [.ext X r0, .cells [.yld 0], .rows 130 2 4 (rowsFn tCast r1), .cells [fG 140 [rR (court c ks), .ref 1 0 0, .ref 2 0 0, .ref 3 0 0]]]
noncomputable def v140 (X : Ext) (tr : List V) (c : Case) (ks : List Int) (f : Nat → Cast) (hd : Nat) : R140 → V
  | .r0 r0 r1 r2 => .bool r2
theorem q140 (X : Ext) (tr : List V) (c : Case) (ks : List Int) (f : Nat → Cast) (hd : Nat) : ∀ r, ((n140 X tr c ks f hd r).1 = .normal ∨ (n140 X tr c ks f hd r).1 = .ret) ∧ (n140 X tr c ks f hd r).2.d = [] ∧ (n140 X tr c ks f hd r).2.h = hh140 X tr c ks f hd r ∧ resultV Tryz.prog Tryz.f140 (n140 X tr c ks f hd r).2 = some (v140 X tr c ks f hd r)
  | .r0 r0 r1 r2 => ⟨.inr rfl, rfl, rfl, by kernel_rfl⟩
theorem w140 (X : Ext) (tr : List V) (c : Case) (ks : List Int) (f : Nat → Cast) (hd : Nat) {V0 : V} {h' : List Blk} (h : WP Tryz.prog ⟨none, 4⟩ (T140 X tr c ks f hd) (Ends' fun r => v140 X tr c ks f hd r = V0 ∧ hh140 X tr c ks f hd r = h') .e) : HCalls Tryz.prog 140 [iI (hd : Int), rR (court c ks), .ref 1 0 0, .ref 2 0 0, .ref 3 0 0] V0 [.ext X tr, .cells [.yld 0], .rows 130 2 4 (rowsFn tCast f), .cells [fG 140 [rR (court c ks), .ref 1 0 0, .ref 2 0 0, .ref 3 0 0]]] h' :=
  HCalls.wp mx Tryz.func140 (by kernel_rfl) (by kernel_rfl) (T140 X tr c ks f hd) (g140 X tr c ks f hd) (n140 X tr c ks f hd) .e rfl (s140 X tr c ks f hd) h fun r hr => by rw [← hr.1, ← hr.2]; exact q140 X tr c ks f hd r
abbrev nextV (c : Case) (ks : List Int) : V := fG 140 [rR (court c ks), .ref 1 0 0, .ref 2 0 0, .ref 3 0 0]
abbrev HN (X : Ext) (c : Case) (ks : List Int) (tr : List V) (f : Nat → Cast) : List Blk := [.ext X tr, .cells [.yld 0], .rows 130 2 4 (rowsFn tCast f), .cells [nextV c ks]]
def castsTo (s : Shop) (m n : Nat) : List Cast := (List.range m).flatMap (castsAt s) ++ (List.range n).map fun (k : Nat) => ⟨(m : Int), (k : Int) + 1⟩
theorem castsTo_0 (s : Shop) : castsTo s 0 0 = [] := rfl
theorem castsTo_snoc (s : Shop) (m n : Nat) : castsTo s m (n + 1) = castsTo s m n ++ [⟨(m : Int), (n : Int) + 1⟩] := by
  unfold castsTo; rw [List.range_succ, List.map_append]; simp
theorem castsTo_row (s : Shop) (m : Nat) : castsTo s m (s.moulds.getD m zMould).casts.toNat = castsTo s (m + 1) 0 := by
  unfold castsTo; rw [List.range_succ, List.flatMap_append]; simp [castsAt]
theorem castsTo_all (s : Shop) : castsTo s s.moulds.length 0 = allCasts s := by simp [castsTo, allCasts]
theorem castsTo_part (s : Shop) {m n : Nat} (hm : m < s.moulds.length) (hn : n < (s.moulds.getD m zMould).casts.toNat) : ∃ Q, allCasts s = castsTo s m n ++ ⟨(m : Int), (n : Int) + 1⟩ :: Q := by
  obtain ⟨d, hd⟩ : ∃ d, s.moulds.length = m + 1 + d := ⟨s.moulds.length - (m + 1), by omega⟩
  obtain ⟨g, hg⟩ : ∃ g, (s.moulds.getD m zMould).casts.toNat = n + 1 + g := ⟨(s.moulds.getD m zMould).casts.toNat - (n + 1), by omega⟩
  refine ⟨(List.range g).map (fun (k : Nat) => (⟨(m : Int), ((n + 1 + k : Nat) : Int) + 1⟩ : Cast)) ++ (List.range d).flatMap fun k => castsAt s (m + 1 + k), ?_⟩
  have h1 : allCasts s = castsTo s (m + 1) 0 ++ (List.range d).flatMap fun k => castsAt s (m + 1 + k) := by
    unfold allCasts castsTo
    rw [hd, List.range_add, List.flatMap_append, List.flatMap_map]; simp
  have h2 : castsTo s (m + 1) 0 = castsTo s m (n + 1) ++ (List.range g).map (fun (k : Nat) => (⟨(m : Int), ((n + 1 + k : Nat) : Int) + 1⟩ : Cast)) := by
    rw [← castsTo_row, hg]
    unfold castsTo
    rw [List.range_add, List.map_append, List.map_map, List.append_assoc]; rfl
  rw [h1, h2, castsTo_snoc]; simp
theorem VLe.pre (f : Nat → Cast) (n k : Nat) (h : k = n) : VLe (.list 2 k (rowsFn tCast f)) (tCast.lst (preA f n)) := by
  subst h
  have e : (preA f k).length = k := by simp [preA]
  show VLe _ (.list 2 (preA f k).length (rowsOf tCast (preA f k)))
  rw [e]
  exact VLe.list fun i j hi _ => by simp [rowsFn, rowsOf, preA, List.getD_eq_getElem?_getD, hi]
theorem tel_updK (f : Nat → Cast) (i : Nat) (a b : Int) (r j : Nat) : VLe (if r = i ∧ 0 ≤ j ∧ j < 0 + ([iI a, iI b] : List V).length then ([iI a, iI b] : List V).getD (j - 0) uU else rowsFn tCast f r j) (rowsFn tCast (upd f i ⟨a, b⟩) r j) := by
  rcases Nat.lt_or_ge j 2 with hj | hj
  · exact tel_upd tCast f i ⟨a, b⟩ (n := r + 1) (w := 2) _ rfl rfl r j (by omega) hj
  · have : rowsFn tCast (upd f i ⟨a, b⟩) r j = uU := by
      unfold rowsFn; rw [List.getD_eq_getElem?_getD, List.getElem?_eq_none (by simpa [tCast] using hj)]; rfl
    rw [this]; exact VLe.undef _
theorem under2 (a b : Int) : underL 0 [iI a, iI b] = true := rfl
theorem vle_one (v : V) (j : Nat) : VLe (([v] : List V).getD j uU) (([v] : List V).getD j uU) := VLe.refl _
theorem go_stop {α ρ : Type} {P : Program} {ro : Env} {T : α → Tr α ρ} {φ : α ⊕ ρ → Prop} {b : α} (h : φ (.inl b)) : Ab.Go P ro T φ (.inl b) := WP.stop h
set_option maxHeartbeats 4000000 in
theorem c140 (c : Case) (ks : List Int) (h : OkCase c) (X : Ext) (hY : YSpec Tryz.prog X) : ∀ (n hd : Nat) (f : Nat → Cast) (tr : List V), hd + n = c.shop.heads.length → (∀ i, hd ≤ i → f i = zCast) → (∀ i, 0 ≤ (f i).number ∧ (f i).number ≤ 4) →
    X.go tr = true → tr ++ ysA (leavesH c.shop hd f) <+: X.ys → HCalls Tryz.prog 140 [iI (hd : Int), rR (court c ks), .ref 1 0 0, .ref 2 0 0, .ref 3 0 0] (.bool (X.go (feed X.go tr (ysA (leavesH c.shop hd f)))))
      (HN X c ks tr f) (HN X c ks (feed X.go tr (ysA (leavesH c.shop hd f))) (endF X.go f tr (leavesH c.shop hd f)))
  | 0, hd, f, tr, hn, hz, hb, hg, hp => by
    have hh : hd = c.shop.heads.length := by omega
    have hl : leavesH c.shop hd f = [f] := by rw [hh]; exact leavesH_end c.shop f
    rw [hl] at hp ⊢
    have hf : feed X.go tr (ysA [f]) = tr ++ [yA f] := feed_one hg (yA f)
    have he : endF X.go f tr [f] = f := by
      simp only [endF, hg, cond_true]
      cases X.go (tr ++ [yA f]) <;> rfl
    rw [hf, he]
    have hi : ((hd : Int) == (c.shop.heads.length : Int)) = true := by rw [hh]; simp
    have hp' : tr ++ [V.tuple [.arr 2 4 (rowsFn tCast f)]] <+: X.ys := hp
    refine w140 X tr c ks f hd (WP.step ?_)
    simp only [T140, Go, Ends', v140, Tr.sure, SS, hi]
    repeat' with_reducible first | intro _ | apply And.intro
    all_goals first | exact hY | exact hp' | exact (by with_reducible exact vle_one _ _) | (simp [hh140, yA, hg, Go, Ends', v140, -List.getD_eq_getElem?_getD, *]; done)
  | n + 1, hd, f, tr, hn, hz, hb, hg, hp => by
    have hlt : hd < c.shop.heads.length := by omega
    have h4 := h.shop.nh
    have hm2 := h.shop.nm
    have hft := h.shop.feat
    rw [leavesH_step c.shop hlt f] at hp ⊢
    obtain ⟨B, hB⟩ : ∃ B, B = belowA c.shop hd f := ⟨_, rfl⟩
    rw [← hB] at hp ⊢
    have hi : ((hd : Int) == (c.shop.heads.length : Int)) = false := by rw [beq_eq_false_iff_ne]; omega
    obtain ⟨K, hK⟩ : ∃ K : List Cast → List V, K = fun P => feed X.go tr (ysA (P.flatMap B)) := ⟨_, rfl⟩
    have K0 : K [] = tr := by rw [hK]; rfl
    have Ks : ∀ P x, K (P ++ [x]) = feed X.go (K P) (ysA (B x)) := fun P x => by
      rw [hK]; simp only [List.flatMap_append, List.flatMap_cons, List.flatMap_nil, List.append_nil, ysA_app, feed_app]
    have Kp : ∀ P, X.go (K P) = true → K P = tr ++ ysA (P.flatMap B) := fun P hP => by
      rw [hK] at hP ⊢; exact feed_all hP
    have hall : feed X.go tr (ysA ((allCasts c.shop).flatMap B)) = K (allCasts c.shop) := by rw [hK]
    have hd0 : 0 ≤ (hd : Int) := by omega
    have hd4 : (hd : Int) < 4 := by omega
    have hd4' : hd < 4 := by omega
    have hd5 : hd ≤ 4 := by omega
    have hd5' : (hd : Int) ≤ 4 := by omega
    have hz0 : f hd = zCast := hz hd (Nat.le_refl _)
    rw [hall]
    refine w140 X tr c ks f hd (WP.step ?_)
    simp only [T140, Go, Ends', v140, Tr.sure, SS, hi]
    repeat' with_reducible first | intro _ | apply And.intro
    refine WP.count (fun m => .l0 m (K (castsTo c.shop m 0)) f) (by rw [castsTo_0, K0]; rfl) c.shop.moulds.length (fun m => X.go (K (castsTo c.shop m 0)) = true) (by rw [castsTo_0, K0]; exact hg) (fun m hm hI => ?_) fun hI => ?_
    · have hr : inR .i64 ((m : Int) + 1) = true := inR64 (by omega) (by omega)
      have hm' : (m : Int) < c.shop.moulds.length := by omega
      have hc := (h.shop.mould _ (getD_mem zMould c.shop.moulds m hm)).1
      refine WP.step ?_
      simp only [T140, Go, Ends', v140, Tr.sure, SS, hm']
      repeat' with_reducible first | intro _ | apply And.intro
      refine WP.count (fun k => .l1 m k (K (castsTo c.shop m k)) f) rfl (c.shop.moulds.getD m zMould).casts.toNat (fun k => X.go (K (castsTo c.shop m k)) = true) hI (fun k hk hI1 => ?_) fun hI1 => ?_
      · have hk' : (k : Int) < (c.shop.moulds.getD m zMould).casts := by omega
        have hr1 : inR .i64 ((k : Int) + 1) = true := inR64 (by omega) (by omega)
        obtain ⟨x, hx⟩ : ∃ x : Cast, x = ⟨(m : Int), (k : Int) + 1⟩ := ⟨_, rfl⟩
        have hsn := castsTo_snoc c.shop m k
        rw [← hx] at hsn
        have hno : okA c.shop f hd x = false → K (castsTo c.shop m (k + 1)) = K (castsTo c.shop m k) := fun e => by
          have : B x = [] := by rw [hB, belowA, e]; rfl
          rw [hsn, Ks, this]; rfl
        have hstep : ∀ b : Bool, okA c.shop f hd x = false → (Sum.inl (P140.l1 m ((k : Int) + 1) (K (castsTo c.shop m k)) f) : P140 ⊕ R140) = Sum.inl (P140.l1 m ((k + 1 : Nat) : Int) (K (castsTo c.shop m (k + 1))) f) := fun _ e => by rw [hno e]; rfl
        have hoff : (preA f hd).any (fun y => sameC x y) = true → okA c.shop f hd x = false := fun e => by unfold okA; rw [e]; rfl
        rw [hx] at hoff
        have hpre := PCalls.arg (pre := []) (c141 (preA f hd) x) (VLe.pre f hd hd rfl)
        rw [hx] at hpre
        have hbk : upd (upd f hd x) hd (⟨0, 0⟩ : Cast) = f := upd_back hz0 x
        rw [hx] at hbk
        obtain ⟨F, hF⟩ : ∃ F : Nat, c.shop.features = F := ⟨c.shop.features.toNat, by omega⟩
        have hF' : c.shop.features.toNat = F := by omega
        have hnum : ∀ i, 0 ≤ (upd f hd x i).number ∧ (upd f hd x i).number ≤ 4 := fun i => by
          unfold upd
          split
          · rw [hx]; simp only; omega
          · exact hb i
        rw [hx] at hnum
        refine WP.step ?_
        simp only [T140, Go, Ends', v140, Tr.sure, SS, hk', hd0, hd4, hd4', z2, z5]
        repeat' with_reducible first | intro _ | apply And.intro
        all_goals first | exact hpre | exact (by with_reducible exact tel_updK _ _ _ _ _ _) | exact (by with_reducible exact under2 _ _) | (simp [hr1, hd5, hd5', Go, Ends', v140, -List.getD_eq_getElem?_getD, *]; done) | skip
        · have hany : ((preA f hd).any fun y => sameC (⟨(m : Int), (k : Int) + 1⟩ : Cast) y) = true := by with_reducible assumption
          have hk0 : okA c.shop f hd x = false := by rw [hx]; exact hoff hany
          have hk1 : X.go (K (castsTo c.shop m (k + 1))) = true := by rw [hno hk0]; exact hI1
          refine WP.stop ?_
          left
          exact ⟨hstep true hk0, hk1⟩
        · have hany : ((preA f hd).any fun y => sameC (⟨(m : Int), (k : Int) + 1⟩ : Cast) y) = false := by with_reducible assumption
          have hokq : ∀ b : Bool, ((List.range F).any fun (q : Nat) => decide ((lastA c.shop (upd f hd x) m q c.shop.heads.length).hi < (lastA c.shop (upd f hd x) m q c.shop.heads.length).lo)) = b → okA c.shop f hd x = !b := fun b hb => by
            unfold okA; rw [hF']
            have e : (⟨(m : Int), (k : Int) + 1⟩ : Cast).mould = m := rfl
            rw [← hx] at hany e
            rw [hany, e, hb]; rfl
          refine WP.anyR (fun q => .l2 m k (K (castsTo c.shop m k)) f q) rfl F (fun q => decide ((lastA c.shop (upd f hd x) m q c.shop.heads.length).hi < (lastA c.shop (upd f hd x) m q c.shop.heads.length).lo)) (fun q hq => ?_) fun hQ => ?_
          · have hrq : inR .i64 ((q : Int) + 1) = true := inR64 (by omega) (by omega)
            have hq' : (q : Int) < F := by omega
            have hcall := c142 c ks (upd f hd (⟨(m : Int), (k : Int) + 1⟩ : Cast)) m q h.shop hnum (by omega) (by omega)
            have hbad : ((List.range F).any fun (q : Nat) => decide ((lastA c.shop (upd f hd x) m q c.shop.heads.length).hi < (lastA c.shop (upd f hd x) m q c.shop.heads.length).lo)) = true → okA c.shop f hd x = false := hokq true
            rw [hx] at hbad
            rw [hx]
            refine WP.once ?_
            simp only [T140, Tr.sure, SS, hq', hd0, hd4, hd4', hF]
            repeat' with_reducible first | intro _ | apply And.intro
            all_goals first | exact hcall | exact (by with_reducible exact tel_updK _ _ _ _ _ _) | exact (by with_reducible exact under2 _ _) | (simp [hrq, hr1, hbk, Go, Ends', v140, -List.getD_eq_getElem?_getD, *]; done) | skip
            all_goals
              right
              refine ⟨by with_reducible assumption, fun hany2 => ?_⟩
              have hk0 : okA c.shop f hd x = false := by rw [hx]; exact hbad hany2
              have hk1 : X.go (K (castsTo c.shop m (k + 1))) = true := by rw [hno hk0]; exact hI1
              rw [hbk]
              refine go_stop ?_
              left
              exact ⟨hstep true hk0, hk1⟩
          · have hok : okA c.shop f hd x = true := hokq false hQ
            have hBx : B x = leavesH c.shop (hd + 1) (upd f hd x) := by rw [hB, belowA, hok]; rfl
            have hKs : feed X.go (K (castsTo c.shop m k)) (ysA (leavesH c.shop (hd + 1) (upd f hd x))) = K (castsTo c.shop m (k + 1)) := by rw [hsn, Ks, hBx]
            obtain ⟨Q, hQs⟩ := castsTo_part c.shop hm hk
            rw [← hx] at hQs
            have hpf : K (castsTo c.shop m k) ++ ysA (leavesH c.shop (hd + 1) (upd f hd x)) <+: X.ys := by
              rw [Kp _ hI1]
              refine List.IsPrefix.trans ?_ hp
              rw [hQs, List.flatMap_append, List.flatMap_cons, ysA_app, ysA_app, hBx, List.append_assoc]
              exact (List.prefix_append_right_inj tr).2 ((List.prefix_append_right_inj _).2 (List.prefix_append _ _))
            have ih := c140 c ks h X hY n (hd + 1) (upd f hd x) (K (castsTo c.shop m k)) (by omega) (fun i hi2 => by unfold upd; rw [if_neg (by omega)]; exact hz i (by omega)) (by rw [hx]; exact hnum) hI1 hpf
            rw [hKs] at ih
            have hf0 : X.go (K (castsTo c.shop m (k + 1))) = true → upd (endF X.go (upd f hd x) (K (castsTo c.shop m k)) (leavesH c.shop (hd + 1) (upd f hd x))) hd ⟨0, 0⟩ = f := fun hgo => by
              rw [endF_go (by rw [hKs]; exact hgo), hx]; exact hbk
            have hgoQ : X.go (K (castsTo c.shop m (k + 1))) = false → K (allCasts c.shop) = K (castsTo c.shop m (k + 1)) := fun hgo => by
              rw [hQs, show castsTo c.shop m k ++ x :: Q = (castsTo c.shop m k ++ [x]) ++ Q by simp, ← hsn, hK]
              simp only [List.flatMap_append, ysA_app, feed_app]
              rw [hK] at hgo
              exact feed_stop hgo _
            have heQ : X.go (K (castsTo c.shop m (k + 1))) = false → endF X.go f tr ((allCasts c.shop).flatMap B) = endF X.go (upd f hd x) (K (castsTo c.shop m k)) (leavesH c.shop (hd + 1) (upd f hd x)) := fun hgo => by
              have hkk : K (castsTo c.shop m k) = feed X.go tr (ysA ((castsTo c.shop m k).flatMap B)) := by rw [hK]
              rw [hQs, List.flatMap_append, List.flatMap_cons, endF_app (by rw [← hkk]; exact hI1), ← hkk, hBx]
              exact endF_stop _ hI1 (by rw [hKs]; exact hgo)
            rw [hx] at ih hf0 heQ hKs
            simp only [Int.natCast_add] at ih
            have hrh : inR .i64 ((hd : Int) + 1) = true := inR64 (by omega) (by omega)
            refine WP.step ?_
            simp only [T140, Go, Ends', v140, Tr.sure, SS, Int.lt_irrefl, hF, hKs, hd0, hd4, hd4']
            repeat' with_reducible first | intro _ | apply And.intro
            all_goals first | exact ih | exact (by with_reducible exact tel_updK _ _ _ _ _ _) | exact (by with_reducible exact under2 _ _) | (simp [hrh, Go, Ends', v140, -List.getD_eq_getElem?_getD, *]; done) | skip
            · have hgf : X.go (K (castsTo c.shop m (k + 1))) = false := by with_reducible assumption
              right; right
              rw [hgoQ hgf, heQ hgf, hgf]
              exact ⟨rfl, rfl⟩
            · have hgt : X.go (K (castsTo c.shop m (k + 1))) = true := by with_reducible assumption
              rw [hf0 hgt]
              refine WP.stop ?_
              left
              exact ⟨rfl, hgt⟩
      · have hle : ¬ (((c.shop.moulds.getD m zMould).casts.toNat : Nat) : Int) < (c.shop.moulds.getD m zMould).casts := by omega
        have hrow := castsTo_row c.shop m
        rw [hrow] at hI1 ⊢
        refine WP.step ?_
        simp only [T140, Go, Ends', v140, Tr.sure, SS, z2, hle]
        repeat' with_reducible first | intro _ | apply And.intro
        all_goals first | (simp [hr, hI1, Go, Ends', v140, -List.getD_eq_getElem?_getD, *]; done) | skip
        refine WP.stop ?_
        left
        exact ⟨rfl, hI1⟩
    · have hE : endF X.go f tr ((allCasts c.shop).flatMap B) = f := endF_go (by rw [hall, ← castsTo_all]; exact hI)
      rw [hE]
      rw [castsTo_all] at hI ⊢
      refine WP.step ?_
      simp only [T140, Go, Ends', v140, Tr.sure, SS, Int.lt_irrefl]
      repeat' with_reducible first | intro _ | apply And.intro
      all_goals first | (simp [hh140, hI, Go, Ends', v140, -List.getD_eq_getElem?_getD, *]; done) | (simp_all [hh140, hI, Go, Ends', v140, -List.getD_eq_getElem?_getD]; done)
end
noncomputable section
inductive P139
  | e
inductive R139
  | r0 (r0 : List V)
noncomputable def T139 (X : Ext) (c : Case) (ks : List Int) : P139 → Tr P139 R139
  | .e => let c1 : List V := [fG 140 [rR (court c ks), .ref 1 0 0, .ref 2 0 0, .ref 3 0 0]]; (.wait 4 (.telb 2 2 4 (fun _ j => ([iI 0, iI 0] : List V).getD j uU) (rowsFn tCast (fun _ => tCast.zero)) (.hcall 140 [iI 0, rR (court c ks), .ref 1 0 0, .ref 2 0 0, .ref 3 0 0] (.bool (X.go (feed X.go ([]) (ysA (leavesH c.shop 0 (fun _ => tCast.zero)))))) [.ext X ([]), .cells [.yld 0], .rows 130 2 4 (rowsFn tCast (fun _ => tCast.zero)), .cells c1] [.ext X (feed X.go ([]) (ysA (leavesH c.shop 0 (fun _ => tCast.zero)))), .cells [.yld 0], .rows 130 2 4 (rowsFn tCast (endF X.go (fun _ => tCast.zero) ([]) (leavesH c.shop 0 (fun _ => tCast.zero)))), .cells c1] true (.out (.r0 (feed X.go ([]) (ysA (leavesH c.shop 0 (fun _ => tCast.zero)))))))))
noncomputable def g139 (X : Ext) (c : Case) (ks : List Int) : P139 → List Item × St
  | .e => ([.code (Tryz.f139.body.getD .skip)], ⟨[.yld 0, rR (court c ks)] ++ List.replicate 6 uU, [.ext X ([])], []⟩)
noncomputable def n139 (X : Ext) (c : Case) (ks : List Int) : R139 → Exit × St
  | .r0 r0 => (.normal, ⟨mk 8 [], [.ext X r0], []⟩)
theorem s139 (X : Ext) (c : Case) (ks : List Int) : Sm 1 (g139 X c ks) (T139 X c ks) (n139 X c ks)
  | .e => ⟨400, by kernel_rfl⟩
noncomputable def hh139 (X : Ext) (c : Case) (ks : List Int) : R139 → List Blk
  | .r0 r0 => [.ext X r0]
noncomputable def v139 (X : Ext) (c : Case) (ks : List Int) : R139 → V
  | .r0 r0 => .tuple []
theorem q139 (X : Ext) (c : Case) (ks : List Int) : ∀ r, ((n139 X c ks r).1 = .normal ∨ (n139 X c ks r).1 = .ret) ∧ (n139 X c ks r).2.d = [] ∧ (n139 X c ks r).2.h = hh139 X c ks r ∧ resultV Tryz.prog Tryz.f139 (n139 X c ks r).2 = some (v139 X c ks r)
  | .r0 r0 => ⟨.inl rfl, rfl, rfl, by kernel_rfl⟩
theorem w139 (X : Ext) (c : Case) (ks : List Int) {V0 : V} {h' : List Blk} (h : WP Tryz.prog ⟨none, 1⟩ (T139 X c ks) (Ends' fun r => v139 X c ks r = V0 ∧ hh139 X c ks r = h') .e) : HCalls Tryz.prog 139 [.yld 0, rR (court c ks)] V0 [.ext X ([])] h' :=
  HCalls.wp mx Tryz.func139 (by kernel_rfl) (by kernel_rfl) (T139 X c ks) (g139 X c ks) (n139 X c ks) .e rfl (s139 X c ks) h fun r hr => by rw [← hr.1, ← hr.2]; exact q139 X c ks r
def truthsA (s : Shop) : List (Nat → Cast) := leavesH s 0 fun _ => zCast
theorem tel_zeroC (r j : Nat) : VLe (([iI 0, iI 0] : List V).getD j uU) (rowsFn tCast (fun _ => zCast) r j) := VLe.refl _
theorem c139 (c : Case) (ks : List Int) (h : OkCase c) : Iter Tryz.prog 139 [rR (court c ks)] (ysA (truthsA c.shop)) := by
  intro X hX hY hg
  refine ⟨.tuple [], ?_⟩
  have ih := c140 c ks h X hY c.shop.heads.length 0 (fun _ => zCast) [] (by omega) (fun _ _ => rfl) (fun _ => by simp [zCast]) hg (by rw [List.nil_append, hX]; exact List.prefix_refl _)
  simp only [Int.natCast_zero] at ih
  refine w139 X c ks (WP.step ?_)
  simp only [T139, Go, Ends', v139, Tr.sure, SS, z5]
  repeat' with_reducible first | intro _ | apply And.intro
  all_goals first | exact ih | exact (by with_reducible exact tel_zeroC _ _) | (simp [hh139, truthsA, Go, Ends', v139, -List.getD_eq_getElem?_getD, *]; done)
inductive P94
  | e
inductive R94
  | r0 (r0_c0_0c : Case) (r0_c0_0s : List Int)
noncomputable def T94 (ks : List Int) (c : Case) : P94 → Tr P94 R94
  | .e => (.out (.r0 c ks))
noncomputable def g94 (ks : List Int) (c : Case) : P94 → List Item × St
  | .e => bd Tryz.f94 [court c ks] 3
noncomputable def n94 : R94 → Exit × St
  | .r0 r0_c0_0c r0_c0_0s => (.ret, ⟨mk 4 [(2, fG 139 [.ref 0 0 0])], [.cells [court r0_c0_0c r0_c0_0s]], []⟩)
noncomputable def v94 : R94 → V
  | .r0 r0_c0_0c r0_c0_0s => fG 139 [rR (court r0_c0_0c r0_c0_0s)]
theorem s94 (ks : List Int) (c : Case) : Sm 0 (g94 ks c) (T94 ks c) (n94)
  | .e => ⟨400, by kernel_rfl⟩
theorem q94 : ∀ r, bodyQ Tryz.prog Tryz.f94 (· = v94 r) (n94 r).1 (n94 r).2
  | .r0 r0_c0_0c r0_c0_0s => ⟨.inr rfl, by simp [n94], (fG 139 [.ref 0 0 0]), (fG 139 [rR (court r0_c0_0c r0_c0_0s)]), by kernel_rfl, (.func rfl rfl (by intro j hj; exact absurd hj (by simp)) (by intro j hj; match j, hj with | 0, _ => exact .weak (.ref (n := 1) rfl (Nat.le_refl _) (by intro j hj; match j, hj with | 0, _ => exact .imm rfl)) (VLe.refl _))), rfl⟩
theorem w94 (ks : List Int) (c : Case) {post : V → Prop} (h : WQ (T94 ks c) v94 post .e) : PC 94 [court c ks] post :=
  PCalls.wq Tryz.func94 (s94 ks c) q94 h
theorem c94 (c : Case) (ks : List Int) : PC 94 [court c ks] (· = fG 139 [rR (court c ks)]) := by
  refine w94 ks c (WP.step ?_)
  simp only [T94, Go, Ends', v94, Tr.sure, SS]
  repeat' with_reducible first | intro _ | apply And.intro
end
noncomputable section
def courtN (c : Case) : V := .cref 30 fun q => (tCase.cells c ++ kindCells ++ [V.nils]).getD q uU
def asgOf : Code → Code
  | .rangeFunc _ _ a _ => a
  | _ => .skip
def bdyOf : Code → Code
  | .rangeFunc _ _ _ b => b
  | _ => .skip
inductive P97a
  | e
inductive R97a
  | r0 (r0 : List (Int × Int)) (r1 : Nat → Cast) (r2 : Nat → Cast)
noncomputable def T97a (x : Case) (M : List (Int × Int)) (last : Nat → Cast) (l : Nat → Cast) : P97a → Tr P97a R97a
  | .e => (.out (.r0 M last l))
noncomputable def g97a (x : Case) (M : List (Int × Int)) (last : Nat → Cast) (l : Nat → Cast) : P97a → List Item × St
  | .e => ([.code (asgOf (rangeOf Tryz.f97))], ⟨[uU, uU, uU, rR (courtN x), .ref 4 0 0, .ref 5 0 0, uU, uU, uU, uU, uU, uU, uU, uU, uU, uU, fG 139 [rR (courtN x)], .arr 2 4 (rowsFn tCast l), uU, uU, uU, uU, uU, uU, uU, uU, uU, uU, uU, uU, uU, uU, uU, uU, uU, uU, uU, uU, uU, uU, uU, uU, uU, uU, uU, uU, uU, uU, uU, uU, uU, uU, uU, uU, uU, uU, uU, uU, uU, uU, uU, uU], [.gone, .gone, .gone, .obj (mobj M), .cells [.map 3], .rows 130 2 4 (rowsFn tCast last), .gone], []⟩)
noncomputable def n97a (x : Case) (M : List (Int × Int)) (last : Nat → Cast) (l : Nat → Cast) : R97a → Exit × St
  | .r0 r0 r1 r2 => (.normal, ⟨mk 62 [(3, rR (courtN x)), (4, .ref 4 0 0), (5, .ref 5 0 0), (6, .ref 7 0 0)], [.gone, .gone, .gone, .obj (mobj r0), .cells [.map 3], .rows 130 2 4 (rowsFn tCast r1), .gone, .rows 130 2 4 (rowsFn tCast r2)], []⟩)
theorem s97a (x : Case) (M : List (Int × Int)) (last : Nat → Cast) (l : Nat → Cast) : Sm 7 (g97a x M last l) (T97a x M last l) (n97a x M last l)
  | .e => ⟨400, by kernel_rfl⟩
inductive P97b
  | e
  | l0 (x0_31 : Int) (o0_3 : List (Int × Int))
inductive R97b
  | r0 (r0 : List (Int × Int)) (r1 : Nat → Cast)
noncomputable def T97b (x : Case) (M : List (Int × Int)) (last : Nat → Cast) (l : Nat → Cast) : P97b → Tr P97b R97b
  | .e => let c1 : List Blk := [.gone, .gone, .gone, .obj (mobj M), .cells [.map 3], .rows 130 2 4 (rowsFn tCast last), .gone, .rows 130 2 4 (rowsFn tCast l)]; let c2 : Tr P97b R97b := .call 144 [courtN x, .arr 2 4 (rowsFn tCast l)] (tint.lst (casesA x l)) true true (.go (.l0 0 M)); (.sem (opAt Tryz.f97 6 2) [(.tmp 18, .arr 2 4 (rowsFn tCast l)), (.tmp 19, .arr 2 4 (rowsFn tCast last))] c1 (.bool (eqC l last)) c1 true (.br (eqC l last) (.sem (opAt Tryz.f97 6 5) [(.tmp 22, .map 3)] c1 (iI (M.length : Int)) c1 true (.br (decide ((M.length : Int) > (0 : Int))) (.out (.r0 M last)) c2)) (.lit false c2)))
  | .l0 x0_31 o0_3 => let c1 := (casesA x l).getD (x0_31).toNat tint.zero; let c2 : List Blk := [.gone, .gone, .gone, .obj (mobj o0_3), .cells [.map 3], .rows 130 2 4 (rowsFn tCast l), .gone]; let c3 := (getM o0_3 c1) + (1 : Int); let c4 := x0_31 < (((casesA x l).length) : Int); (.br (decide c4) (.need (decide (0 ≤ x0_31) && decide c4) (.sem (opAt Tryz.f97 11 2) [(.tmp 35, .map 3), (.tmp 36, iI c1)] c2 (iI (getM o0_3 c1)) c2 true (.need (inR .i64 c3) (.sem (opAt Tryz.f97 11 4) [(.tmp 35, .map 3), (.tmp 36, iI c1), (.tmp 38, iI c3)] c2 (uU) [.gone, .gone, .gone, .obj (mobj (setM o0_3 c1 c3)), .cells [.map 3], .rows 130 2 4 (rowsFn tCast l), .gone] true (.need (inR .i64 (x0_31 + (1 : Int))) (.go (.l0 (x0_31 + (1 : Int)) (setM o0_3 c1 c3)))))))) (.out (.r0 o0_3 l)))
noncomputable def g97b (x : Case) (M : List (Int × Int)) (last : Nat → Cast) (l : Nat → Cast) : P97b → List Item × St
  | .e => ([.code (bdyOf (rangeOf Tryz.f97))], ⟨[uU, uU, uU, rR (courtN x), .ref 4 0 0, .ref 5 0 0, .ref 7 0 0, uU, uU, uU, uU, uU, uU, uU, uU, uU, uU, uU, uU, uU, uU, uU, uU, uU, uU, uU, uU, uU, uU, uU, uU, uU, uU, uU, uU, uU, uU, uU, uU, uU, uU, uU, uU, uU, uU, uU, uU, uU, uU, uU, uU, uU, uU, uU, uU, uU, uU, uU, uU, uU, uU, uU], [.gone, .gone, .gone, .obj (mobj M), .cells [.map 3], .rows 130 2 4 (rowsFn tCast last), .gone, .rows 130 2 4 (rowsFn tCast l)], []⟩)
  | .l0 x0_31 o0_3 => ((cuts [] (bdyOf (rangeOf Tryz.f97))).getD 0 [], ⟨mk 62 [(4, .ref 4 0 0), (29, tint.lst (casesA x l)), (30, iI (((casesA x l).length) : Int)), (31, iI x0_31)], [.gone, .gone, .gone, .obj (mobj o0_3), .cells [.map 3], .rows 130 2 4 (rowsFn tCast l), .gone], []⟩)
noncomputable def n97b (x : Case) (M : List (Int × Int)) (last : Nat → Cast) (l : Nat → Cast) : R97b → Exit × St
  | .r0 r0 r1 => (.normal, ⟨mk 62 [], [.gone, .gone, .gone, .obj (mobj r0), .cells [.map 3], .rows 130 2 4 (rowsFn tCast r1), .gone], []⟩)
theorem s97b (x : Case) (M : List (Int × Int)) (last : Nat → Cast) (l : Nat → Cast) : Sm 7 (g97b x M last l) (T97b x M last l) (n97b x M last l)
  | .e => ⟨400, by kernel_rfl⟩
  | .l0 _ _ => ⟨400, by kernel_rfl⟩
theorem courtN_le (c : Case) : VLe (courtN c) (court c []) := VLe.cref fun j hj => by
  rcases Nat.lt_or_ge j 29 with q | q
  · have e : ∀ v : V, (tCase.cells c ++ kindCells ++ [v]).getD j uU = (tCase.cells c ++ kindCells).getD j uU := fun v => getD_append_left q
    rw [e]; unfold courtCells; rw [e]; exact VLe.refl _
  · have e : j = 29 := by omega
    subst e; exact VLe.nils
theorem c144N (x : Case) (h : OkCase x) (f : Nat → Cast) (hf : ∀ i, 0 ≤ (f i).number ∧ (f i).number ≤ 4) : PC 144 [courtN x, .arr 2 4 (rowsFn tCast f)] (· = tint.lst (casesA x f)) := PCalls.arg (pre := []) (c144 x [] f h hf) (courtN_le x)
def cells8 (f : Nat → Cast) : List V := [iI (f 0).mould, iI (f 0).number, iI (f 1).mould, iI (f 1).number, iI (f 2).mould, iI (f 2).number, iI (f 3).mould, iI (f 3).number]
theorem arr_cells8 (f : Nat → Cast) : VLe (.arr 2 4 (rowsFn tCast f)) (.agg (cells8 f)) := VLe.arrAgg rfl fun j hj => match j, hj with
  | 0, _ => rfl | 1, _ => rfl | 2, _ => rfl | 3, _ => rfl | 4, _ => rfl | 5, _ => rfl | 6, _ => rfl | 7, _ => rfl
theorem sem_eqC (h : List Blk) (f g : Nat → Cast) : SemOK Tryz.prog (opAt Tryz.f97 6 2) [(.tmp 18, .arr 2 4 (rowsFn tCast f)), (.tmp 19, .arr 2 4 (rowsFn tCast g))] h (.bool (eqC f g)) h :=
  sem_weak [(18, .agg (cells8 f)), (19, .agg (cells8 g))] (fun p hp => by
    simp only [List.mem_cons, List.not_mem_nil, or_false] at hp
    rcases hp with rfl | rfl
    · exact ⟨_, by simp, arr_cells8 f⟩
    · exact ⟨_, by simp, arr_cells8 g⟩) (by kernel_rfl)
theorem sem_lookM (h : List Blk) (M : List (Int × Int)) (k : Int) (hq : h[3]? = some (.obj (mobj M))) : SemOK Tryz.prog (opAt Tryz.f97 11 2) [(.tmp 35, .map 3), (.tmp 36, iI k)] h (iI (getM M k)) h := by
  have e : opAt Tryz.f97 11 2 = .lookup 188 (.tmp 35) (.tmp 36) false := by kernel_rfl
  rw [e]; exact sem_lookup (kt := 3) (et := 3) (by kernel_rfl) (by kernel_rfl) (by kernel_rfl) hq
theorem sem_updM (h : List Blk) (M : List (Int × Int)) (k v : Int) (hq : h[3]? = some (.obj (mobj M))) : SemOK Tryz.prog (opAt Tryz.f97 11 4) [(.tmp 35, .map 3), (.tmp 36, iI k), (.tmp 38, iI v)] h uU (h.set 3 (.obj (mobj (setM M k v)))) := by
  have e : opAt Tryz.f97 11 4 = .mapUpdate 188 (.tmp 35) (.tmp 36) (.tmp 38) := by kernel_rfl
  rw [e]; exact sem_update (kt := 3) (et := 3) (by kernel_rfl) (by kernel_rfl) hq
theorem sem_lenM (h : List Blk) (M : List (Int × Int)) (hq : h[3]? = some (.obj (mobj M))) : SemOK Tryz.prog (opAt Tryz.f97 6 5) [(.tmp 22, .map 3)] h (iI (M.length : Int)) h := by
  have e : opAt Tryz.f97 6 5 = .call { callee := .builtin .len, args := #[.tmp 22], argTypes := #[188] } := by kernel_rfl
  rw [e]; exact sem_lenMap (kt := 3) (et := 3) (by kernel_rfl) hq
abbrev TL97 (x : Case) : List V := [uU, uU, uU, rR (courtN x), .ref 4 0 0, .ref 5 0 0] ++ List.replicate 10 uU ++ [fG 139 [rR (courtN x)]] ++ List.replicate 45 uU
abbrev H97 (p : MC) : List Blk := [.gone, .gone, .gone, .obj (mobj p.1), .cells [.map 3], .rows 130 2 4 (rowsFn tCast p.2), .gone]
set_option maxHeartbeats 1000000 in
theorem round97 (x : Case) (h : OkCase x) (lid : Nat) (p : MC) (f : Nat → Cast) (hf : ∀ i, 0 ≤ (f i).number ∧ (f i).number ≤ 4) (hb : ∀ s, 0 ≤ getM p.1 s ∧ getM p.1 s ≤ 1000000000000) :
    AWP Tryz.prog ⟨some lid, 7⟩ (asgOf (rangeOf Tryz.f97)) ⟨setPs [17] [.arr 2 4 (rowsFn tCast f)] (TL97 x), H97 p, []⟩ fun e S1 => e = .normal ∧ noExt S1.h = true ∧
      AWP Tryz.prog ⟨some lid, 7⟩ (bdyOf (rangeOf Tryz.f97)) S1 fun e S2 => e = .normal ∧ S2.h = H97 (roundM x p f) := by
  obtain ⟨M, last⟩ := p
  refine AWP.wp mx (T97a x M last f) (g97a x M last f) (n97a x M last f) .e rfl (s97a x M last f) (post := fun r => r = .r0 M last f) ?_ (fun r hr => ?_)
  · refine WP.step ?_
    simp only [T97a, Go, Ends', Tr.sure, SS, z5]
    repeat' with_reducible first | intro _ | apply And.intro
  · subst hr
    refine ⟨rfl, rfl, ?_⟩
    have hlen : (casesA x f).length ≤ 5764801 := Nat.le_trans (mouldA_le h.shop f _ (Nat.le_refl _)) (by
      have := h.shop.nm
      rcases show x.shop.moulds.length = 0 ∨ x.shop.moulds.length = 1 ∨ x.shop.moulds.length = 2 by omega with e | e | e <;> rw [e] <;> decide)
    refine AWP.wp mx (T97b x M last f) (g97b x M last f) (n97b x M last f) .e rfl (s97b x M last f) (post := fun r => r = .r0 (roundM x (M, last) f).1 (roundM x (M, last) f).2) ?_ (fun r hr => by subst hr; exact ⟨rfl, rfl⟩)
    have hc := c144N x h f hf
    have main : roundM x (M, last) f = (countM (casesA x f) M, f) → WP Tryz.prog ⟨some lid, 7⟩ (T97b x M last f) (Ends' fun r => r = .r0 (roundM x (M, last) f).1 (roundM x (M, last) f).2) (.l0 0 M) := fun e => by
      rw [e]
      refine WP.run (fun i => .l0 i (countM ((casesA x f).take i) M)) rfl (casesA x f).length (fun i hi => ?_) ?_
      · have hr : inR .i64 ((i : Int) + 1) = true := inR64 (by omega) (by omega)
        have hi' : (i : Int) < (casesA x f).length := by omega
        have hg := countM_le ((casesA x f).take i) M 1000000000000 hb ((casesA x f).getD i 0)
        have hl2 : ((casesA x f).take i).length ≤ 5764801 := by rw [List.length_take]; omega
        have hr2 : inR .i64 (getM (countM ((casesA x f).take i) M) ((casesA x f).getD i 0) + 1) = true := inR64 (by omega) (by omega)
        have ht := countM_take (casesA x f) M hi
        rw [ht]
        refine WP.once ?_
        simp only [T97b, Tr.sure, SS, hi', hi, z1]
        repeat' with_reducible first | intro _ | apply And.intro
        all_goals first | exact (sem_lookM _ _ _ rfl) | exact (sem_updM _ _ _ _ rfl) | (simp [hr, hr2, Go, Ends', -List.getD_eq_getElem?_getD, *]; done)
      · rw [List.take_length]
        refine WP.step ?_
        simp only [T97b, Go, Ends', Tr.sure, SS, Int.lt_irrefl]
        repeat' with_reducible first | intro _ | apply And.intro
    refine WP.step ?_
    simp only [T97b, Go, Ends', Tr.sure, SS]
    repeat' with_reducible first | intro _ | apply And.intro
    all_goals first | exact (sem_eqC _ _ _) | exact (sem_lenM _ _ rfl) | exact hc | skip
    all_goals first
      | (refine main ?_; unfold roundM; rw [if_neg]; simp only; rintro ⟨h1, h2⟩; simp_all; done)
      | (have e : roundM x (M, last) f = (M, last) := by
           unfold roundM; rw [if_pos]; simp only; constructor <;> first | assumption | omega
         rw [e])
end
noncomputable section
def regionOf (fn : Func) (id : Nat) : Code := .region id ((regOf id (fn.body.getD .skip)).getD #[]) true
def ops16 : Array Oper := (regOf 16 (Tryz.f97.body.getD .skip)).getD #[]
def dep (ops : Array Oper) (i j : Nat) : Bool := match ops[i]? with | some o => o.after.any (fun e => e.on == j && Region.binds .any e) | none => false
theorem dep_ready {ops : Array Oper} {l : Array Bool} {i j : Nat} (hd : dep ops i j = true) (hr : i ∈ Region.ready .any ops l) : l.getD j false = true := by
  unfold dep at hd
  split at hd
  · rename_i o ho
    obtain ⟨e, he, hq⟩ := Array.any_eq_true'.1 hd
    rw [Bool.and_eq_true, beq_iff_eq] at hq
    have := ready_dep hr ho e he hq.2
    rwa [hq.1] at this
  · cases hd
theorem dep_closed {ops : Array Oper} {l : Array Bool} {i j : Nat} (hd : dep ops i j = true) (hc : Closed ops l) (hi : l.getD i false = true) : l.getD j false = true := by
  unfold dep at hd
  split at hd
  · rename_i o ho
    obtain ⟨e, he, hq⟩ := Array.any_eq_true'.1 hd
    rw [Bool.and_eq_true, beq_iff_eq] at hq
    have := hc i hi o ho e he hq.2
    rwa [hq.1] at this
  · cases hd
abbrev cellsC (x : Case) (v : V) : List V := tCase.cells x ++ kindCells ++ [v]
abbrev st16 (x : Case) (a : List Int) (k : Int) (k2 : Int) (M : List (Int × Int)) (N : Nat) (seen : Array Nat) (c0 c1 c2 c3 c4 c5 c6 c7 : Bool) : St :=
  ⟨[uU, uU, uU, .ref 2 0 0, uU, uU, uU, uU, uU, iI k] ++ List.replicate 31 uU ++ [.ref 8 0 0, .tuple [.bool true, iI k, iI k2], .bool true, .tuple [iI k, iI k2], iI k,
      bif c0 then .ref 1 0 0 else uU, bif c1 then .ref 1 0 0 else uU, bif c2 then .ref 1 0 0 else uU, bif c3 then .ref 1 0 29 else uU,
      bif c4 then (bif c7 then uU else .row 9 a.length) else uU, bif c5 then iI k else uU, bif c6 then .row 10 1 else uU, bif c7 then .row 9 (a.length + 1) else uU] ++ List.replicate 8 uU,
    [.gone, .cells (cellsC x (bif c7 then uU else .row 9 a.length)), .cells [.ref 1 0 0], .obj (mobj M), .gone, .gone, .gone, .obj (.deferred (some [])), .iter (.map 3) N seen, bif c7 then .rows 3 1 (a.length + 1) (rowsRev tint (k :: a)) else .rows 3 1 a.length (rowsRev tint a)] ++
      (bif c6 then [.rows 3 1 1 (litC 1 1 [iI k])] else []), [7]⟩
section
variable (x : Case) (a : List Int) (k : Int) (k2 : Int) (M : List (Int × Int)) (N : Nat) (seen : Array Nat)
theorem dobj (c0 c1 c2 c3 c4 c5 c6 c7 : Bool) : ∀ j, j ∈ (st16 x a k k2 M N seen c0 c1 c2 c3 c4 c5 c6 c7).d → ∃ o, (st16 x a k k2 M N seen c0 c1 c2 c3 c4 c5 c6 c7).h[j]? = some (.obj o) := fun j hj => by
  have : j = 7 := by simpa using hj
  subst this; exact ⟨_, rfl⟩
theorem step16_0 (c1 c2 c3 c4 c5 c6 c7 : Bool) : AStep Tryz.prog ⟨none, 0⟩ ops16 0 (st16 x a k k2 M N seen false c1 c2 c3 c4 c5 c6 c7) (st16 x a k k2 M N seen true c1 c2 c3 c4 c5 c6 c7) :=
  AStep.of_ops (AOps.run [0] [] _ (st16 x a k k2 M N seen true c1 c2 c3 c4 c5 c6 c7) true (by kernel_rfl) (dobj _ _ _ _ _ _ _ _ _ _ _ _ _ _ _) (AOps.nil ⟨rfl, rfl⟩))
theorem step16_1 (c0 c2 c3 c4 c5 c6 c7 : Bool) : AStep Tryz.prog ⟨none, 0⟩ ops16 1 (st16 x a k k2 M N seen c0 false c2 c3 c4 c5 c6 c7) (st16 x a k k2 M N seen c0 true c2 c3 c4 c5 c6 c7) :=
  AStep.of_ops (AOps.run [1] [] _ (st16 x a k k2 M N seen c0 true c2 c3 c4 c5 c6 c7) true (by kernel_rfl) (dobj _ _ _ _ _ _ _ _ _ _ _ _ _ _ _) (AOps.nil ⟨rfl, rfl⟩))
theorem step16_2 (c0 c3 c4 c5 c6 c7 : Bool) : AStep Tryz.prog ⟨none, 0⟩ ops16 2 (st16 x a k k2 M N seen c0 true false c3 c4 c5 c6 c7) (st16 x a k k2 M N seen c0 true true c3 c4 c5 c6 c7) :=
  AStep.of_ops (AOps.run [2] [] _ (st16 x a k k2 M N seen c0 true true c3 c4 c5 c6 c7) true (by kernel_rfl) (dobj _ _ _ _ _ _ _ _ _ _ _ _ _ _ _) (AOps.nil ⟨rfl, rfl⟩))
theorem step16_3 (c0 c1 c4 c5 c6 c7 : Bool) : AStep Tryz.prog ⟨none, 0⟩ ops16 3 (st16 x a k k2 M N seen c0 c1 true false c4 c5 c6 c7) (st16 x a k k2 M N seen c0 c1 true true c4 c5 c6 c7) :=
  AStep.of_ops (AOps.run [3] [] _ (st16 x a k k2 M N seen c0 c1 true true c4 c5 c6 c7) true (by kernel_rfl) (dobj _ _ _ _ _ _ _ _ _ _ _ _ _ _ _) (AOps.nil ⟨rfl, rfl⟩))
theorem step16_4 (c0 c1 c2 c5 c6 c7 : Bool) : AStep Tryz.prog ⟨none, 0⟩ ops16 4 (st16 x a k k2 M N seen c0 c1 c2 true false c5 c6 c7) (st16 x a k k2 M N seen c0 c1 c2 true true c5 c6 c7) :=
  AStep.of_ops (AOps.run [4] [] _ (st16 x a k k2 M N seen c0 c1 c2 true true c5 c6 c7) true (by kernel_rfl) (dobj _ _ _ _ _ _ _ _ _ _ _ _ _ _ _) (AOps.nil ⟨rfl, rfl⟩))
theorem step16_5 (c0 c1 c2 c3 c4 c6 c7 : Bool) : AStep Tryz.prog ⟨none, 0⟩ ops16 5 (st16 x a k k2 M N seen c0 c1 c2 c3 c4 false c6 c7) (st16 x a k k2 M N seen c0 c1 c2 c3 c4 true c6 c7) :=
  AStep.of_ops (AOps.run [5] [] _ (st16 x a k k2 M N seen c0 c1 c2 c3 c4 true c6 c7) true (by kernel_rfl) (dobj _ _ _ _ _ _ _ _ _ _ _ _ _ _ _) (AOps.nil ⟨rfl, rfl⟩))
theorem step16_6 (c0 c1 c2 c3 c4 c7 : Bool) : AStep Tryz.prog ⟨none, 0⟩ ops16 6 (st16 x a k k2 M N seen c0 c1 c2 c3 c4 true false c7) (st16 x a k k2 M N seen c0 c1 c2 c3 c4 true true c7) :=
  AStep.of_ops (AOps.run [6] [] _ (st16 x a k k2 M N seen c0 c1 c2 c3 c4 true true c7) true (by kernel_rfl) (dobj _ _ _ _ _ _ _ _ _ _ _ _ _ _ _) (AOps.nil ⟨rfl, rfl⟩))
theorem step16_7 (hk : a.length + 1 ≤ 4294967296) (c0 : Bool) : AStep Tryz.prog ⟨none, 0⟩ ops16 7 (st16 x a k k2 M N seen c0 true true true true true true false) (st16 x a k k2 M N seen c0 true true true true true true true) := by
  have hob : ((decide (a.length = a.length) && decide (a.length + 1 ≤ 4294967296)) && decide (1 ≤ 1)) = true := by simp [hk]
  cases c0
  · exact AStep.of_ops (AOps.append (t := 26) (s := .tmp 50) (x := .tmp 52) (S1 := { st16 x a k k2 M N seen false true true true true true true true with t := (st16 x a k k2 M N seen false true true true true true true true).t.set 53 uU }) (v := .row 9 (a.length + 1)) (p := fun _ => true) (o := (ops16[7]?).getD default) (by kernel_rfl) (by kernel_rfl) (by kernel_rfl) (by kernel_rfl) hob (fun _ => rfl) (AOps.nil ⟨rfl, rfl⟩))
  · exact AStep.of_ops (AOps.append (t := 26) (s := .tmp 50) (x := .tmp 52) (S1 := { st16 x a k k2 M N seen true true true true true true true true with t := (st16 x a k k2 M N seen true true true true true true true true).t.set 53 uU }) (v := .row 9 (a.length + 1)) (p := fun _ => true) (o := (ops16[7]?).getD default) (by kernel_rfl) (by kernel_rfl) (by kernel_rfl) (by kernel_rfl) hob (fun _ => rfl) (AOps.nil ⟨rfl, rfl⟩))
abbrev fin16 : St :=
  ⟨[uU, uU, uU, .ref 2 0 0, uU, uU, uU, uU, uU, iI k] ++ List.replicate 31 uU ++ [.ref 8 0 0, .tuple [.bool true, iI k, iI k2], .bool true, .tuple [iI k, iI k2], iI k,
      .ref 1 0 0, .ref 1 0 0, .ref 1 0 0, .ref 1 0 29, uU, iI k, .row 10 1, .row 9 (a.length + 1), .ref 1 0 0, .ref 1 0 29] ++ List.replicate 6 uU,
    [.gone, .cells (cellsC x (.row 9 (a.length + 1))), .cells [.ref 1 0 0], .obj (mobj M), .gone, .gone, .gone, .obj (.deferred (some [])), .iter (.map 3) N seen, .rows 3 1 (a.length + 1) (rowsRev tint (k :: a)), .rows 3 1 1 (litC 1 1 [iI k])], [7]⟩
theorem getD_same {l : Array Bool} {i : Nat} (h : i < l.size) : (l.setIfInBounds i true).getD i false = true := by simp [h]
theorem over16 (hk : a.length + 1 ≤ 4294967296) : AWP Tryz.prog ⟨none, 0⟩ (regionOf Tryz.f97 16) (st16 x a k k2 M N seen false false false false false false false false) (fun e T => e = .normal ∧ T = fin16 x a k k2 M N seen) := by
  have hsz : ops16.size = 11 := by kernel_rfl
  have d21 : dep ops16 2 1 = true := by kernel_rfl
  have d32 : dep ops16 3 2 = true := by kernel_rfl
  have d43 : dep ops16 4 3 = true := by kernel_rfl
  have d65 : dep ops16 6 5 = true := by kernel_rfl
  have d74 : dep ops16 7 4 = true := by kernel_rfl
  have d76 : dep ops16 7 6 = true := by kernel_rfl
  refine AWP.region_anyC (ops := ops16) 8 mx (by kernel_rfl) (by omega) (fun j h1 h2 => ?_) (fun l => st16 x a k k2 M N seen (l.getD 0 false) (l.getD 1 false) (l.getD 2 false) (l.getD 3 false) (l.getD 4 false) (l.getD 5 false) (l.getD 6 false) (l.getD 7 false))
    (fun β G K a w r => ⟨β, Homes.le_refl _, ?_⟩) (fun l i hl hi hli hj hc hr => ?_) (fun l hl h1 h2 => ?_)
  · rw [hsz] at h2
    rcases show j = 8 ∨ j = 9 ∨ j = 10 by omega with e | e | e <;> subst e <;> kernel_rfl
  · rw [hsz]; exact r
  · have hs : ∀ q, q < 8 → q < l.size := fun q hq => by omega
    rcases show i = 0 ∨ i = 1 ∨ i = 2 ∨ i = 3 ∨ i = 4 ∨ i = 5 ∨ i = 6 ∨ i = 7 by omega with e | e | e | e | e | e | e | e <;> subst e
    · simp only [getD_same (hs 0 (by omega)), getD_set_ne false (show 0 ≠ 1 by decide), getD_set_ne false (show 0 ≠ 2 by decide), getD_set_ne false (show 0 ≠ 3 by decide), getD_set_ne false (show 0 ≠ 4 by decide), getD_set_ne false (show 0 ≠ 5 by decide), getD_set_ne false (show 0 ≠ 6 by decide), getD_set_ne false (show 0 ≠ 7 by decide), hli]
      exact step16_0 _ _ _ _ _ _ _ _ _ _ _ _ _ _
    · simp only [getD_same (hs 1 (by omega)), getD_set_ne false (show 1 ≠ 0 by decide), getD_set_ne false (show 1 ≠ 2 by decide), getD_set_ne false (show 1 ≠ 3 by decide), getD_set_ne false (show 1 ≠ 4 by decide), getD_set_ne false (show 1 ≠ 5 by decide), getD_set_ne false (show 1 ≠ 6 by decide), getD_set_ne false (show 1 ≠ 7 by decide), hli]
      exact step16_1 _ _ _ _ _ _ _ _ _ _ _ _ _ _
    · have g1 := dep_ready d21 hr
      simp only [getD_same (hs 2 (by omega)), getD_set_ne false (show 2 ≠ 0 by decide), getD_set_ne false (show 2 ≠ 1 by decide), getD_set_ne false (show 2 ≠ 3 by decide), getD_set_ne false (show 2 ≠ 4 by decide), getD_set_ne false (show 2 ≠ 5 by decide), getD_set_ne false (show 2 ≠ 6 by decide), getD_set_ne false (show 2 ≠ 7 by decide), hli, g1]
      exact step16_2 _ _ _ _ _ _ _ _ _ _ _ _ _
    · have g1 := dep_ready d32 hr
      simp only [getD_same (hs 3 (by omega)), getD_set_ne false (show 3 ≠ 0 by decide), getD_set_ne false (show 3 ≠ 1 by decide), getD_set_ne false (show 3 ≠ 2 by decide), getD_set_ne false (show 3 ≠ 4 by decide), getD_set_ne false (show 3 ≠ 5 by decide), getD_set_ne false (show 3 ≠ 6 by decide), getD_set_ne false (show 3 ≠ 7 by decide), hli, g1]
      exact step16_3 _ _ _ _ _ _ _ _ _ _ _ _ _
    · have g1 := dep_ready d43 hr
      simp only [getD_same (hs 4 (by omega)), getD_set_ne false (show 4 ≠ 0 by decide), getD_set_ne false (show 4 ≠ 1 by decide), getD_set_ne false (show 4 ≠ 2 by decide), getD_set_ne false (show 4 ≠ 3 by decide), getD_set_ne false (show 4 ≠ 5 by decide), getD_set_ne false (show 4 ≠ 6 by decide), getD_set_ne false (show 4 ≠ 7 by decide), hli, g1]
      exact step16_4 _ _ _ _ _ _ _ _ _ _ _ _ _
    · simp only [getD_same (hs 5 (by omega)), getD_set_ne false (show 5 ≠ 0 by decide), getD_set_ne false (show 5 ≠ 1 by decide), getD_set_ne false (show 5 ≠ 2 by decide), getD_set_ne false (show 5 ≠ 3 by decide), getD_set_ne false (show 5 ≠ 4 by decide), getD_set_ne false (show 5 ≠ 6 by decide), getD_set_ne false (show 5 ≠ 7 by decide), hli]
      exact step16_5 _ _ _ _ _ _ _ _ _ _ _ _ _ _
    · have g1 := dep_ready d65 hr
      simp only [getD_same (hs 6 (by omega)), getD_set_ne false (show 6 ≠ 0 by decide), getD_set_ne false (show 6 ≠ 1 by decide), getD_set_ne false (show 6 ≠ 2 by decide), getD_set_ne false (show 6 ≠ 3 by decide), getD_set_ne false (show 6 ≠ 4 by decide), getD_set_ne false (show 6 ≠ 5 by decide), getD_set_ne false (show 6 ≠ 7 by decide), hli, g1]
      exact step16_6 _ _ _ _ _ _ _ _ _ _ _ _ _
    · have g4 := dep_ready d74 hr
      have g6 := dep_ready d76 hr
      have g5 := dep_closed d65 hc g6
      have g3 := dep_closed d43 hc g4
      have g2 := dep_closed d32 hc g3
      have g1 := dep_closed d21 hc g2
      simp only [getD_same (hs 7 (by omega)), getD_set_ne false (show 7 ≠ 0 by decide), getD_set_ne false (show 7 ≠ 1 by decide), getD_set_ne false (show 7 ≠ 2 by decide), getD_set_ne false (show 7 ≠ 3 by decide), getD_set_ne false (show 7 ≠ 4 by decide), getD_set_ne false (show 7 ≠ 5 by decide), getD_set_ne false (show 7 ≠ 6 by decide), hli, g1, g2, g3, g4, g5, g6]
      exact step16_7 _ _ _ _ _ _ _ hk _
  · rw [hsz]
    simp only [h1 0 (by omega), h1 1 (by omega), h1 2 (by omega), h1 3 (by omega), h1 4 (by omega), h1 5 (by omega), h1 6 (by omega), h1 7 (by omega)]
    exact AOps.run [8, 9, 10] [] _ (fin16 x a k k2 M N seen) true (by kernel_rfl) (dobj _ _ _ _ _ _ _ _ _ _ _ _ _ _ _) (AOps.nil ⟨rfl, rfl⟩)
end
end
noncomputable section
def lastM (c : Case) : Nat → Cast := (keysTo c (leavesH c.shop 0 fun _ => zCast).length).2
theorem stopK_all : ∀ n k, stopK (fun _ => true) k n = k + n
  | 0, _ => rfl
  | n + 1, k => by
    show (bif true then stopK (fun _ => true) (k + 1) n else k) = _
    rw [cond_true, stopK_all n (k + 1)]; omega
theorem TL97_other (x : Case) (j : Nat) (h3 : j ≠ 3) (h4 : j ≠ 4) (h5 : j ≠ 5) (h16 : j ≠ 16) : (TL97 x).getD j uU = uU := by
  rcases Nat.lt_or_ge j 62 with hj | hj
  · rcases Nat.lt_or_ge j 6 with q | q
    · rcases show j = 0 ∨ j = 1 ∨ j = 2 by omega with e | e | e <;> subst e <;> rfl
    · rcases Nat.lt_or_ge j 16 with q2 | q2
      · obtain ⟨d, hd⟩ : ∃ d, j = 6 + d := ⟨j - 6, by omega⟩
        subst hd
        rcases show d = 0 ∨ d = 1 ∨ d = 2 ∨ d = 3 ∨ d = 4 ∨ d = 5 ∨ d = 6 ∨ d = 7 ∨ d = 8 ∨ d = 9 by omega with e | e | e | e | e | e | e | e | e | e <;> subst e <;> rfl
      · have : (TL97 x).getD j uU = (List.replicate 45 V.undef).getD (j - 17) uU := by
          show (_ ++ List.replicate 45 V.undef).getD j uU = _
          rw [getD_append_right (by show 17 ≤ j; omega)]; rfl
        rw [this, List.getD_eq_getElem?_getD, List.getElem?_replicate]
        split <;> rfl
  · rw [List.getD_eq_getElem?_getD, List.getElem?_eq_none (show (TL97 x).length ≤ j from hj)]; rfl
set_option maxHeartbeats 1000000 in
theorem range97 (x : Case) (h : OkCase x) (t : List V) (ht : t.length = 62) (h3 : t.getD 3 uU = .ref 2 0 0) (h4 : t.getD 4 uU = .ref 4 0 0) (h5 : t.getD 5 uU = .ref 5 0 0) (h16 : t.getD 16 uU = fG 139 [.ref 6 0 0]) :
    AWP Tryz.prog ⟨none, 0⟩ (rangeOf Tryz.f97) ⟨t, [.cells (tCase.cells x), .cells (cellsC x .nils), .cells [.ref 1 0 0], .obj (mobj []), .cells [.map 3], .rows 130 2 4 (rowsFn tCast fun _ => zCast), .cells [.ref 1 0 0]], []⟩
      (fun e T => e = .normal ∧ T = ⟨t, [.cells (tCase.cells x), .cells (cellsC x .nils), .cells [.ref 1 0 0], .obj (mobj (metM x)), .cells [.map 3], .rows 130 2 4 (rowsFn tCast (lastM x)), .cells [.ref 1 0 0], .obj (.deferred (some []))], [7]⟩) := by
  have e : rangeOf Tryz.f97 = .rangeFunc (.tmp 16) #[17] (asgOf (rangeOf Tryz.f97)) (bdyOf (rangeOf Tryz.f97)) := by kernel_rfl
  have hlen : (leavesH x.shop 0 fun _ => zCast).length ≤ 4096 := Nat.le_trans (leaves_len h.shop _ _ _) (by
    have := h.shop.nh
    rcases show x.shop.heads.length = 0 ∨ x.shop.heads.length = 1 ∨ x.shop.heads.length = 2 ∨ x.shop.heads.length = 3 ∨ x.shop.heads.length = 4 by omega with e | e | e | e | e <;> rw [e] <;> decide)
  have hcourt : ∀ hh : List Blk, hh[1]? = some (.cells (cellsC x .nils)) → Snap hh (.ref 1 0 0) (courtN x) := fun hh hi => .ref (n := 30) hi (Nat.le_refl _) fun j hj => by
    rw [Nat.zero_add]
    refine .imm ?_
    rcases Nat.lt_or_ge j 30 with q | q
    · exact (List.all_eq_true.1 (show (List.range 30).all (fun j => ((cellsC x .nils).getD j uU).imm) = true from rfl)) j (List.mem_range.2 q)
    · omega
  rw [e]
  refine AWP.rangeF (go := fun _ => true) (fs := [true, true, true, false, false, false, true]) (T := TL97 x) (H := fun k => H97 (keysTo x k)) (jx := .ret) (jc := .ret) (f := 139) (ys := ysA (truthsA x.shop)) (caps := [rR (courtN x)])
    rfl rfl rfl (by rw [ht]; rfl) (fun j => ?_) rfl rfl (PCalls.enters Tryz.func139 (c := Tryz.f139.body.getD .skip) (by kernel_rfl) (by kernel_rfl)) ((c139 x [] h).vle (VLe.cref fun j hj => ?_)) rfl (fun _ => rfl) (fun _ => rfl) rfl rfl (fun lid k us hk _ => ?_) (fun i b hi => ?_) ?_
  · by_cases e3 : j = 3
    · subst e3; right; rw [h3]
      exact .ref (n := 1) rfl (Nat.le_refl _) fun j hj => by
        have : j = 0 := by omega
        subst this; exact hcourt _ rfl
    by_cases e4 : j = 4
    · subst e4; left; rw [h4]; rfl
    by_cases e5 : j = 5
    · subst e5; left; rw [h5]; rfl
    by_cases e16 : j = 16
    · subst e16; right; rw [h16]
      refine .func rfl rfl (fun j hj => absurd hj (Nat.not_lt_zero j)) fun j hj => ?_
      have : j = 0 := by have : j < 1 := hj; omega
      subst this
      exact .ref (n := 1) rfl (Nat.le_refl _) fun j hj => by
        have : j = 0 := by omega
        subst this; exact hcourt _ rfl
    right; rw [TL97_other x j e3 e4 e5 e16]; exact .undef _
  · have : j = 0 := by omega
    subst this; exact courtN_le x
  · obtain ⟨f, hf, hy⟩ : ∃ f, (leavesH x.shop 0 fun _ => zCast)[k]? = some f ∧ yA f = .tuple us := by
      have hk' : (ysA (truthsA x.shop))[k]? = some (.tuple us) := hk
      unfold ysA truthsA at hk'
      rw [List.getElem?_map] at hk'
      cases hf : (leavesH x.shop 0 fun _ => zCast)[k]? with
      | none => rw [hf] at hk'; cases hk'
      | some f => rw [hf] at hk'; exact ⟨f, rfl, Option.some.inj hk'⟩
    obtain rfl : us = [.arr 2 4 (rowsFn tCast f)] := by unfold yA at hy; cases hy; rfl
    refine ⟨rfl, ?_⟩
    have hkl := (List.getElem?_eq_some_iff.1 hf).1
    have := round97 x h lid (keysTo x k) f (leaf_num h hf) (fun s => by have := keysTo_le h k s; omega)
    rw [← keysTo_succ x hf] at this
    exact this
  · have hi' : i < 7 := (List.getElem?_eq_some_iff.1 hi).1
    rcases show i = 0 ∨ i = 1 ∨ i = 2 ∨ i = 3 ∨ i = 4 ∨ i = 5 ∨ i = 6 by omega with e | e | e | e | e | e | e <;> subst e <;> cases hi
    · trivial
    · trivial
    · trivial
    · trivial
    · rfl
    · intro r j _ hj
      rcases show j = 0 ∨ j = 1 by omega with e | e <;> subst e <;> rfl
    · trivial
  · refine ⟨by cases (stopK (fun _ => true) 0 (ysA (truthsA x.shop)).length) <;> rfl, ?_⟩
    rw [stopK_all, Nat.zero_add]
    have : (ysA (truthsA x.shop)).length = (leavesH x.shop 0 fun _ => zCast).length := by simp [ysA, truthsA]
    rw [this]; rfl
theorem PCalls.weakV {P : Program} {f : FuncId} {args : List V} {v v' : V} (h : PCalls P f args (· = v)) (hv : VLe v v') : PCalls P f args (· = v') :=
  ⟨h.1, fun G w xs hk hl hr => (h.2 G w xs hk hl hr).mono fun _ _ ⟨u, x, G', h1, h2, h3, h4, h5, h6, h7, h8⟩ => ⟨v', x, G', h1, h2, h3, h4, h5, h6, hv _ _ _ (by rw [← h8]; exact h7), rfl⟩⟩
theorem c122a : PC 122 [] (· = .agg kindCells) := PCalls.weakV c122 (VLe.arrAgg rfl fun j hj => by rw [Nat.div_add_mod' j 4])
inductive P94_l
  | e
inductive R94_l
  | r0 (r0 : Int) (r1 : List Mould) (r2 : List Head) (r3 : List Int) (r4 : List Claim) (r5 : Int) (r6 : List Mould) (r7 : List Head) (r8 : List Int) (r9 : List Claim) (r10 : List (Int × Int)) (r11 : Nat → Cast)
noncomputable def T94_l (x : Case) : P94_l → Tr P94_l R94_l
  | .e => (.out (.r0 x.shop.features x.shop.moulds x.shop.heads x.owners x.claims x.shop.features x.shop.moulds x.shop.heads x.owners x.claims ([]) (fun _ => zCast)))
noncomputable def g94_l (x : Case) : P94_l → List Item × St
  | .e => ([.code (Tryz.f94.body.getD .skip)], ⟨[.ref 1 0 0] ++ List.replicate 3 uU, [.cells (cC x), .cells [iI x.shop.features, tMould.lst x.shop.moulds, tHead.lst x.shop.heads, tint.lst x.owners, tClaim.lst x.claims, fG 170 [rR (fF 159)], fF 171, fF 172, fF 173, fG 162 [rR (fF 159)], fF 163, fF 160, fG 164 [rR (fF 174)], fG 162 [rR (fF 159)], fF 163, fF 160, fG 164 [rR (fF 175)], fG 162 [rR (fF 159)], fF 163, fF 160, fG 164 [rR (fF 176)], fF 166, fF 167, fF 168, fG 169 [rR (fF 177)], fF 166, fF 167, fF 168, fG 169 [rR (fF 178)], .nils], .cells [.ref 1 0 0], .obj (mobj []), .cells [.map 3], .rows 130 2 4 (rowsFn tCast (fun _ => zCast))], []⟩)
noncomputable def n94_l (x : Case) : R94_l → Exit × St
  | .r0 r0 r1 r2 r3 r4 r5 r6 r7 r8 r9 r10 r11 => (.ret, ⟨mk 4 [(2, fG 139 [.ref 6 0 0])], [.cells [iI r0, tMould.lst r1, tHead.lst r2, tint.lst r3, tClaim.lst r4], .cells [iI r5, tMould.lst r6, tHead.lst r7, tint.lst r8, tClaim.lst r9, fG 170 [rR (fF 159)], fF 171, fF 172, fF 173, fG 162 [rR (fF 159)], fF 163, fF 160, fG 164 [rR (fF 174)], fG 162 [rR (fF 159)], fF 163, fF 160, fG 164 [rR (fF 175)], fG 162 [rR (fF 159)], fF 163, fF 160, fG 164 [rR (fF 176)], fF 166, fF 167, fF 168, fG 169 [rR (fF 177)], fF 166, fF 167, fF 168, fG 169 [rR (fF 178)], .nils], .cells [.ref 1 0 0], .obj (mobj r10), .cells [.map 3], .rows 130 2 4 (rowsFn tCast r11), .cells [.ref 1 0 0]], []⟩)
theorem s94_l (x : Case) : Sm 6 (g94_l x) (T94_l x) (n94_l x)
  | .e => ⟨400, by kernel_rfl⟩
noncomputable def hh94_l (x : Case) : R94_l → List Blk
  | .r0 r0 r1 r2 r3 r4 r5 r6 r7 r8 r9 r10 r11 => [.cells [iI r0, tMould.lst r1, tHead.lst r2, tint.lst r3, tClaim.lst r4], .cells [iI r5, tMould.lst r6, tHead.lst r7, tint.lst r8, tClaim.lst r9, fG 170 [rR (fF 159)], fF 171, fF 172, fF 173, fG 162 [rR (fF 159)], fF 163, fF 160, fG 164 [rR (fF 174)], fG 162 [rR (fF 159)], fF 163, fF 160, fG 164 [rR (fF 175)], fG 162 [rR (fF 159)], fF 163, fF 160, fG 164 [rR (fF 176)], fF 166, fF 167, fF 168, fG 169 [rR (fF 177)], fF 166, fF 167, fF 168, fG 169 [rR (fF 178)], .nils], .cells [.ref 1 0 0], .obj (mobj r10), .cells [.map 3], .rows 130 2 4 (rowsFn tCast r11), .cells [.ref 1 0 0]]
noncomputable def v94_l (x : Case) : R94_l → V
  | .r0 r0 r1 r2 r3 r4 r5 r6 r7 r8 r9 r10 r11 => fG 139 [.ref 6 0 0]
theorem q94_l (x : Case) : ∀ r, ((n94_l x r).1 = .normal ∨ (n94_l x r).1 = .ret) ∧ (n94_l x r).2.d = [] ∧ (n94_l x r).2.h = hh94_l x r ∧ resultV Tryz.prog Tryz.f94 (n94_l x r).2 = some (v94_l x r)
  | .r0 r0 r1 r2 r3 r4 r5 r6 r7 r8 r9 r10 r11 => ⟨.inr rfl, rfl, rfl, by kernel_rfl⟩
theorem w94_l (x : Case) {V0 : V} {h' : List Blk} (h : WP Tryz.prog ⟨none, 6⟩ (T94_l x) (Ends' fun r => v94_l x r = V0 ∧ hh94_l x r = h') .e) : HCalls Tryz.prog 94 [.ref 1 0 0] V0 [.cells (cC x), .cells [iI x.shop.features, tMould.lst x.shop.moulds, tHead.lst x.shop.heads, tint.lst x.owners, tClaim.lst x.claims, fG 170 [rR (fF 159)], fF 171, fF 172, fF 173, fG 162 [rR (fF 159)], fF 163, fF 160, fG 164 [rR (fF 174)], fG 162 [rR (fF 159)], fF 163, fF 160, fG 164 [rR (fF 175)], fG 162 [rR (fF 159)], fF 163, fF 160, fG 164 [rR (fF 176)], fF 166, fF 167, fF 168, fG 169 [rR (fF 177)], fF 166, fF 167, fF 168, fG 169 [rR (fF 178)], .nils], .cells [.ref 1 0 0], .obj (mobj []), .cells [.map 3], .rows 130 2 4 (rowsFn tCast (fun _ => zCast))] h' :=
  HCalls.wp mx Tryz.func94 (by kernel_rfl) (by kernel_rfl) (T94_l x) (g94_l x) (n94_l x) .e rfl (s94_l x) h fun r hr => by rw [← hr.1, ← hr.2]; exact q94_l x r
inductive P97
  | e
  | l1
  | l101 (i101_8 : Array Nat) (a101_9 : List Int)
inductive R97
  | r0 (r0_0 : Int) (r0_1 : List Mould) (r0_2 : List Head) (r0_3 : List Int) (r0_4 : List Claim)
  | r1 (r0_0 : Int) (r0_1 : List Mould) (r0_2 : List Head) (r0_3 : List Int) (r0_4 : List Claim) (r0_29 : List Int)
noncomputable def T97 (x : Case) : P97 → Tr P97 R97
  | .e => let c1 : List V := [iI x.shop.features, tMould.lst x.shop.moulds, tHead.lst x.shop.heads, tint.lst x.owners, tClaim.lst x.claims, fG 170 [rR (fF 159)], fF 171, fF 172, fF 173, fG 162 [rR (fF 159)], fF 163, fF 160, fG 164 [rR (fF 174)], fG 162 [rR (fF 159)], fF 163, fF 160, fG 164 [rR (fF 175)], fG 162 [rR (fF 159)], fF 163, fF 160, fG 164 [rR (fF 176)], fF 166, fF 167, fF 168, fG 169 [rR (fF 177)], fF 166, fF 167, fF 168, fG 169 [rR (fF 178)], .nils]; let c2 : List V := [fG 170 [rR (fF 159)], fF 171, fF 172, fF 173, fG 162 [rR (fF 159)], fF 163, fF 160, fG 164 [rR (fF 174)], fG 162 [rR (fF 159)], fF 163, fF 160, fG 164 [rR (fF 175)], fG 162 [rR (fF 159)], fF 163, fF 160, fG 164 [rR (fF 176)], fF 166, fF 167, fF 168, fG 169 [rR (fF 177)], fF 166, fF 167, fF 168, fG 169 [rR (fF 178)]]; let c3 : List V := [.agg (cC x), .ref 0 0 0, .nil, .ref 2 0 0, .ref 4 0 0, .ref 5 0 0, uU, uU, uU, uU, .agg (cC x), .agg c2, .agg c1, .ref 1 0 0, .map 3, .ref 1 0 0, fG 139 [.ref 6 0 0], uU, uU, uU, uU, uU, uU, uU, uU, uU, uU, uU, uU, uU, uU, uU, uU, uU, uU, uU, uU, uU, uU, uU, uU, uU, uU, uU, uU, uU, uU, uU, uU, uU, uU, uU, uU, uU, uU, uU, uU, uU, uU, uU, uU, uU]; let c5 : List V := [.ref 1 0 0]; let c4 : List Blk := [.cells (cC x), .cells c1, .cells c5, .obj (mobj (metM x)), .cells [.map 3], .rows 130 2 4 (rowsFn tCast (lastM x)), .cells c5, .obj (.deferred (some []))]; (.front [(1, 122, [], .agg c2)] [] true true (.sem (opAt Tryz.f97 2 0) [] [.cells (cC x), .cells c1, .cells c5] (.map 3) [.cells (cC x), .cells c1, .cells c5, .obj (mobj [])] true (.wait 2 (.telb 5 2 4 (fun _ j => ([iI 0, iI 0] : List V).getD j uU) (rowsFn tCast (fun _ => tCast.zero)) (.hcall 94 c5 (fG 139 [.ref 6 0 0]) [.cells (cC x), .cells c1, .cells c5, .obj (mobj []), .cells [.map 3], .rows 130 2 4 (rowsFn tCast (fun _ => tCast.zero))] [.cells (cC x), .cells c1, .cells c5, .obj (mobj []), .cells [.map 3], .rows 130 2 4 (rowsFn tCast (fun _ => tCast.zero)), .cells c5] true (.wait 1 (.over (rangeOf Tryz.f97) ⟨c3, [.cells (cC x), .cells c1, .cells c5, .obj (mobj []), .cells [.map 3], .rows 130 2 4 (rowsFn tCast (fun _ => tCast.zero)), .cells c5], []⟩ .normal ⟨c3, c4, [7]⟩ true (.sem (opAt Tryz.f97 13 1) [(.tmp 40, .map 3)] c4 (.ref 8 0 0) [.cells (cC x), .cells c1, .cells c5, .obj (mobj (metM x)), .cells [.map 3], .rows 130 2 4 (rowsFn tCast (lastM x)), .cells c5, .obj (.deferred (some [])), .iter (.map 3) ((metM x).length) (#[])] true (.go (.l1))))))))))
  | .l1 => let c1 : List V := [iI x.shop.features, tMould.lst x.shop.moulds, tHead.lst x.shop.heads, tint.lst x.owners, tClaim.lst x.claims, fG 170 [rR (fF 159)], fF 171, fF 172, fF 173, fG 162 [rR (fF 159)], fF 163, fF 160, fG 164 [rR (fF 174)], fG 162 [rR (fF 159)], fF 163, fF 160, fG 164 [rR (fF 175)], fG 162 [rR (fF 159)], fF 163, fF 160, fG 164 [rR (fF 176)], fF 166, fF 167, fF 168, fG 169 [rR (fF 177)], fF 166, fF 167, fF 168, fG 169 [rR (fF 178)], .nils]; let c3 := leftM (metM x).length (#[]); let c4 := (metM x).length; let c5 := mobj (metM x); let c2 : List Blk := [.gone, .cells c1, .cells [.ref 1 0 0], .obj c5, .gone, .gone, .gone, .obj (.deferred (some [])), .iter (.map 3) c4 (#[])]; (.wait 1 (.cas (decide (leftM (metM x).length (#[]) ≠ [])) (.semn (opAt Tryz.f97 14 0) [(.tmp 41, .ref 8 0 0)] c2 (c3.length) (fun j => .tuple [.bool true, iI (((metM x).getD (c3.getD j 0) (0, 0)).1), iI (((metM x).getD (c3.getD j 0) (0, 0)).2)]) (fun j => [.gone, .cells c1, .cells [.ref 1 0 0], .obj c5, .gone, .gone, .gone, .obj (.deferred (some [])), .iter (.map 3) c4 ((#[]).push (c3.getD j 0))]) true (fun j => (.lit true (.sem (opAt Tryz.f97 15 0) [(.tmp 41, .ref 8 0 0)] [.gone, .cells c1, .cells [.ref 1 0 0], .obj c5, .gone, .gone, .gone, .obj (.deferred (some [])), .iter (.map 3) c4 ((#[]).push (c3.getD j 0))] (.tuple [iI (((metM x).getD (c3.getD j 0) (0, 0)).1), iI (((metM x).getD (c3.getD j 0) (0, 0)).2)]) [.gone, .cells c1, .cells [.ref 1 0 0], .obj c5, .gone, .gone, .gone, .obj (.deferred (some [])), .iter (.map 3) c4 ((#[]).push (c3.getD j 0))] true (.front [] [] (((decide (1 ≤ 4294967296) && (List.range 1).all fun r => (List.range 1).all fun j => ((litC 1 1 [iI (((metM x).getD (c3.getD j 0) (0, 0)).1)]) r j).scalar) && true) && true) true (.wait 1 (.telb 9 1 1 (litC 1 1 [iI (((metM x).getD (c3.getD j 0) (0, 0)).1)]) (rowsRev tint ([((metM x).getD (c3.getD j 0) (0, 0)).1])) (.go (.l101 ((#[]).push (c3.getD j 0)) ([((metM x).getD (c3.getD j 0) (0, 0)).1])))))))))) (.sem (opAt Tryz.f97 14 0) [(.tmp 41, .ref 8 0 0)] c2 (.tuple [.bool false]) c2 true (.lit false (.hcall 145 [.nils] (.tuple []) c2 c2 true (.out (.r0 x.shop.features x.shop.moulds x.shop.heads x.owners x.claims)))))))
  | .l101 i101_8 a101_9 => let c2 := leftM (metM x).length i101_8; let c4 : List V := [rR (fF 159)]; let c1 : List V := [iI x.shop.features, tMould.lst x.shop.moulds, tHead.lst x.shop.heads, tint.lst x.owners, tClaim.lst x.claims, .func (.func 170) [] c4, fF 171, fF 172, fF 173, .func (.func 162) [] c4, fF 163, fF 160, fG 164 [rR (fF 174)], .func (.func 162) [] c4, fF 163, fF 160, fG 164 [rR (fF 175)], .func (.func 162) [] c4, fF 163, fF 160, fG 164 [rR (fF 176)], fF 166, fF 167, fF 168, fG 169 [rR (fF 177)], fF 166, fF 167, fF 168, fG 169 [rR (fF 178)], .row 9 a101_9.length]; let c5 := sortZ a101_9.reverse; let c6 := (metM x).length; let c7 := mobj (metM x); let c8 := rowsRev tint a101_9; let c9 := (decide (a101_9.length ≤ a101_9.length)) && true; let c10 : List V := [.ref 1 0 0]; let c3 : List Blk := [.gone, .cells c1, .cells c10, .obj c7, .gone, .gone, .gone, .obj (.deferred (some [])), .iter (.map 3) c6 i101_8, .rows 3 1 a101_9.length c8]; let c11 := a101_9.length + 1; let c12 := rowsOf tint c5; (.wait 1 (.cas (decide (leftM (metM x).length i101_8 ≠ [])) (.semn (opAt Tryz.f97 14 0) [(.tmp 41, .ref 8 0 0)] c3 (c2.length) (fun j => .tuple [.bool true, iI (((metM x).getD (c2.getD j 0) (0, 0)).1), iI (((metM x).getD (c2.getD j 0) (0, 0)).2)]) (fun j => [.gone, .cells c1, .cells c10, .obj c7, .gone, .gone, .gone, .obj (.deferred (some [])), .iter (.map 3) c6 (i101_8.push (c2.getD j 0)), .rows 3 1 a101_9.length c8]) true (fun j => (.lit true (.sem (opAt Tryz.f97 15 0) [(.tmp 41, .ref 8 0 0)] [.gone, .cells c1, .cells c10, .obj c7, .gone, .gone, .gone, .obj (.deferred (some [])), .iter (.map 3) c6 (i101_8.push (c2.getD j 0)), .rows 3 1 a101_9.length c8] (.tuple [iI (((metM x).getD (c2.getD j 0) (0, 0)).1), iI (((metM x).getD (c2.getD j 0) (0, 0)).2)]) [.gone, .cells c1, .cells c10, .obj c7, .gone, .gone, .gone, .obj (.deferred (some [])), .iter (.map 3) c6 (i101_8.push (c2.getD j 0)), .rows 3 1 a101_9.length c8] true (.over (regionOf Tryz.f97 16) ⟨[uU, uU, uU, .ref 2 0 0, uU, uU, uU, uU, uU, iI (((metM x).getD (c2.getD j 0) (0, 0)).1), uU, uU, uU, uU, uU, uU, uU, uU, uU, uU, uU, uU, uU, uU, uU, uU, uU, uU, uU, uU, uU, uU, uU, uU, uU, uU, uU, uU, uU, uU, uU, .ref 8 0 0, .tuple [.bool true, iI (((metM x).getD (c2.getD j 0) (0, 0)).1), iI (((metM x).getD (c2.getD j 0) (0, 0)).2)], .bool true, .tuple [iI (((metM x).getD (c2.getD j 0) (0, 0)).1), iI (((metM x).getD (c2.getD j 0) (0, 0)).2)], iI (((metM x).getD (c2.getD j 0) (0, 0)).1), uU, uU, uU, uU, uU, uU, uU, uU, uU, uU, uU, uU, uU, uU, uU, uU], [.gone, .cells c1, .cells c10, .obj c7, .gone, .gone, .gone, .obj (.deferred (some [])), .iter (.map 3) c6 (i101_8.push (c2.getD j 0)), .rows 3 1 a101_9.length c8], [7]⟩ .normal ⟨[uU, uU, uU, .ref 2 0 0, uU, uU, uU, uU, uU, iI (((metM x).getD (c2.getD j 0) (0, 0)).1), uU, uU, uU, uU, uU, uU, uU, uU, uU, uU, uU, uU, uU, uU, uU, uU, uU, uU, uU, uU, uU, uU, uU, uU, uU, uU, uU, uU, uU, uU, uU, .ref 8 0 0, .tuple [.bool true, iI (((metM x).getD (c2.getD j 0) (0, 0)).1), iI (((metM x).getD (c2.getD j 0) (0, 0)).2)], .bool true, .tuple [iI (((metM x).getD (c2.getD j 0) (0, 0)).1), iI (((metM x).getD (c2.getD j 0) (0, 0)).2)], iI (((metM x).getD (c2.getD j 0) (0, 0)).1), .ref 1 0 0, .ref 1 0 0, .ref 1 0 0, .ref 1 0 29, uU, iI (((metM x).getD (c2.getD j 0) (0, 0)).1), .row 10 1, .row 9 c11, .ref 1 0 0, .ref 1 0 29, uU, uU, uU, uU, uU, uU], [.gone, .cells [iI x.shop.features, tMould.lst x.shop.moulds, tHead.lst x.shop.heads, tint.lst x.owners, tClaim.lst x.claims, .func (.func 170) [] c4, fF 171, fF 172, fF 173, .func (.func 162) [] c4, fF 163, fF 160, fG 164 [rR (fF 174)], .func (.func 162) [] c4, fF 163, fF 160, fG 164 [rR (fF 175)], .func (.func 162) [] c4, fF 163, fF 160, fG 164 [rR (fF 176)], fF 166, fF 167, fF 168, fG 169 [rR (fF 177)], fF 166, fF 167, fF 168, fG 169 [rR (fF 178)], .row 9 c11], .cells c10, .obj c7, .gone, .gone, .gone, .obj (.deferred (some [])), .iter (.map 3) c6 (i101_8.push (c2.getD j 0)), .rows 3 1 c11 (rowsRev tint (((metM x).getD (c2.getD j 0) (0, 0)).1 :: a101_9)), .rows 3 1 1 (litC 1 1 [iI (((metM x).getD (c2.getD j 0) (0, 0)).1)])], [7]⟩ true (.wait 1 (.telb 10 1 1 (litC 1 1 [iI (((metM x).getD (c2.getD j 0) (0, 0)).1)]) (rowsRev tint ([((metM x).getD (c2.getD j 0) (0, 0)).1])) (.go (.l101 (i101_8.push (c2.getD j 0)) (((metM x).getD (c2.getD j 0) (0, 0)).1 :: a101_9)))))))))) (.sem (opAt Tryz.f97 14 0) [(.tmp 41, .ref 8 0 0)] c3 (.tuple [.bool false]) c3 true (.lit false (.hcall 145 [.row 9 a101_9.length] (.tuple []) c3 [.gone, .cells c1, .cells c10, .obj c7, .gone, .gone, .gone, .obj (.deferred (some [])), .iter (.map 3) c6 i101_8, .rows 3 1 a101_9.length c12] true (.wait 2 (.frz 9 (c9 && (c9 && true)) (.vle 59 (.list 1 a101_9.length c12) (tint.lst c5) (.telc 1 [iI x.shop.features, tMould.lst x.shop.moulds, tHead.lst x.shop.heads, tint.lst x.owners, tClaim.lst x.claims, .func (.func 170) [] c4, fF 171, fF 172, fF 173, .func (.func 162) [] c4, fF 163, fF 160, fG 164 [rR (fF 174)], .func (.func 162) [] c4, fF 163, fF 160, fG 164 [rR (fF 175)], .func (.func 162) [] c4, fF 163, fF 160, fG 164 [rR (fF 176)], fF 166, fF 167, fF 168, fG 169 [rR (fF 177)], fF 166, fF 167, fF 168, fG 169 [rR (fF 178)], .list 1 a101_9.length c12] [iI x.shop.features, tMould.lst x.shop.moulds, tHead.lst x.shop.heads, tint.lst x.owners, tClaim.lst x.claims, .func (.func 170) [] c4, fF 171, fF 172, fF 173, .func (.func 162) [] c4, fF 163, fF 160, fG 164 [rR (fF 174)], .func (.func 162) [] c4, fF 163, fF 160, fG 164 [rR (fF 175)], .func (.func 162) [] c4, fF 163, fF 160, fG 164 [rR (fF 176)], fF 166, fF 167, fF 168, fG 169 [rR (fF 177)], fF 166, fF 167, fF 168, fG 169 [rR (fF 178)], tint.lst c5] (.out (.r1 x.shop.features x.shop.moulds x.shop.heads x.owners x.claims c5)))))))))))
noncomputable def g97 (x : Case) : P97 → List Item × St
  | .e => bd Tryz.f97 [.agg (cC x)] 61
  | .l1 => (cutOf Tryz.f97 0, ⟨mk 62 [(3, .ref 2 0 0), (41, .ref 8 0 0)], [.gone, .cells [iI x.shop.features, tMould.lst x.shop.moulds, tHead.lst x.shop.heads, tint.lst x.owners, tClaim.lst x.claims, fG 170 [rR (fF 159)], fF 171, fF 172, fF 173, fG 162 [rR (fF 159)], fF 163, fF 160, fG 164 [rR (fF 174)], fG 162 [rR (fF 159)], fF 163, fF 160, fG 164 [rR (fF 175)], fG 162 [rR (fF 159)], fF 163, fF 160, fG 164 [rR (fF 176)], fF 166, fF 167, fF 168, fG 169 [rR (fF 177)], fF 166, fF 167, fF 168, fG 169 [rR (fF 178)], .nils], .cells [.ref 1 0 0], .obj (mobj (metM x)), .gone, .gone, .gone, .obj (.deferred (some [])), .iter (.map 3) ((metM x).length) (#[])], [7]⟩)
  | .l101 i101_8 a101_9 => (cutOf Tryz.f97 0, ⟨mk 62 [(3, .ref 2 0 0), (41, .ref 8 0 0)], [.gone, .cells [iI x.shop.features, tMould.lst x.shop.moulds, tHead.lst x.shop.heads, tint.lst x.owners, tClaim.lst x.claims, fG 170 [rR (fF 159)], fF 171, fF 172, fF 173, fG 162 [rR (fF 159)], fF 163, fF 160, fG 164 [rR (fF 174)], fG 162 [rR (fF 159)], fF 163, fF 160, fG 164 [rR (fF 175)], fG 162 [rR (fF 159)], fF 163, fF 160, fG 164 [rR (fF 176)], fF 166, fF 167, fF 168, fG 169 [rR (fF 177)], fF 166, fF 167, fF 168, fG 169 [rR (fF 178)], .row 9 a101_9.length], .cells [.ref 1 0 0], .obj (mobj (metM x)), .gone, .gone, .gone, .obj (.deferred (some [])), .iter (.map 3) ((metM x).length) i101_8, .rows 3 1 a101_9.length (rowsRev tint a101_9)], [7]⟩)
noncomputable def n97 : R97 → Exit × St
  | .r0 r0_0 r0_1 r0_2 r0_3 r0_4 => (.ret, ⟨mk 62 [(2, .ref 1 0 0)], [.gone, .cells [iI r0_0, tMould.lst r0_1, tHead.lst r0_2, tint.lst r0_3, tClaim.lst r0_4, fG 170 [rR (fF 159)], fF 171, fF 172, fF 173, fG 162 [rR (fF 159)], fF 163, fF 160, fG 164 [rR (fF 174)], fG 162 [rR (fF 159)], fF 163, fF 160, fG 164 [rR (fF 175)], fG 162 [rR (fF 159)], fF 163, fF 160, fG 164 [rR (fF 176)], fF 166, fF 167, fF 168, fG 169 [rR (fF 177)], fF 166, fF 167, fF 168, fG 169 [rR (fF 178)], .nils], .gone, .gone, .gone, .gone, .gone, .obj (.deferred (some []))], [7]⟩)
  | .r1 r0_0 r0_1 r0_2 r0_3 r0_4 r0_29 => (.ret, ⟨mk 62 [(2, .ref 1 0 0)], [.gone, .cells [iI r0_0, tMould.lst r0_1, tHead.lst r0_2, tint.lst r0_3, tClaim.lst r0_4, fG 170 [rR (fF 159)], fF 171, fF 172, fF 173, fG 162 [rR (fF 159)], fF 163, fF 160, fG 164 [rR (fF 174)], fG 162 [rR (fF 159)], fF 163, fF 160, fG 164 [rR (fF 175)], fG 162 [rR (fF 159)], fF 163, fF 160, fG 164 [rR (fF 176)], fF 166, fF 167, fF 168, fG 169 [rR (fF 177)], fF 166, fF 167, fF 168, fG 169 [rR (fF 178)], tint.lst r0_29], .gone, .gone, .gone, .gone, .gone, .obj (.deferred (some []))], [7]⟩)
noncomputable def v97 : R97 → V
  | .r0 r0_0 r0_1 r0_2 r0_3 r0_4 => .cref 30 fun q => ([iI r0_0, tMould.lst r0_1, tHead.lst r0_2, tint.lst r0_3, tClaim.lst r0_4, fG 170 [rR (fF 159)], fF 171, fF 172, fF 173, fG 162 [rR (fF 159)], fF 163, fF 160, fG 164 [rR (fF 174)], fG 162 [rR (fF 159)], fF 163, fF 160, fG 164 [rR (fF 175)], fG 162 [rR (fF 159)], fF 163, fF 160, fG 164 [rR (fF 176)], fF 166, fF 167, fF 168, fG 169 [rR (fF 177)], fF 166, fF 167, fF 168, fG 169 [rR (fF 178)], .nils] : List V).getD q uU
  | .r1 r0_0 r0_1 r0_2 r0_3 r0_4 r0_29 => .cref 30 fun q => ([iI r0_0, tMould.lst r0_1, tHead.lst r0_2, tint.lst r0_3, tClaim.lst r0_4, fG 170 [rR (fF 159)], fF 171, fF 172, fF 173, fG 162 [rR (fF 159)], fF 163, fF 160, fG 164 [rR (fF 174)], fG 162 [rR (fF 159)], fF 163, fF 160, fG 164 [rR (fF 175)], fG 162 [rR (fF 159)], fF 163, fF 160, fG 164 [rR (fF 176)], fF 166, fF 167, fF 168, fG 169 [rR (fF 177)], fF 166, fF 167, fF 168, fG 169 [rR (fF 178)], tint.lst r0_29] : List V).getD q uU
theorem s97 (x : Case) : Sm 0 (g97 x) (T97 x) (n97)
  | .e => ⟨400, by kernel_rfl⟩
  | .l1 => ⟨400, by kernel_rfl⟩
  | .l101 _ _ => ⟨400, by kernel_rfl⟩
theorem q97 : ∀ r, bodyQ Tryz.prog Tryz.f97 (· = v97 r) (n97 r).1 (n97 r).2
  | .r0 r0_0 r0_1 r0_2 r0_3 r0_4 => ⟨.inr rfl, by simp [n97], (.ref 1 0 0), (.cref 30 fun q => ([iI r0_0, tMould.lst r0_1, tHead.lst r0_2, tint.lst r0_3, tClaim.lst r0_4, fG 170 [rR (fF 159)], fF 171, fF 172, fF 173, fG 162 [rR (fF 159)], fF 163, fF 160, fG 164 [rR (fF 174)], fG 162 [rR (fF 159)], fF 163, fF 160, fG 164 [rR (fF 175)], fG 162 [rR (fF 159)], fF 163, fF 160, fG 164 [rR (fF 176)], fF 166, fF 167, fF 168, fG 169 [rR (fF 177)], fF 166, fF 167, fF 168, fG 169 [rR (fF 178)], .nils] : List V).getD q uU), by kernel_rfl, (.weak (.ref (n := 30) rfl (Nat.le_refl _) (by intro j hj; match j, hj with | 0, _ => exact .imm rfl | 1, _ => exact .imm rfl | 2, _ => exact .imm rfl | 3, _ => exact .imm rfl | 4, _ => exact .imm rfl | 5, _ => exact .imm rfl | 6, _ => exact .imm rfl | 7, _ => exact .imm rfl | 8, _ => exact .imm rfl | 9, _ => exact .imm rfl | 10, _ => exact .imm rfl | 11, _ => exact .imm rfl | 12, _ => exact .imm rfl | 13, _ => exact .imm rfl | 14, _ => exact .imm rfl | 15, _ => exact .imm rfl | 16, _ => exact .imm rfl | 17, _ => exact .imm rfl | 18, _ => exact .imm rfl | 19, _ => exact .imm rfl | 20, _ => exact .imm rfl | 21, _ => exact .imm rfl | 22, _ => exact .imm rfl | 23, _ => exact .imm rfl | 24, _ => exact .imm rfl | 25, _ => exact .imm rfl | 26, _ => exact .imm rfl | 27, _ => exact .imm rfl | 28, _ => exact .imm rfl | 29, _ => exact .imm rfl | j_ + 30, hj_ => exact absurd hj_ (Nat.not_lt.2 (Nat.le_add_left 30 j_)))) (VLe.refl _)), rfl⟩
  | .r1 r0_0 r0_1 r0_2 r0_3 r0_4 r0_29 => ⟨.inr rfl, by simp [n97], (.ref 1 0 0), (.cref 30 fun q => ([iI r0_0, tMould.lst r0_1, tHead.lst r0_2, tint.lst r0_3, tClaim.lst r0_4, fG 170 [rR (fF 159)], fF 171, fF 172, fF 173, fG 162 [rR (fF 159)], fF 163, fF 160, fG 164 [rR (fF 174)], fG 162 [rR (fF 159)], fF 163, fF 160, fG 164 [rR (fF 175)], fG 162 [rR (fF 159)], fF 163, fF 160, fG 164 [rR (fF 176)], fF 166, fF 167, fF 168, fG 169 [rR (fF 177)], fF 166, fF 167, fF 168, fG 169 [rR (fF 178)], tint.lst r0_29] : List V).getD q uU), by kernel_rfl, (.weak (.ref (n := 30) rfl (Nat.le_refl _) (by intro j hj; match j, hj with | 0, _ => exact .imm rfl | 1, _ => exact .imm rfl | 2, _ => exact .imm rfl | 3, _ => exact .imm rfl | 4, _ => exact .imm rfl | 5, _ => exact .imm rfl | 6, _ => exact .imm rfl | 7, _ => exact .imm rfl | 8, _ => exact .imm rfl | 9, _ => exact .imm rfl | 10, _ => exact .imm rfl | 11, _ => exact .imm rfl | 12, _ => exact .imm rfl | 13, _ => exact .imm rfl | 14, _ => exact .imm rfl | 15, _ => exact .imm rfl | 16, _ => exact .imm rfl | 17, _ => exact .imm rfl | 18, _ => exact .imm rfl | 19, _ => exact .imm rfl | 20, _ => exact .imm rfl | 21, _ => exact .imm rfl | 22, _ => exact .imm rfl | 23, _ => exact .imm rfl | 24, _ => exact .imm rfl | 25, _ => exact .imm rfl | 26, _ => exact .imm rfl | 27, _ => exact .imm rfl | 28, _ => exact .imm rfl | 29, _ => exact .imm rfl | j_ + 30, hj_ => exact absurd hj_ (Nat.not_lt.2 (Nat.le_add_left 30 j_)))) (VLe.refl _)), rfl⟩
theorem w97 (x : Case) {post : V → Prop} (h : WQ (T97 x) v97 post .e) : PC 97 [.agg (cC x)] post :=
  PCalls.wq Tryz.func97 (s97 x) q97 h
end
noncomputable section
theorem nodup_len {α : Type} [DecidableEq α] : ∀ {l r : List α}, l.Nodup → (∀ x ∈ l, x ∈ r) → l.length ≤ r.length
  | [], _, _, _ => Nat.zero_le _
  | a :: l, r, hn, hs => by
    have ha := hs a (List.mem_cons_self ..)
    have h1 := List.nodup_cons.1 hn
    have := nodup_len (l := l) (r := r.erase a) h1.2 fun x hx => (List.mem_erase_of_ne (fun (e : x = a) => h1.1 (e ▸ hx))).2 (hs x (List.mem_cons_of_mem _ hx))
    rw [List.length_erase_of_mem ha] at this
    have := List.length_pos_of_mem ha
    rw [List.length_cons]; omega
theorem nodup_lenN {n : Nat} {l : List Nat} (hn : l.Nodup) (hs : ∀ x ∈ l, x < n) : l.length ≤ n := by
  have := nodup_len (r := List.range n) hn fun x hx => List.mem_range.2 (hs x hx)
  rwa [List.length_range] at this
def keyAt (M : List (Int × Int)) (i : Nat) : Int := (M.getD i (0, 0)).1
def Walk (M : List (Int × Int)) (p : Array Nat × List Int) : Prop := p.1.toList.Nodup ∧ (∀ i ∈ p.1.toList, i < M.length) ∧ p.2 = (p.1.toList.map (keyAt M)).reverse
theorem Walk.nil (M : List (Int × Int)) : Walk M (#[], []) := ⟨List.nodup_nil, fun _ h => absurd h List.not_mem_nil, rfl⟩
theorem left_mem' {n : Nat} {seen : Array Nat} {j : Nat} (h : j < (leftM n seen).length) : (leftM n seen).getD j 0 < n ∧ (leftM n seen).getD j 0 ∉ seen.toList := by
  have : (leftM n seen).getD j 0 ∈ leftM n seen := by rw [List.getD_eq_getElem?_getD, List.getElem?_eq_getElem h]; exact List.getElem_mem h
  have := List.mem_filter.1 this
  refine ⟨List.mem_range.1 this.1, fun hm => ?_⟩
  have h2 := this.2
  rw [Array.contains_iff_mem.2 (Array.mem_toList_iff.1 hm)] at h2
  cases h2
theorem Walk.push {M : List (Int × Int)} {seen : Array Nat} {acc : List Int} (h : Walk M (seen, acc)) {j : Nat} (hj : j < (leftM M.length seen).length) : Walk M (seen.push ((leftM M.length seen).getD j 0), keyAt M ((leftM M.length seen).getD j 0) :: acc) := by
  obtain ⟨h1, h2, h3⟩ := h
  obtain ⟨g1, g2⟩ := left_mem' hj
  refine ⟨?_, ?_, ?_⟩
  · simp only [Array.toList_push]
    rw [List.nodup_append]
    exact ⟨h1, by simp, fun a ha b hb => by rw [List.mem_singleton] at hb; subst hb; exact fun e => g2 (e ▸ ha)⟩
  · simp only [Array.toList_push, List.mem_append, List.mem_singleton]
    rintro i (hi | rfl)
    · exact h2 i hi
    · exact g1
  · simp only at h3
    simp only [Array.toList_push, List.map_append, List.reverse_append, h3]; rfl
theorem Walk.size {M : List (Int × Int)} {p : Array Nat × List Int} (h : Walk M p) : p.1.size ≤ M.length := by
  have := nodup_lenN h.1 h.2.1; simpa using this
theorem keyAt_mem {M : List (Int × Int)} {i : Nat} (h : i < M.length) : keyAt M i ∈ keysL M := by
  unfold keyAt keysL; rw [List.getD_eq_getElem?_getD, List.getElem?_eq_getElem h]; exact List.mem_map.2 ⟨_, List.getElem_mem h, rfl⟩
theorem keyAt_inj {M : List (Int × Int)} (hn : (keysL M).Nodup) {i j : Nat} (hi : i < M.length) (hj : j < M.length) (e : keyAt M i = keyAt M j) : i = j := by
  have a : ∀ {i}, i < M.length → (keysL M)[i]? = some (keyAt M i) := fun {i} h => by
    unfold keyAt keysL; rw [List.getElem?_map, List.getD_eq_getElem?_getD, List.getElem?_eq_getElem h]; rfl
  have hi' : i < (keysL M).length := by unfold keysL; rw [List.length_map]; exact hi
  have hj' : j < (keysL M).length := by unfold keysL; rw [List.length_map]; exact hj
  have g : (keysL M)[i] = (keysL M)[j] := by
    have h1 := a hi; have h2 := a hj
    rw [List.getElem?_eq_getElem hi'] at h1; rw [List.getElem?_eq_getElem hj'] at h2
    rw [Option.some.inj h1, Option.some.inj h2, e]
  have hp := List.pairwise_iff_getElem.1 hn
  rcases Nat.lt_trichotomy i j with q | q | q
  · exact absurd g (hp i j hi' hj' q)
  · exact q
  · exact absurd g.symm (hp j i hj' hi' q)
theorem Walk.mem {M : List (Int × Int)} {p : Array Nat × List Int} (h : Walk M p) : ∀ x ∈ p.2, x ∈ keysL M := fun x hx => by
  rw [h.2.2, List.mem_reverse, List.mem_map] at hx
  obtain ⟨i, hi, rfl⟩ := hx
  exact keyAt_mem (h.2.1 i hi)
theorem nodup_rev {α : Type} {l : List α} (h : l.Nodup) : l.reverse.Nodup := List.pairwise_reverse.2 (h.imp fun h e => h e.symm)
theorem Walk.nodup {M : List (Int × Int)} (hn : (keysL M).Nodup) {p : Array Nat × List Int} (h : Walk M p) : p.2.Nodup := by
  rw [h.2.2]
  refine nodup_rev ?_
  rw [List.Nodup, List.pairwise_map]
  have h1 := h.1
  have : p.1.toList.Pairwise fun a b => a < M.length ∧ b < M.length ∧ a ≠ b := List.Pairwise.imp_of_mem (fun ha hb hab => ⟨h.2.1 _ ha, h.2.1 _ hb, hab⟩) h1
  exact this.imp fun ⟨a, b, c⟩ e => c (keyAt_inj hn a b e)
theorem Walk.done {M : List (Int × Int)} {p : Array Nat × List Int} (h : Walk M p) (h0 : leftM M.length p.1 = []) : ∀ x, x ∈ p.2 ↔ x ∈ keysL M := fun x => by
  refine ⟨h.mem x, fun hx => ?_⟩
  rw [h.2.2, List.mem_reverse]
  obtain ⟨e, he, rfl⟩ := List.mem_map.1 hx
  obtain ⟨i, hi, rfl⟩ := List.getElem_of_mem he
  refine List.mem_map.2 ⟨i, ?_, by unfold keyAt; rw [List.getD_eq_getElem?_getD, List.getElem?_eq_getElem hi]; rfl⟩
  have := List.filter_eq_nil_iff.1 h0 i (List.mem_range.2 hi)
  rw [Bool.not_eq_true', Bool.not_eq_false, Array.contains_iff_mem] at this
  exact Array.mem_toList_iff.2 this
theorem Walk.len {x : Case} (h : OkCase x) {p : Array Nat × List Int} (hw : Walk (metM x) p) : p.2.length ≤ 32 := by
  have hk := metM_keys h
  exact Nat.le_trans (nodup_len (hw.nodup hk.1) fun y hy => (hk.2 y).1 (hw.mem y hy)) (caseSets_le x)
theorem Walk.sorted {x : Case} (h : OkCase x) {p : Array Nat × List Int} (hw : Walk (metM x) p) (h0 : leftM (metM x).length p.1 = []) : sortZ p.2.reverse = caseSets x := by
  have hk := metM_keys h
  exact sorted_keys h (nodup_rev (hw.nodup hk.1)) fun y => by rw [List.mem_reverse]; exact hw.done h0 y
theorem sem_make97 (h : List Blk) : SemOK Tryz.prog (opAt Tryz.f97 2 0) [] h (.map h.length) (h ++ [.obj (mobj [])]) := by
  have e : opAt Tryz.f97 2 0 = .makeMap 188 none := by kernel_rfl
  rw [e]; exact sem_makeMap 188
theorem sem_range97 (h : List Blk) (M : List (Int × Int)) (hq : h[3]? = some (.obj (mobj M))) : SemOK Tryz.prog (opAt Tryz.f97 13 1) [(.tmp 40, .map 3)] h (.ref h.length 0 0) (h ++ [.iter (.map 3) M.length #[]]) := by
  have e : opAt Tryz.f97 13 1 = .range 188 (.tmp 40) := by kernel_rfl
  rw [e]; exact sem_range (kt := 3) (et := 3) (by kernel_rfl) hq
theorem sem_next97 (h : List Blk) (M : List (Int × Int)) (seen : Array Nat) (hq : h[3]? = some (.obj (mobj M))) (hi : h[8]? = some (.iter (.map 3) M.length seen)) (h0 : leftM M.length seen ≠ []) :
    SemAny Tryz.prog (opAt Tryz.f97 14 0) [(.tmp 41, .ref 8 0 0)] h (leftM M.length seen).length (fun j => .tuple [.bool true, iI (M.getD ((leftM M.length seen).getD j 0) (0, 0)).1, iI (M.getD ((leftM M.length seen).getD j 0) (0, 0)).2])
      (fun j => h.set 8 (.iter (.map 3) M.length (seen.push ((leftM M.length seen).getD j 0)))) := by
  have e : opAt Tryz.f97 14 0 = .next (.tmp 41) false := by kernel_rfl
  rw [e]; exact sem_next1 hq hi h0
theorem sem_next97' (h : List Blk) (M : List (Int × Int)) (seen : Array Nat) (hq : h[3]? = some (.obj (mobj M))) (hi : h[8]? = some (.iter (.map 3) M.length seen)) (h0 : leftM M.length seen = []) :
    SemOK Tryz.prog (opAt Tryz.f97 14 0) [(.tmp 41, .ref 8 0 0)] h (.tuple [.bool false]) h := by
  have e : opAt Tryz.f97 14 0 = .next (.tmp 41) false := by kernel_rfl
  rw [e]; exact sem_next0 hq hi h0
theorem sem_entry97 (h : List Blk) (M : List (Int × Int)) (seen : Array Nat) (j : Nat) (hq : h[3]? = some (.obj (mobj M))) (hi : h[8]? = some (.iter (.map 3) M.length (seen.push j))) (hj : j < M.length) :
    SemOK Tryz.prog (opAt Tryz.f97 15 0) [(.tmp 41, .ref 8 0 0)] h (.tuple [iI (M.getD j (0, 0)).1, iI (M.getD j (0, 0)).2]) h := by
  have e : opAt Tryz.f97 15 0 = .entry (.tmp 41) := by kernel_rfl
  rw [e]; exact sem_entry hq hi (by simp) hj
theorem c145n (h : List Blk) : HCalls Tryz.prog 145 [.nils] (.tuple []) h h := by
  refine ⟨PCalls.enters Tryz.func145 (c := Tryz.f145.body.getD .skip) (by kernel_rfl) (by kernel_rfl), fun β G K w xs r hl hr => ?_⟩
  obtain ⟨v, rfl, hv⟩ := arg1 hl hr
  cases hv with
  | nils =>
    refine (Tryz.slices_Sort_int_none _ 0 w).mono ?_
    rintro e' w' ⟨rfl, rfl⟩
    exact ⟨_, β, G, K, rfl, Homes.le_refl _, G.ext_refl K, K.le_refl, r, .tuple rfl fun j hj => absurd hj (Nat.not_lt_zero _)⟩
theorem telc_last (a : List V) (u v : V) (hv : VLe u v) (j : Nat) : VLe ((a ++ [u]).getD j uU) ((a ++ [v]).getD j uU) := by
  rcases Nat.lt_or_ge j a.length with q | q
  · rw [getD_append_left q, getD_append_left q]; exact VLe.refl _
  · rw [getD_append_right q, getD_append_right q]
    match j - a.length with
    | 0 => exact hv
    | _ + 1 => exact VLe.refl _
theorem lit_rev1 (k : Int) {r j : Nat} (hr : r < 1) (hj : j < 1) : VLe (litC 1 1 [iI k] r j) (rowsRev tint [k] r j) := by
  obtain rfl : r = 0 := by omega
  obtain rfl : j = 0 := by omega
  exact VLe.refl _
set_option maxHeartbeats 1000000 in
theorem c94l (x : Case) : HCalls Tryz.prog 94 [.ref 1 0 0] (fG 139 [.ref 6 0 0]) [.cells (tCase.cells x), .cells (cellsC x .nils), .cells [.ref 1 0 0], .obj (mobj []), .cells [.map 3], .rows 130 2 4 (rowsFn tCast fun _ => zCast)]
    [.cells (tCase.cells x), .cells (cellsC x .nils), .cells [.ref 1 0 0], .obj (mobj []), .cells [.map 3], .rows 130 2 4 (rowsFn tCast fun _ => zCast), .cells [.ref 1 0 0]] := by
  refine w94_l x (WP.step ?_)
  simp only [T94_l, Go, Ends', v94_l, Tr.sure, SS]
  repeat' with_reducible first | intro _ | apply And.intro
  all_goals exact (Eq.refl _)
  all_goals rfl
set_option maxHeartbeats 4000000 in
theorem wl97 (x : Case) (h : OkCase x) {seen : Array Nat} {acc : List Int} (hw : Walk (metM x) (seen, acc)) : WP Tryz.prog ⟨none, 0⟩ (T97 x) (Ends' fun r => v97 r = court x (caseSets x)) (.l101 seen acc) := by
  refine WP.while (T := T97 x) (σ := Array Nat × List Int) (fun p => .l101 p.1 p.2) (fun p => Walk (metM x) p) (fun p => (metM x).length - p.1.size) (fun p hw => ?_) (s := (seen, acc)) hw
  obtain ⟨seen, acc⟩ := p
  have hl := hw.len h
  have hk : acc.length + 1 ≤ 4294967296 := by simp only at hl; omega
  by_cases hz : leftM (metM x).length seen = []
  · have hs := hw.sorted h hz
    simp only at hs
    have hsl : acc.length = (sortZ acc.reverse).length := by rw [sortZ_len, List.length_reverse]
    refine WP.once ?_
    simp only [T97, Tr.sure, SS, hz]
    repeat' with_reducible first | intro _ | apply And.intro
    all_goals first | exact (sem_next97' _ _ _ rfl rfl hz) | exact (c145r _ 9 acc rfl) | exact (VLe.same tint _ hsl) | (simp [hs, Go, Ends', v97, -List.getD_eq_getElem?_getD, *]; done) | skip
    all_goals first
      | (exact telc_last (tCase.cells x ++ kindCells) _ _ (VLe.same tint _ hsl) _)
      | (refine .inr ?_; show v97 _ = _; rw [hs]; rfl)
  · refine WP.once ?_
    simp only [T97, Tr.sure, SS, hz]
    repeat' with_reducible first | intro _ | apply And.intro
    all_goals first | exact (sem_next97 _ _ _ rfl rfl hz) | exact (over16 _ _ _ _ _ _ _ hk) | exact (sem_entry97 _ _ _ _ rfl rfl (left_mem' (by with_reducible assumption)).1) | exact (lit_rev1 _ (by with_reducible assumption) (by with_reducible assumption)) | skip
    all_goals
      rename_i j hj
      have hp := hw.push hj
      have hp2 := hp.size
      refine .inl ⟨(_, _), rfl, hp, ?_⟩
      have hq : ∀ y, (seen.push y).size = seen.size + 1 := fun y => Array.size_push y
      have hq2 : seen.size < (seen.push ((leftM (metM x).length seen).getD j 0)).size := by rw [hq]; exact Nat.lt_succ_self _
      exact Nat.sub_lt_sub_left (Nat.lt_of_lt_of_le hq2 hp2) hq2
theorem scal1 (k : Int) : ((List.range 1).all fun r => (List.range 1).all fun j => (litC 1 1 [iI k] r j).scalar) = true := rfl
set_option maxHeartbeats 4000000 in
theorem c97 (x : Case) (h : OkCase x) : PC 97 [.agg (tCase.cells x)] (· = court x (caseSets x)) := by
  by_cases hz : leftM (metM x).length #[] = []
  · have hs := (Walk.nil (metM x)).sorted h hz
    simp only at hs
    have h0 : sortZ ([] : List Int).reverse = [] := by unfold sortZ; rw [List.reverse_nil, List.mergeSort_nil]
    rw [← hs, h0]
    refine PCalls.weakV (v := courtN x) ?_ (courtN_le x)
    have hd : WP Tryz.prog ⟨none, 0⟩ (T97 x) (Ends' fun r => v97 r = courtN x) .l1 := by
      refine WP.step ?_
      simp only [T97, Go, Ends', v97, Tr.sure, SS, hz]
      repeat' with_reducible first | intro _ | apply And.intro
      all_goals first | exact (sem_next97' _ _ _ rfl rfl hz) | exact (c145n _) | exact (Eq.refl (courtN x))
    refine w97 x (WP.step ?_)
    simp only [T97, Go, Ends', v97, Tr.sure, SS]
    repeat' with_reducible first | intro _ | apply And.intro
    all_goals first | exact c122a | exact (sem_make97 _) | exact (tel_zeroC _ _) | exact (c94l x) | exact (range97 x h _ rfl rfl rfl rfl rfl) | exact (sem_range97 _ _ rfl) | (simp_all [Go, Ends', v97, -List.getD_eq_getElem?_getD]; done)
    all_goals first
      | exact hd
  · have hd : WP Tryz.prog ⟨none, 0⟩ (T97 x) (Ends' fun r => v97 r = court x (caseSets x)) .l1 := by
      refine WP.step ?_
      simp only [T97, Go, Ends', v97, Tr.sure, SS, hz]
      repeat' with_reducible first | intro _ | apply And.intro
      all_goals first | exact (sem_next97 _ _ _ rfl rfl hz) | exact (sem_entry97 _ _ _ _ rfl rfl (left_mem' (by with_reducible assumption)).1) | exact (lit_rev1 _ (by with_reducible assumption) (by with_reducible assumption)) | exact (scal1 _) | (simp [Go, Ends', v97, -List.getD_eq_getElem?_getD, *]; done) | skip
      all_goals first
        | exact wl97 x h ((Walk.nil (metM x)).push (by with_reducible assumption))
    refine w97 x (WP.step ?_)
    simp only [T97, Go, Ends', v97, Tr.sure, SS]
    repeat' with_reducible first | intro _ | apply And.intro
    all_goals first | exact c122a | exact (sem_make97 _) | exact (tel_zeroC _ _) | exact (c94l x) | exact (range97 x h _ rfl rfl rfl rfl rfl) | exact (sem_range97 _ _ rfl) | (simp_all [Go, Ends', v97, -List.getD_eq_getElem?_getD]; done)
    all_goals first
      | exact hd
end
noncomputable section
def entP (x : Case) (e : Int) : V := if (truthsE x e).2 = 0 then court x (caseSets x) else .nil
inductive P63_f
  | e
inductive R63_f
  | r0 (r1 : Int)
  | r1 (r0c : Case) (r0s : List Int) (r1 : Int)
noncomputable def T63_f (x : Case) : P63_f → Tr P63_f R63_f
  | .e => let c1 := caseCheck x; (.call 16 [.agg (cC x)] (.tuple [iI (c1.1), iI (c1.2.1), iI (c1.2.2)]) true true (.br (c1.2.2 != (0 : Int)) (.out (.r0 (c1.2.2))) (.call 64 [] (iI 0) true true (.br ((0 : Int) != (0 : Int)) (.out (.r0 0)) (.call 97 [.agg (cC x)] (court x (caseSets x)) true true (.br ((((caseSets x).length) : Int) == (0 : Int)) (.out (.r0 8)) (.out (.r1 x (caseSets x) 0))))))))
noncomputable def g63_f (x : Case) : P63_f → List Item × St
  | .e => bd Tryz.f63 [.agg (cC x), fF 64] 32
noncomputable def n63_f : R63_f → Exit × St
  | .r0 r1 => (.ret, ⟨mk 34 [(4, .nil), (5, iI r1)], [], []⟩)
  | .r1 r0c r0s r1 => (.ret, ⟨mk 34 [(4, court r0c r0s), (5, iI r1)], [], []⟩)
noncomputable def v63_f : R63_f → V
  | .r0 r1 => .tuple [.nil, iI r1]
  | .r1 r0c r0s r1 => .tuple [court r0c r0s, iI r1]
theorem s63_f (x : Case) : Sm 0 (g63_f x) (T63_f x) (n63_f)
  | .e => ⟨400, by kernel_rfl⟩
theorem q63_f : ∀ r, bodyQ Tryz.prog Tryz.f63 (· = v63_f r) (n63_f r).1 (n63_f r).2
  | .r0 r1 => bq (.tuple [.nil, iI r1]) (by kernel_rfl)
  | .r1 r0c r0s r1 => bq (.tuple [court r0c r0s, iI r1]) (by kernel_rfl)
theorem w63_f (x : Case) {post : V → Prop} (h : WQ (T63_f x) v63_f post .e) : PC 63 [.agg (cC x), fF 64] post :=
  PCalls.wq Tryz.func63 (s63_f x) q63_f h
inductive P63_i
  | e
inductive R63_i
  | r0 (r1 : Int)
  | r1 (r0c : Case) (r0s : List Int) (r1 : Int)
noncomputable def T63_i (n : Int) (x : Case) : P63_i → Tr P63_i R63_i
  | .e => let c1 := indexErr n (x.claims.length : Int); let c2 := caseCheck x; (.call 16 [.agg (cC x)] (.tuple [iI (c2.1), iI (c2.2.1), iI (c2.2.2)]) true true (.br (c2.2.2 != (0 : Int)) (.out (.r0 (c2.2.2))) (.call 132 [rR (iI (x.claims.length : Int)), rR (iI n)] (iI c1) true true (.br (c1 != (0 : Int)) (.out (.r0 c1)) (.call 97 [.agg (cC x)] (court x (caseSets x)) true true (.br ((((caseSets x).length) : Int) == (0 : Int)) (.out (.r0 8)) (.out (.r1 x (caseSets x) 0))))))))
noncomputable def g63_i (n : Int) (x : Case) : P63_i → List Item × St
  | .e => bd Tryz.f63 [.agg (cC x), fG 132 [rR (iI (x.claims.length : Int)), rR (iI n)]] 32
noncomputable def n63_i : R63_i → Exit × St
  | .r0 r1 => (.ret, ⟨mk 34 [(4, .nil), (5, iI r1)], [], []⟩)
  | .r1 r0c r0s r1 => (.ret, ⟨mk 34 [(4, court r0c r0s), (5, iI r1)], [], []⟩)
noncomputable def v63_i : R63_i → V
  | .r0 r1 => .tuple [.nil, iI r1]
  | .r1 r0c r0s r1 => .tuple [court r0c r0s, iI r1]
theorem s63_i (n : Int) (x : Case) : Sm 0 (g63_i n x) (T63_i n x) (n63_i)
  | .e => ⟨400, by kernel_rfl⟩
theorem q63_i : ∀ r, bodyQ Tryz.prog Tryz.f63 (· = v63_i r) (n63_i r).1 (n63_i r).2
  | .r0 r1 => bq (.tuple [.nil, iI r1]) (by kernel_rfl)
  | .r1 r0c r0s r1 => bq (.tuple [court r0c r0s, iI r1]) (by kernel_rfl)
theorem w63_i (n : Int) (x : Case) {post : V → Prop} (h : WQ (T63_i n x) v63_i post .e) : PC 63 [.agg (cC x), fG 132 [rR (iI (x.claims.length : Int)), rR (iI n)]] post :=
  PCalls.wq Tryz.func63 (s63_i n x) q63_i h
inductive P63_l
  | e
inductive R63_l
  | r0 (r1 : Int)
  | r1 (r0c : Case) (r0s : List Int) (r1 : Int)
noncomputable def T63_l (l : List Int) (x : Case) : P63_l → Tr P63_l R63_l
  | .e => let c1 := listErr (x.claims.length : Int) l; let c2 := caseCheck x; (.call 16 [.agg (cC x)] (.tuple [iI (c2.1), iI (c2.2.1), iI (c2.2.2)]) true true (.br (c2.2.2 != (0 : Int)) (.out (.r0 (c2.2.2))) (.call 134 [rR (iI (x.claims.length : Int)), rR (tint.lst l)] (iI c1) true true (.br (c1 != (0 : Int)) (.out (.r0 c1)) (.call 97 [.agg (cC x)] (court x (caseSets x)) true true (.br ((((caseSets x).length) : Int) == (0 : Int)) (.out (.r0 8)) (.out (.r1 x (caseSets x) 0))))))))
noncomputable def g63_l (l : List Int) (x : Case) : P63_l → List Item × St
  | .e => bd Tryz.f63 [.agg (cC x), fG 134 [rR (iI (x.claims.length : Int)), rR (tint.lst l)]] 32
noncomputable def n63_l : R63_l → Exit × St
  | .r0 r1 => (.ret, ⟨mk 34 [(4, .nil), (5, iI r1)], [], []⟩)
  | .r1 r0c r0s r1 => (.ret, ⟨mk 34 [(4, court r0c r0s), (5, iI r1)], [], []⟩)
noncomputable def v63_l : R63_l → V
  | .r0 r1 => .tuple [.nil, iI r1]
  | .r1 r0c r0s r1 => .tuple [court r0c r0s, iI r1]
theorem s63_l (l : List Int) (x : Case) : Sm 0 (g63_l l x) (T63_l l x) (n63_l)
  | .e => ⟨400, by kernel_rfl⟩
theorem q63_l : ∀ r, bodyQ Tryz.prog Tryz.f63 (· = v63_l r) (n63_l r).1 (n63_l r).2
  | .r0 r1 => bq (.tuple [.nil, iI r1]) (by kernel_rfl)
  | .r1 r0c r0s r1 => bq (.tuple [court r0c r0s, iI r1]) (by kernel_rfl)
theorem w63_l (l : List Int) (x : Case) {post : V → Prop} (h : WQ (T63_l l x) v63_l post .e) : PC 63 [.agg (cC x), fG 134 [rR (iI (x.claims.length : Int)), rR (tint.lst l)]] post :=
  PCalls.wq Tryz.func63 (s63_l l x) q63_l h
theorem many_le {x : Case} (h : OkCase x) : x.claims.length ≤ maxn := by have := h.five; unfold maxn; omega
theorem c63f (x : Case) : PC 63 [.agg (tCase.cells x), fF 64] (· = .tuple [entP x 0, iI (truthsE x 0).2]) := by
  have hw : ∀ v, (caseCheck x).2.2 = 0 → v = court x (caseSets x) → PC 97 [.agg (tCase.cells x)] (· = v) := fun v h e => e ▸ c97 x (okCase h)
  refine w63_f x (WP.step ?_)
  simp only [T63_f, Go, Ends', v63_f, Tr.sure, SS]
  repeat' with_reducible first | intro _ | apply And.intro
  all_goals first | exact (c16 x) | exact c64 | exact (hw _ (by with_reducible assumption) rfl) | (simp [entP, truthsE, Go, Ends', v63_f, -List.getD_eq_getElem?_getD, *]; done)
theorem c63i (x : Case) (n : Int) : PC 63 [.agg (tCase.cells x), fG 132 [rR (iI (x.claims.length : Int)), rR (iI n)]] (· = .tuple [entP x (indexErr n x.claims.length), iI (truthsE x (indexErr n x.claims.length)).2]) := by
  have hw : ∀ v, (caseCheck x).2.2 = 0 → v = court x (caseSets x) → PC 97 [.agg (tCase.cells x)] (· = v) := fun v h e => e ▸ c97 x (okCase h)
  have hm : (caseCheck x).2.2 = 0 → x.claims.length ≤ maxn := fun h => many_le (okCase h)
  refine w63_i n x (WP.step ?_)
  simp only [T63_i, Go, Ends', v63_i, Tr.sure, SS]
  repeat' with_reducible first | intro _ | apply And.intro
  all_goals first | exact (c16 x) | exact (c132 _ n (hm (by with_reducible assumption))) | exact (hw _ (by with_reducible assumption) rfl) | (simp [entP, truthsE, Go, Ends', v63_i, -List.getD_eq_getElem?_getD, *]; done)
theorem c63l (x : Case) (l : List Int) : PC 63 [.agg (tCase.cells x), fG 134 [rR (iI (x.claims.length : Int)), rR (tint.lst l)]] (· = .tuple [entP x (listErr x.claims.length l), iI (truthsE x (listErr x.claims.length l)).2]) := by
  have hw : ∀ v, (caseCheck x).2.2 = 0 → v = court x (caseSets x) → PC 97 [.agg (tCase.cells x)] (· = v) := fun v h e => e ▸ c97 x (okCase h)
  have hm : (caseCheck x).2.2 = 0 → x.claims.length ≤ maxn := fun h => many_le (okCase h)
  refine w63_l l x (WP.step ?_)
  simp only [T63_l, Go, Ends', v63_l, Tr.sure, SS]
  repeat' with_reducible first | intro _ | apply And.intro
  all_goals first | exact (c16 x) | exact (c134 _ l (hm (by with_reducible assumption))) | exact (hw _ (by with_reducible assumption) rfl) | (simp [entP, truthsE, Go, Ends', v63_l, -List.getD_eq_getElem?_getD, *]; done)
end
end Go.Proofs.YtdamoemndifpmaaGreat
