/-
  Part of the proof of ClaimFalls. Conditions: those that stand in each theorem.
-/
import Derived.Test.YtdamoemndifpmaaGreatK501
set_option linter.unusedSimpArgs false
set_option linter.unusedVariables false
set_option maxRecDepth 100000
namespace Go.Proofs.YtdamoemndifpmaaGreat
open Ab Go
noncomputable section
theorem tel_rep {τ : Type} (E : Ty τ) (x : τ) {n : Nat} {cs : List V} (hc : cs = E.cells x) {r j : Nat} (hr : r < n) : VLe (cs.getD j uU) (rowsOf E (List.replicate n x) r j) := by
  subst hc
  have : (List.replicate n x).getD r E.zero = x := by simp [List.getD_eq_getElem?_getD, hr]
  simp only [rowsOf, this]; exact VLe.refl _
theorem set_one (b x : Int) : ([b] : List Int).set 0 x = [x] := rfl
theorem underL_bool (b : Bool) : underL 0 [.bool b] = true := rfl
inductive P183
  | e
  | l0 (x0_6 : Int) (a0_1 : List Int)
  | l1 (x1_5 : List Int) (x1_7 : Int)
  | l2 (x1_7 : Int) (x2_5 : List Int) (x2_8 : Int)
  | l3 (x1_7 : Int) (x2_5 : List Int) (x2_8 : Int) (x3_11 : Int) (a3_2 : List Int)
  | l4 (x1_7 : Int) (x2_5 : List Int) (x2_8 : Int) (x3_11 : Int) (x4_13 : Int) (a4_2 : List Int)
inductive R183
  | r0 (r0 : List Int)
noncomputable def T183 (p0 : Case) (p1 : List Cast) : P183 → Tr P183 R183
  | .e => (.wait 6 (.telb 1 1 1 (litC 1 1 [iI 0]) (rowsOf tint ([0] : List Int)) (.go (.l0 0 ([0] : List Int)))))
  | .l0 x0_6 a0_1 => let c1 := p0.claims.getD (x0_6).toNat tClaim.zero; let c2 := (a0_1.getD ((0 : Int)).toNat tint.zero) + (bitZ x0_6); let c3 := x0_6 + (1 : Int); let c4 := (decide (0 ≤ (0 : Int)) && decide ((0 : Int) < (1 : Int))) && decide (1 ≤ 1); let c5 := x0_6 < (p0.claims.length : Int); let c6 := ([iI c2] : List V); let c7 : Tr P183 R183 := .need (inR .i64 c3) (.go (.l0 c3 a0_1)); let c8 := a0_1.set (((0 : Int)).toNat) c2; let c9 := decide (0 ≤ x0_6) && decide c5; (.br (decide c5) (.need c9 (.call 130 [iI (c1.kind)] (.bool (lasting (c1.kind))) true true (.br (!(lasting (c1.kind))) (.need c9 (.call 44 [.agg [iI (c1.own), iI (c1.kind), iI (c1.a), iI (c1.b), iI (c1.mould), iI (c1.feature), iI (c1.number), iI (c1.worth)], tCast.lst p1, iI 0] (.bool (so c1 p1 0)) true true (.br (so c1 p1 0) (.front [(5, 182, [iI x0_6], iI (bitZ x0_6))] [] ((c4 && ((decide (((0 : Int)).toNat < 1) && decide (0 < 1)) && ((inR .i64 c2) && true))) && true) true (.need c4 (.need ((decide (((0 : Int)).toNat < 1) && decide (0 + c6.length ≤ 1)) && underL 0 c6) (.telb 1 1 1 (fun r' j => if r' = ((0 : Int)).toNat ∧ 0 ≤ j ∧ j < 0 + c6.length then c6.getD (j - 0) uU else (rowsOf tint a0_1) r' j) (rowsOf tint c8) (.need (inR .i64 c3) (.go (.l0 c3 c8))))))) c7))) (.lit false c7)))) (.wait 5 (.frz 1 ((decide (1 ≤ 1)) && true) (.vle 5 (.list 1 1 (rowsOf tint a0_1)) (tint.lst a0_1) (.go (.l1 a0_1 0))))))
  | .l1 x1_5 x1_7 => (.br (decide (x1_7 < (p0.shop.moulds.length : Int))) (.go (.l2 x1_7 x1_5 0)) (.out (.r0 x1_5)))
  | .l2 x1_7 x2_5 x2_8 => let c1 := lastOf p0.shop p1 x1_7 x2_8; (.br (decide (x2_8 < p0.shop.features)) (.call 185 [.agg [iI p0.shop.features, tMould.lst p0.shop.moulds, tHead.lst p0.shop.heads], tCast.lst p1, iI x1_7, iI x2_8] (.agg [iI (c1.lo), iI (c1.hi)]) true true (.wait 2 (.own 10 3 1 (.go (.l3 x1_7 x2_5 x2_8 (c1.lo) ([])))))) (.need (inR .i64 (x1_7 + (1 : Int))) (.go (.l1 x2_5 (x1_7 + (1 : Int))))))
  | .l3 x1_7 x2_5 x2_8 x3_11 a3_2 => let c1 : V := .list 1 a3_2.length (rowsRev tint a3_2); let c2 := decide (a3_2.length ≤ a3_2.length); let c3 := tint.lst a3_2.reverse; (.br (decide (x3_11 ≤ (lastOf p0.shop p1 x1_7 x2_8).hi)) (.call 205 [.agg (cC p0), tCast.lst p1, iI x1_7, iI x2_8, iI x3_11] (iI (aboutR p0 p1 x1_7 x2_8 x3_11)) true true (.go (.l4 x1_7 x2_5 x2_8 x3_11 0 a3_2))) (.need (inR .i64 (x2_8 + (1 : Int))) (.frz 2 (c2 && (c2 && (c2 && true))) (.vle 5 c1 c3 (.vle 10 c1 c3 (.vle 106 c1 c3 (.go (.l2 x1_7 a3_2.reverse (x2_8 + (1 : Int))))))))))
  | .l4 x1_7 x2_5 x2_8 x3_11 x4_13 a4_2 => let c1 := (x2_5.getD (x4_13).toNat tint.zero) + (aboutR p0 p1 x1_7 x2_8 x3_11); let c2 := decide (0 ≤ x4_13) && decide (x4_13 < (x2_5.length : Int)); let c3 := x4_13 + (1 : Int); (.br (decide (x4_13 < (x2_5.length : Int))) (.need c2 (.need (inR .i64 c1) (.call 45 [.list 1 a4_2.length (rowsRev tint a4_2), iI c1] (.bool (hasN a4_2.reverse c1)) ((decide (a4_2.length ≤ a4_2.length)) && true) true (.br (!(hasN a4_2.reverse c1)) (.need c2 (.need (inR .i64 c1) (.need ((decide (a4_2.length = a4_2.length) && decide (a4_2.length + 1 ≤ 4294967296)) && decide (1 ≤ 1)) (.scal (fun _ => true) (.need (inR .i64 c3) (.go (.l4 x1_7 x2_5 x2_8 x3_11 c3 (c1 :: a4_2)))))))) (.need (inR .i64 c3) (.go (.l4 x1_7 x2_5 x2_8 x3_11 c3 a4_2))))))) (.need (inR .i64 (x3_11 + (1 : Int))) (.go (.l3 x1_7 x2_5 x2_8 (x3_11 + (1 : Int)) a4_2))))
noncomputable def g183 (p0 : Case) (p1 : List Cast) : P183 → List Item × St
  | .e => bd Tryz.f183 [.agg (cC p0), tCast.lst p1] 106
  | .l0 x0_6 a0_1 => (cutOf Tryz.f183 0, ⟨mk 108 [(1, tCast.lst p1), (2, .ref 0 0 0), (4, .nils), (5, .row 1 1), (6, iI x0_6)], [.cells (cC p0), .rows 3 1 1 (rowsOf tint a0_1)], []⟩)
  | .l1 x1_5 x1_7 => (cutOf Tryz.f183 1, ⟨mk 108 [(1, tCast.lst p1), (2, .ref 0 0 0), (4, .nils), (5, tint.lst x1_5), (7, iI x1_7)], [.cells (cC p0)], []⟩)
  | .l2 x1_7 x2_5 x2_8 => (cutOf Tryz.f183 2, ⟨mk 108 [(1, tCast.lst p1), (2, .ref 0 0 0), (4, .nils), (5, tint.lst x2_5), (7, iI x1_7), (8, iI x2_8), (47, iI x1_7), (48, .ref 0 0 0), (49, .ref 0 0 1), (50, tMould.lst p0.shop.moulds), (51, iI (p0.shop.moulds.length : Int)), (52, .bool (decide (x1_7 < (p0.shop.moulds.length : Int))))], [.cells (cC p0)], []⟩)
  | .l3 x1_7 x2_5 x2_8 x3_11 a3_2 => (cutOf Tryz.f183 3, ⟨mk 108 [(1, tCast.lst p1), (2, .ref 0 0 0), (4, .nils), (5, tint.lst x2_5), (7, iI x1_7), (8, iI x2_8), (9, .ref 1 0 0), (10, .row 2 a3_2.length), (11, iI x3_11), (47, iI x1_7), (48, .ref 0 0 0), (49, .ref 0 0 1), (50, tMould.lst p0.shop.moulds), (51, iI (p0.shop.moulds.length : Int)), (52, .bool (decide (x1_7 < (p0.shop.moulds.length : Int)))), (55, iI x2_8), (56, .ref 0 0 0), (57, .ref 0 0 0), (58, iI p0.shop.features), (59, .bool (decide (x2_8 < p0.shop.features))), (62, .ref 0 0 0), (63, .agg [iI p0.shop.features, tMould.lst p0.shop.moulds, tHead.lst p0.shop.heads]), (64, tCast.lst p1), (65, iI x1_7), (66, iI x2_8), (67, .agg [iI ((lastOf p0.shop p1 x1_7 x2_8).lo), iI ((lastOf p0.shop p1 x1_7 x2_8).hi)]), (68, .ref 1 0 0), (69, iI ((lastOf p0.shop p1 x1_7 x2_8).lo))], [.cells (cC p0), .cells [iI ((lastOf p0.shop p1 x1_7 x2_8).lo), iI ((lastOf p0.shop p1 x1_7 x2_8).hi)], .rows 3 1 a3_2.length (rowsRev tint a3_2)], []⟩)
  | .l4 x1_7 x2_5 x2_8 x3_11 x4_13 a4_2 => (cutOf Tryz.f183 4, ⟨mk 108 [(1, tCast.lst p1), (2, .ref 0 0 0), (4, .nils), (5, tint.lst x2_5), (7, iI x1_7), (8, iI x2_8), (9, .ref 1 0 0), (10, .row 2 a4_2.length), (11, iI x3_11), (12, iI (aboutR p0 p1 x1_7 x2_8 x3_11)), (13, iI x4_13), (47, iI x1_7), (48, .ref 0 0 0), (49, .ref 0 0 1), (50, tMould.lst p0.shop.moulds), (51, iI (p0.shop.moulds.length : Int)), (52, .bool (decide (x1_7 < (p0.shop.moulds.length : Int)))), (55, iI x2_8), (56, .ref 0 0 0), (57, .ref 0 0 0), (58, iI p0.shop.features), (59, .bool (decide (x2_8 < p0.shop.features))), (62, .ref 0 0 0), (63, .agg [iI p0.shop.features, tMould.lst p0.shop.moulds, tHead.lst p0.shop.heads]), (64, tCast.lst p1), (65, iI x1_7), (66, iI x2_8), (67, .agg [iI ((lastOf p0.shop p1 x1_7 x2_8).lo), iI ((lastOf p0.shop p1 x1_7 x2_8).hi)]), (68, .ref 1 0 0), (69, iI ((lastOf p0.shop p1 x1_7 x2_8).lo)), (70, iI x3_11), (71, .ref 1 0 1), (72, iI ((lastOf p0.shop p1 x1_7 x2_8).hi)), (73, .bool (decide (x3_11 ≤ (lastOf p0.shop p1 x1_7 x2_8).hi))), (76, .agg (cC p0)), (77, tCast.lst p1), (78, iI x1_7), (79, iI x2_8), (80, iI x3_11), (81, iI (aboutR p0 p1 x1_7 x2_8 x3_11))], [.cells (cC p0), .cells [iI ((lastOf p0.shop p1 x1_7 x2_8).lo), iI ((lastOf p0.shop p1 x1_7 x2_8).hi)], .rows 3 1 a4_2.length (rowsRev tint a4_2)], []⟩)
noncomputable def n183 : R183 → Exit × St
  | .r0 r0 => (.ret, ⟨mk 108 [(4, tint.lst r0)], [], []⟩)
noncomputable def v183 : R183 → V
  | .r0 r0 => tint.lst r0
theorem s183 (p0 : Case) (p1 : List Cast) : Sm 0 (g183 p0 p1) (T183 p0 p1) (n183)
  | .e => ⟨400, by kernel_rfl⟩
  | .l0 _ _ => ⟨400, by kernel_rfl⟩
  | .l1 _ _ => ⟨400, by kernel_rfl⟩
  | .l2 _ _ _ => ⟨400, by kernel_rfl⟩
  | .l3 _ _ _ _ _ => ⟨400, by kernel_rfl⟩
  | .l4 _ _ _ _ _ _ => ⟨400, by kernel_rfl⟩
theorem q183 : ∀ r, bodyQ Tryz.prog Tryz.f183 (· = v183 r) (n183 r).1 (n183 r).2
  | .r0 r0 => bq (tint.lst r0) (by kernel_rfl)
theorem w183 (p0 : Case) (p1 : List Cast) {post : V → Prop} (h : WQ (T183 p0 p1) v183 post .e) : PC 183 [.agg (cC p0), tCast.lst p1] post :=
  PCalls.wq Tryz.func183 (s183 p0 p1) q183 h
theorem c183 (c : Case) (l : List Cast) (h : OkCase c) (hl : l.length = c.shop.heads.length) (hc : ∀ x ∈ l, CastOk c.shop x) : PC 183 [.agg (tCase.cells c), tCast.lst l] (· = tint.lst (casesR c l)) := by
  have h5 := h.five
  have hm := h.shop.nm
  have hf := h.shop.feat
  refine w183 _ _ (WP.step ?_)
  simp only [T183, Go, Ends', v183, Tr.sure, SS]
  repeat' with_reducible first | intro _ | apply And.intro
  all_goals first | exact tel_lit tint [0] rfl rfl (fun _ => rfl) rfl (by assumption) (by assumption) | skip
  refine WP.run (fun i => .l0 i [castTo c l i]) rfl c.claims.length (fun i hi => ?_) ?_
  · have hr : inR .i64 ((i : Int) + 1) = true := inR64 (by omega) (by omega)
    have hk := h.cl hi
    have hs : castTo c l (i + 1) = if castP c l i = true then castTo c l i + bitZ i else castTo c l i := mask_succ _ _
    have hm0 := mask_lt (p := castP c l) (n := i) (by omega)
    have hb : inR .i64 (castTo c l i + bitZ i) = true := by
      have : bitZ (i : Int) ≤ 32 := by
        rcases show i = 0 ∨ i = 1 ∨ i = 2 ∨ i = 3 ∨ i = 4 by omega with e | e | e | e | e <;> subst e <;> decide
      have := bitZ_pos (i : Int)
      unfold castTo; exact inR64 (by omega) (by omega)
    have hcl : c.claims.getD i zClaim = cl c i := rfl
    have hcall := c44 (cl c i) l 0 hk.kind (fun e => by have := hk.cast e; omega) (fun e => by have := hk.pair e; omega)
    have hg0 : ([castTo c l i] : List Int).getD 0 0 = castTo c l i := rfl
    refine WP.once ?_
    simp only [T183, Tr.sure, SS, hi, z8, z1, hcl, hg0, Int.toNat_zero]
    repeat' with_reducible first | intro _ | apply And.intro
    all_goals first | exact c130 _ | exact hcall | exact c182 _ (by omega) | exact (tel_set tint _ _ _ _ rfl rfl rfl _ _ (by assumption) (by assumption)) | (simp [hr, hb, hs, castP, set_one, underL_int, Go, Ends', v183, -List.getD_eq_getElem?_getD, *]; done)
  · refine WP.step ?_
    simp only [T183, Go, Ends', v183, Tr.sure, SS, Int.lt_irrefl]
    repeat' with_reducible first | intro _ | apply And.intro
    all_goals first | exact tel_one tint _ rfl | (simp [Go, Ends', v183, -List.getD_eq_getElem?_getD, *]; done) | skip
    refine WP.run (fun m => .l1 (mouldR c l m) m) rfl c.shop.moulds.length (fun m hmi => ?_) ?_
    · have hr : inR .i64 ((m : Int) + 1) = true := inR64 (by omega) (by omega)
      have hml := mouldR_le h.shop l m (by omega)
      have hml' : (mouldR c l m).length ≤ 5764801 := Nat.le_trans hml (by
        rcases show m = 0 ∨ m = 1 ∨ m = 2 by omega with e | e | e <;> subst e <;> decide)
      refine WP.step ?_
      simp only [T183, Go, Ends', v183, Tr.sure, SS, hmi]
      repeat' with_reducible first | intro _ | apply And.intro
      obtain ⟨F, hF⟩ : ∃ F : Nat, c.shop.features.toNat = F := ⟨_, rfl⟩
      refine WP.run (fun f => .l2 m (featR c l m (mouldR c l m) f) f) rfl F (fun f hfi => ?_) ?_
      · have hr' : inR .i64 ((f : Int) + 1) = true := inR64 (by omega) (by omega)
        have hfl : (f : Int) < c.shop.features := by omega
        have hcall := c185 c.shop l m f h.shop (by omega) hc (by omega) (by omega)
        have hout : ∀ o ∈ featR c l m (mouldR c l m) f, 0 ≤ o ∧ o < 32 := fun o ho => featR_in h5 hmi (by omega) ho
        have hlen := featR_le h.shop l (m := (m : Int)) (by omega) (mouldR c l m) f (by omega)
        have h7 := pow7 (F := f) (by omega)
        have hlen' : (featR c l m (mouldR c l m) f).length ≤ 20000000 := by
          by_cases hm0 : m = 0
          · subst hm0
            have : (mouldR c l 0).length = 1 := rfl
            rw [this] at hlen; omega
          · have hm1 : m = 1 := by omega
            subst hm1
            have := Nat.mul_le_mul h7 hml
            simp only [Nat.pow_one] at this
            omega
        have hnext : featR c l m (mouldR c l m) (f + 1) = stepR c l m f (featR c l m (mouldR c l m) f) := rfl
        have hwd := wide_le h.shop l (m := (m : Int)) (f := (f : Int)) (by omega) (by omega)
        have hin := lastOf_in h.shop l (m := (m : Int)) (f := (f : Int)) (by omega) (by omega)
        generalize featR c l m (mouldR c l m) f = out at *
        refine WP.step ?_
        simp only [T183, Go, Ends', v183, Tr.sure, SS, hfl]
        repeat' with_reducible first | intro _ | apply And.intro
        all_goals first | exact hcall | skip
        refine WP.run (fun n => .l3 m out f ((lastOf c.shop l m f).lo + (n : Int)) (lastsN c l m f out n).reverse) (by simp [lastsN, natF]) (Go.Proofs.YtdamoemndifpmaaGreat.wide (lastOf c.shop l m f)) (fun n hn => ?_) ?_
        · have hle : (lastOf c.shop l m f).lo + (n : Int) ≤ (lastOf c.shop l m f).hi := by unfold Go.Proofs.YtdamoemndifpmaaGreat.wide at hn; omega
          have hcall2 := c205 c l m f ((lastOf c.shop l m f).lo + (n : Int)) h
          have hown := mask_lt (p := aboutP c l m f ((lastOf c.shop l m f).lo + (n : Int))) h5
          have hr3 : inR .i64 ((lastOf c.shop l m f).lo + (n : Int) + 1) = true := inR64 (by omega) (by omega)
          have hla := lastsN_le c l m f out n
          have hlb : (lastsN c l m f out n).length ≤ 140000000 := Nat.le_trans hla (Nat.le_trans (Nat.mul_le_mul (show n ≤ 7 by omega) hlen') (by decide))
          have hx : (lastOf c.shop l m f).lo + ((n + 1 : Nat) : Int) = (lastOf c.shop l m f).lo + (n : Int) + 1 := by omega
          have hln : lastsN c l m f out (n + 1) = innerN out (aboutR c l m f ((lastOf c.shop l m f).lo + (n : Int))) (lastsN c l m f out n) out.length := rfl
          refine WP.step ?_
          simp only [T183, Go, Ends', v183, Tr.sure, SS, hle]
          repeat' with_reducible first | intro _ | apply And.intro
          all_goals first | exact hcall2 | skip
          refine WP.run (fun k => .l4 m out f ((lastOf c.shop l m f).lo + (n : Int)) k (innerN out (aboutR c l m f ((lastOf c.shop l m f).lo + (n : Int))) (lastsN c l m f out n) k).reverse) rfl out.length (fun k hk => ?_) ?_
          · have hr4 : inR .i64 ((k : Int) + 1) = true := inR64 (by omega) (by omega)
            have ho := hout _ (getD_mem 0 out k hk)
            have hsum : inR .i64 (out.getD k 0 + aboutR c l m f ((lastOf c.shop l m f).lo + (n : Int))) = true := by
              unfold aboutR aboutTo; exact inR64 (by omega) (by omega)
            have hli := innerN_le out (aboutR c l m f ((lastOf c.shop l m f).lo + (n : Int))) (lastsN c l m f out n) k
            have hnx : innerN out (aboutR c l m f ((lastOf c.shop l m f).lo + (n : Int))) (lastsN c l m f out n) (k + 1) = addNew (innerN out (aboutR c l m f ((lastOf c.shop l m f).lo + (n : Int))) (lastsN c l m f out n) k) (out.getD k 0 + aboutR c l m f ((lastOf c.shop l m f).lo + (n : Int))) := rfl
            generalize innerN out (aboutR c l m f ((lastOf c.shop l m f).lo + (n : Int))) (lastsN c l m f out n) k = nx at *
            have hb : nx.length + 1 ≤ 4294967296 := by omega
            have hcall3 := c45r nx.reverse (out.getD k 0 + aboutR c l m f ((lastOf c.shop l m f).lo + (n : Int)))
            refine WP.once ?_
            simp only [T183, Tr.sure, SS, hk, z1]
            repeat' with_reducible first | intro _ | apply And.intro
            all_goals first | exact hcall3 | (simp [hr4, hsum, hb, hnx, addNew, Go, Ends', v183, -List.getD_eq_getElem?_getD, *]; done) | (simp_all [hr4, hsum, hb, hnx, addNew, Go, Ends', v183, -List.getD_eq_getElem?_getD]; done)
          · refine WP.once ?_
            simp only [T183, Tr.sure, SS, Int.lt_irrefl]
            repeat' with_reducible first | intro _ | apply And.intro
            all_goals first | (simp [hr3, hx, hln, Go, Ends', v183, -List.getD_eq_getElem?_getD, *]; done) | (simp_all [hr3, hx, hln, Go, Ends', v183, -List.getD_eq_getElem?_getD]; done)
        · have hle : ¬ (lastOf c.shop l m f).lo + (Go.Proofs.YtdamoemndifpmaaGreat.wide (lastOf c.shop l m f) : Int) ≤ (lastOf c.shop l m f).hi := by unfold Go.Proofs.YtdamoemndifpmaaGreat.wide; omega
          have he : (lastsN c l m f out (Go.Proofs.YtdamoemndifpmaaGreat.wide (lastOf c.shop l m f))).reverse.reverse = stepR c l m f out := by rw [List.reverse_reverse]; rfl
          refine WP.once ?_
          simp only [T183, Tr.sure, SS, hle]
          repeat' with_reducible first | intro _ | apply And.intro
          all_goals first | exact VLe.rev tint _ | (simp [hr', he, hnext, Go, Ends', v183, -List.getD_eq_getElem?_getD, *]; done)
      · have hle : ¬ (F : Int) < c.shop.features := by omega
        have he : mouldR c l (m + 1) = featR c l m (mouldR c l m) F := by rw [← hF]; rfl
        refine WP.once ?_
        simp only [T183, Tr.sure, SS, hle]
        repeat' with_reducible first | intro _ | apply And.intro
        all_goals simp [hr, he, Go, Ends', v183, -List.getD_eq_getElem?_getD, *]
    · refine WP.step ?_
      simp only [T183, Go, Ends', v183, Tr.sure, SS, Int.lt_irrefl]
      repeat' with_reducible first | intro _ | apply And.intro
      all_goals simp [casesR, Go, Ends', v183, -List.getD_eq_getElem?_getD, *]
theorem bit5 : bitZ 5 = 32 := by decide
theorem tel_repB {n r j : Nat} (hr : r < n) : VLe (([.bool false] : List V).getD j uU) (rowsOf tbool (List.replicate n false) r j) := tel_rep tbool false rfl hr
inductive P131
  | e
  | l0 (x0_5 : Int) (a0_1 : List Bool)
  | l1 (x0_5 : Int) (x1_7 : Int) (a1_1 : List Bool)
  | l2 (a0_1 : List Bool) (x2_9 : Int) (a2_2 : List Int)
inductive R131
  | r0 (r0 : List Int)
noncomputable def T131 (p0 : Case) : P131 → Tr P131 R131
  | .e => let c1 := List.replicate (((bitZ 5)).toNat) false; (.call 95 [.agg [iI p0.shop.features, tMould.lst p0.shop.moulds, tHead.lst p0.shop.heads]] ((tlist tCast).lst (truths p0.shop)) true true (.call 182 [iI 5] (iI (bitZ 5)) true true (.need ((decide (0 ≤ (bitZ 5)) && decide ((bitZ 5) = (bitZ 5))) && decide ((bitZ 5) ≤ 4294967296)) (.telb 1 1 (((bitZ 5)).toNat) (fun _ j => ([.bool false] : List V).getD j uU) (rowsOf tbool c1) (.go (.l0 0 c1))))))
  | .l0 x0_5 a0_1 => let c1 := (truths p0.shop).getD (x0_5).toNat (tlist tCast).zero; let c2 := x0_5 < (((truths p0.shop).length) : Int); (.br (decide c2) (.front [] [] (((decide (0 ≤ x0_5) && decide c2) && true) && true) true (.call 183 [.agg (cC p0), tCast.lst c1] (tint.lst (casesR p0 c1)) true true (.go (.l1 x0_5 0 a0_1)))) (.wait 3 (.own 8 3 1 (.go (.l2 a0_1 0 ([]))))))
  | .l1 x0_5 x1_7 a1_1 => let c1 := (casesR p0 ((truths p0.shop).getD (x0_5).toNat (tlist tCast).zero)).getD (x1_7).toNat tint.zero; let c2 := x1_7 < (((casesR p0 ((truths p0.shop).getD (x0_5).toNat (tlist tCast).zero)).length) : Int); let c3 := ([.bool true] : List V); let c4 := a1_1.set ((c1).toNat) true; (.br (decide c2) (.need (decide (0 ≤ x1_7) && decide c2) (.need ((decide (0 ≤ c1) && decide (c1 < ((((bitZ 5)).toNat) : Int))) && decide (((bitZ 5)).toNat ≤ ((bitZ 5)).toNat)) (.need ((decide ((c1).toNat < ((bitZ 5)).toNat) && decide (0 + c3.length ≤ 1)) && underL 0 c3) (.telb 1 1 (((bitZ 5)).toNat) (fun r' j => if r' = (c1).toNat ∧ 0 ≤ j ∧ j < 0 + c3.length then c3.getD (j - 0) uU else (rowsOf tbool a1_1) r' j) (rowsOf tbool c4) (.need (inR .i64 (x1_7 + (1 : Int))) (.go (.l1 x0_5 (x1_7 + (1 : Int)) c4))))))) (.need (inR .i64 (x0_5 + (1 : Int))) (.go (.l0 (x0_5 + (1 : Int)) a1_1))))
  | .l2 a0_1 x2_9 a2_2 => let c1 := x2_9 + (1 : Int); let c2 := x2_9 < ((((bitZ 5)).toNat) : Int); (.br (decide c2) (.need ((decide (0 ≤ x2_9) && decide c2) && decide (((bitZ 5)).toNat ≤ ((bitZ 5)).toNat)) (.need (decide ((x2_9).toNat < ((bitZ 5)).toNat) && decide (0 < 1)) (.br (a0_1.getD (x2_9).toNat tbool.zero) (.need ((decide (a2_2.length = a2_2.length) && decide (a2_2.length + 1 ≤ 4294967296)) && decide (1 ≤ 1)) (.scal (fun _ => true) (.need (inR .i64 c1) (.go (.l2 a0_1 c1 (x2_9 :: a2_2)))))) (.need (inR .i64 c1) (.go (.l2 a0_1 c1 a2_2)))))) (.out (.r0 a2_2)))
noncomputable def g131 (p0 : Case) : P131 → List Item × St
  | .e => bd Tryz.f131 [.agg (cC p0)] 53
  | .l0 x0_5 a0_1 => (cutOf Tryz.f131 0, ⟨mk 54 [(1, .ref 0 0 0), (2, .nils), (3, (tlist tCast).lst (truths p0.shop)), (4, .row 1 (((bitZ 5)).toNat)), (5, iI x0_5)], [.cells (cC p0), .rows 4 1 (((bitZ 5)).toNat) (rowsOf tbool a0_1)], []⟩)
  | .l1 x0_5 x1_7 a1_1 => (cutOf Tryz.f131 1, ⟨mk 54 [(1, .ref 0 0 0), (2, .nils), (3, (tlist tCast).lst (truths p0.shop)), (4, .row 1 (((bitZ 5)).toNat)), (5, iI x0_5), (6, tint.lst (casesR p0 ((truths p0.shop).getD (x0_5).toNat (tlist tCast).zero))), (7, iI x1_7), (15, iI x0_5), (16, (tlist tCast).lst (truths p0.shop)), (17, iI (((truths p0.shop).length) : Int)), (18, .bool (decide (x0_5 < (((truths p0.shop).length) : Int)))), (21, .agg (cC p0)), (22, (tlist tCast).lst (truths p0.shop)), (23, iI x0_5), (24, rR (tCast.lst ((truths p0.shop).getD (x0_5).toNat (tlist tCast).zero))), (25, tCast.lst ((truths p0.shop).getD (x0_5).toNat (tlist tCast).zero)), (26, tint.lst (casesR p0 ((truths p0.shop).getD (x0_5).toNat (tlist tCast).zero)))], [.cells (cC p0), .rows 4 1 (((bitZ 5)).toNat) (rowsOf tbool a1_1)], []⟩)
  | .l2 a0_1 x2_9 a2_2 => (cutOf Tryz.f131 2, ⟨mk 54 [(2, .nils), (4, .row 1 (((bitZ 5)).toNat)), (8, .row 2 a2_2.length), (9, iI x2_9)], [.gone, .rows 4 1 (((bitZ 5)).toNat) (rowsOf tbool a0_1), .rows 3 1 a2_2.length (rowsRev tint a2_2)], []⟩)
noncomputable def n131 : R131 → Exit × St
  | .r0 r0 => (.ret, ⟨mk 54 [(2, .row 2 r0.length)], [.gone, .gone, .rows 3 1 r0.length (rowsRev tint r0)], []⟩)
noncomputable def v131 : R131 → V
  | .r0 r0 => tint.lst r0.reverse
theorem s131 (p0 : Case) : Sm 0 (g131 p0) (T131 p0) (n131)
  | .e => ⟨400, by kernel_rfl⟩
  | .l0 _ _ => ⟨400, by kernel_rfl⟩
  | .l1 _ _ _ => ⟨400, by kernel_rfl⟩
  | .l2 _ _ _ => ⟨400, by kernel_rfl⟩
theorem q131 : ∀ r, bodyQ Tryz.prog Tryz.f131 (· = v131 r) (n131 r).1 (n131 r).2
  | .r0 r0 => ⟨.inr rfl, by simp [n131], (.row 2 r0.length), (tint.lst r0.reverse), by kernel_rfl, (.weak (.row rfl (Nat.le_refl _)) (VLe.rev tint r0)), rfl⟩
theorem w131 (p0 : Case) {post : V → Prop} (h : WQ (T131 p0) v131 post .e) : PC 131 [.agg (cC p0)] post :=
  PCalls.wq Tryz.func131 (s131 p0) q131 h
theorem c131 (c : Case) (h : OkCase c) : PC 131 [.agg (tCase.cells c)] (· = tint.lst (caseSets c)) := by
  have h5 := h.five
  have hts := grow_small h.shop (n := c.shop.heads.length) h.shop.nh
  have htl : (truths c.shop).length ≤ 4096 := hts
  refine w131 _ (WP.step ?_)
  simp only [T131, Go, Ends', v131, Tr.sure, SS]
  repeat' with_reducible first | intro _ | apply And.intro
  all_goals first | exact c95 _ h.shop | exact c182 _ (by omega) | exact tel_repB (by assumption) | (simp [bit5, Go, Ends', v131, -List.getD_eq_getElem?_getD, *]; done) | skip
  rw [bit5]
  refine WP.run (fun i => .l0 i (metTo c i)) rfl (truths c.shop).length (fun i hi => ?_) ?_
  · have hr : inR .i64 ((i : Int) + 1) = true := inR64 (by omega) (by omega)
    obtain ⟨g1, g2⟩ := grow_mem (getD_mem [] (truths c.shop) i hi)
    have hcall := c183 c ((truths c.shop).getD i []) h g1 g2
    have hin : ∀ x ∈ casesR c ((truths c.shop).getD i []), 0 ≤ x ∧ x < 32 := fun x hx => casesR_lt h5 hx
    have hn : metTo c (i + 1) = markTo (casesR c ((truths c.shop).getD i [])) (metTo c i) (casesR c ((truths c.shop).getD i [])).length := rfl
    have hml := metTo_len c i
    have hcl : (casesR c ((truths c.shop).getD i [])).length ≤ 5764801 := Nat.le_trans (mouldR_le h.shop _ _ (Nat.le_refl _)) (by
      have := h.shop.nm
      rcases show c.shop.moulds.length = 0 ∨ c.shop.moulds.length = 1 ∨ c.shop.moulds.length = 2 by omega with e | e | e <;> rw [e] <;> decide)
    refine WP.step ?_
    simp only [T131, Go, Ends', v131, Tr.sure, SS, hi, z6]
    repeat' with_reducible first | intro _ | apply And.intro
    all_goals first | exact hcall | skip
    generalize hL : casesR c ((truths c.shop).getD i []) = L at *
    refine WP.run (fun k => .l1 i k (markTo L (metTo c i) k)) rfl L.length (fun k hk => ?_) ?_
    · have hr' : inR .i64 ((k : Int) + 1) = true := inR64 (by omega) (by omega)
      have hx := hin _ (getD_mem 0 L k hk)
      have hx' : (L.getD k 0).toNat < 32 := by omega
      have hln : markTo L (metTo c i) (k + 1) = (markTo L (metTo c i) k).set (L.getD k 0).toNat true := rfl
      have hml' := (markTo_len L (metTo c i) k).trans hml
      refine WP.once ?_
      simp only [T131, Tr.sure, SS, hk, z6, z1, bit5, hL, hx, hx']
      repeat' with_reducible first | intro _ | apply And.intro
      all_goals first | exact (tel_set tbool _ _ _ _ rfl rfl hml'.symm _ _ (by assumption) (by assumption)) | (simp [hr', hx, hx', hln, underL_bool, bit5, Go, Ends', v131, -List.getD_eq_getElem?_getD, *]; done)
    · refine WP.once ?_
      simp only [T131, Tr.sure, SS, Int.lt_irrefl, z6, hL]
      repeat' with_reducible first | intro _ | apply And.intro
      all_goals simp [hr, hn, Go, Ends', v131, -List.getD_eq_getElem?_getD, *]
  · refine WP.step ?_
    simp only [T131, Go, Ends', v131, Tr.sure, SS, Int.lt_irrefl]
    repeat' with_reducible first | intro _ | apply And.intro
    refine WP.run (fun n => .l2 (metTo c (truths c.shop).length) n ((((List.range n).filter fun s => (metTo c (truths c.shop).length).getD s false).map fun (s : Nat) => (s : Int)).reverse)) rfl 32 (fun n hn => ?_) ?_
    · have hr : inR .i64 ((n : Int) + 1) = true := inR64 (by omega) (by omega)
      have hn' : (n : Int) < 32 := by omega
      have hl := List.length_filter_le (fun s => (metTo c (truths c.shop).length).getD s false) (List.range n)
      rw [List.length_range] at hl
      have hb : ((((List.range n).filter fun s => (metTo c (truths c.shop).length).getD s false).map fun (s : Nat) => (s : Int)).reverse).length + 1 ≤ 4294967296 := by rw [List.length_reverse, List.length_map]; omega
      refine WP.once ?_
      simp only [T131, Tr.sure, SS, hn, hn', z9, bit5]
      repeat' with_reducible first | intro _ | apply And.intro
      all_goals first | (simp [hr, hb, List.range_succ, hn, hn', Go, Ends', v131, -List.getD_eq_getElem?_getD, *]; done) | (simp_all [hr, hb, List.range_succ, hn, hn', Go, Ends', v131, -List.getD_eq_getElem?_getD]; done)
    · refine WP.step ?_
      simp only [T131, Go, Ends', v131, Tr.sure, SS, bit5]
      repeat' with_reducible first | intro _ | apply And.intro
      all_goals first | (simp [caseSets_met h5, Go, Ends', v131, -List.getD_eq_getElem?_getD, *]; done) | (simp_all [caseSets_met h5, Go, Ends', v131, -List.getD_eq_getElem?_getD]; done)
end
noncomputable section
theorem pickF_len {b : Int} {l : List Int} (hb : b ≤ 8) (h : -1 ≤ lastI l) : (pickF b l).length ≤ 8 := by simp only [pickF, List.length_map, List.length_range]; omega
theorem flat_len {b : Int} (hb : b ≤ 8) : ∀ (L : List (List Int)), (∀ l ∈ L, -1 ≤ lastI l) → (L.flatMap (pickF b)).length ≤ L.length * 8
  | [], _ => by simp
  | l :: L, h => by
    have h1 := pickF_len hb (h l (by simp))
    have h2 := flat_len hb L fun m hm => h m (by simp [hm])
    simp only [List.flatMap_cons, List.length_append, List.length_cons]; omega
theorem picks_len {b : Int} (hb : b ≤ 8) : ∀ n : Nat, (picks b n).length ≤ 8 ^ n
  | 0 => by simp [picks]
  | n + 1 => by
    have h1 := flat_len hb (picks b n) fun l hl => ((picks_ok b n l).1 hl).last
    have h2 := picks_len hb n
    rw [picks_succ, Nat.pow_succ]; omega
def picksI (b m : Int) : List (List Int) := picks b m.toNat
inductive P75
  | e
  | l0 (x0_7 : Int) (a0_0 : List (List Int))
  | l1 (x0_7 : Int) (x1_9 : Int) (a1_0 : List (List Int))
inductive R75
  | r0
  | r1 (r0 : List (List Int))
noncomputable def T75 (b : Int) (m : Int) : P75 → Tr P75 R75
  | .e => let c1 := m - (1 : Int); (.br (m == (0 : Int)) (.out (.r0)) (.wait 3 (.own 5 26 1 (.need (inR .i64 c1) (.call 75 [iI b, iI c1] ((tlist tint).lst (picksI b c1)) true true (.go (.l0 0 ([]))))))))
  | .l0 x0_7 a0_0 => let c1 := (picksI b (m - (1 : Int))).getD (x0_7).toNat (tlist tint).zero; let c2 := decide (0 ≤ x0_7) && decide (x0_7 < (((picksI b (m - (1 : Int))).length) : Int)); let c3 := ((c1.length) : Int) - (1 : Int); let c4 := (c1.getD (c3).toNat tint.zero) + (1 : Int); (.br (decide (x0_7 < (((picksI b (m - (1 : Int))).length) : Int))) (.need c2 (.br (decide (((c1.length) : Int) > (0 : Int))) (.front [] [] ((c2 && (c2 && ((inR .i64 c3) && ((decide (0 ≤ c3) && decide (c3 < ((c1.length) : Int))) && true)))) && true) true (.need (inR .i64 c4) (.go (.l1 x0_7 c4 a0_0)))) (.need (inR .i64 ((-1) + (1 : Int))) (.go (.l1 x0_7 ((-1) + (1 : Int)) a0_0))))) (.out (.r1 a0_0)))
  | .l1 x0_7 x1_9 a1_0 => let c1 := (picksI b (m - (1 : Int))).getD (x0_7).toNat (tlist tint).zero; let c2 := (0 + c1.length) + 1; (.br (decide (x1_9 < b)) (.need (decide (0 ≤ x0_7) && decide (x0_7 < (((picksI b (m - (1 : Int))).length) : Int))) (.need ((decide (0 = 0) && decide (0 + c1.length ≤ 4294967296)) && true) (.scal (fun r => (List.range 1).all fun j => ((rowsOf tint c1) r j).scalar) (.need ((decide ((0 + c1.length) = (0 + c1.length)) && decide ((0 + c1.length) + 1 ≤ 4294967296)) && decide (1 ≤ 1)) (.scal (fun _ => true) (.wait 0 (.frz 1 ((decide (c2 ≤ c2)) && true) (.wait 0 (.vle 57 (.list 1 c2 (appC (0 + c1.length) (appC 0 (litC 1 0 []) (rowsOf tint c1)) (litC 1 1 [iI x1_9]))) (tint.lst (c1 ++ [x1_9])) (.need ((decide (a1_0.length = a1_0.length) && decide (a1_0.length + 1 ≤ 4294967296)) && decide (1 ≤ 1)) (.scal (fun _ => true) (.need (inR .i64 (x1_9 + (1 : Int))) (.go (.l1 x0_7 (x1_9 + (1 : Int)) ((c1 ++ [x1_9]) :: a1_0))))))))))))))) (.need (inR .i64 (x0_7 + (1 : Int))) (.go (.l0 (x0_7 + (1 : Int)) a1_0))))
noncomputable def g75 (b : Int) (m : Int) : P75 → List Item × St
  | .e => bd Tryz.f75 [iI b, iI m] 59
  | .l0 x0_7 a0_0 => (cutOf Tryz.f75 0, ⟨mk 61 [(0, iI b), (5, .row 0 a0_0.length), (6, (tlist tint).lst (picksI b (m - (1 : Int)))), (7, iI x0_7)], [.rows 26 1 a0_0.length (rowsRev (tlist tint) a0_0)], []⟩)
  | .l1 x0_7 x1_9 a1_0 => (cutOf Tryz.f75 1, ⟨mk 61 [(0, iI b), (5, .row 0 a1_0.length), (6, (tlist tint).lst (picksI b (m - (1 : Int)))), (7, iI x0_7), (9, iI x1_9)], [.rows 26 1 a1_0.length (rowsRev (tlist tint) a1_0)], []⟩)
noncomputable def n75 : R75 → Exit × St
  | .r0 => (.ret, ⟨mk 61 [(4, .row 0 1)], [.rows 26 1 1 (litC 1 1 [.nils])], []⟩)
  | .r1 r0 => (.ret, ⟨mk 61 [(4, .row 0 r0.length)], [.rows 26 1 r0.length (rowsRev (tlist tint) r0)], []⟩)
noncomputable def v75 : R75 → V
  | .r0 => (tlist tint).lst ([[]] : List (List Int))
  | .r1 r0 => (tlist tint).lst r0.reverse
theorem s75 (b : Int) (m : Int) : Sm 0 (g75 b m) (T75 b m) (n75)
  | .e => ⟨400, by kernel_rfl⟩
  | .l0 _ _ => ⟨400, by kernel_rfl⟩
  | .l1 _ _ _ => ⟨400, by kernel_rfl⟩
theorem q75 : ∀ r, bodyQ Tryz.prog Tryz.f75 (· = v75 r) (n75 r).1 (n75 r).2
  | .r0 => ⟨.inr rfl, by simp [n75], (.row 0 1), ((tlist tint).lst ([[]] : List (List Int))), by kernel_rfl, (.weak (.row rfl (Nat.le_refl _)) VLe.litNil), rfl⟩
  | .r1 r0 => ⟨.inr rfl, by simp [n75], (.row 0 r0.length), ((tlist tint).lst r0.reverse), by kernel_rfl, (.weak (.row rfl (Nat.le_refl _)) (VLe.rev (tlist tint) r0)), rfl⟩
theorem w75 (b : Int) (m : Int) {post : V → Prop} (h : WQ (T75 b m) v75 post .e) : PC 75 [iI b, iI m] post :=
  PCalls.wq Tryz.func75 (s75 b m) q75 h
theorem VLe.app1 (l : List Int) (x : Int) {cells : List V} (hc : cells = [iI x]) : VLe (.list 1 (0 + l.length + 1) (appC (0 + l.length) (appC 0 (litC 1 0 []) (rowsOf tint l)) (litC 1 1 cells))) (tint.lst (l ++ [x])) := by
  subst hc
  rw [Nat.zero_add]
  have e : appC 0 (litC 1 0 []) (rowsOf tint l) = rowsOf tint l := by funext r j; unfold appC; rw [if_neg (Nat.not_lt_zero r), Nat.sub_zero]
  rw [e]
  intro G β x' hx
  refine VLe.snoc tint l x _ _ _ ?_
  refine VLe.list (fun i j hi hj => ?_) _ _ _ hx
  unfold appC
  by_cases h : i < l.length
  · rw [if_pos h]; simp only [rowsOf, List.getD_eq_getElem?_getD, List.getElem?_append_left h]
  · have hi' : i = l.length := by omega
    have hj1 : j < 1 := hj
    have hj' : j = 0 := by omega
    subst hi'; subst hj'
    rw [if_neg h, Nat.sub_self]
    simp only [rowsOf, List.getD_eq_getElem?_getD, List.getElem?_append_right (Nat.le_refl _), Nat.sub_self]
    rfl
theorem c75 (b : Int) (hb : 0 ≤ b ∧ b ≤ 8) : ∀ n : Nat, n ≤ 8 → PC 75 [iI b, iI (n : Int)] (· = (tlist tint).lst (picks b n))
  | 0, _ => by
    refine w75 _ _ (WP.step ?_)
    simp only [T75, Go, Ends', v75, Tr.sure, SS]
    repeat' with_reducible first | intro _ | apply And.intro
    all_goals simp [picks, Go, Ends', v75, -List.getD_eq_getElem?_getD, *]
  | n + 1, hn => by
    have ih := c75 b hb n (by omega)
    have e : ((n + 1 : Nat) : Int) - 1 = n := by omega
    have hr : inR .i64 (((n + 1 : Nat) : Int) - 1) = true := inR64 (by omega) (by omega)
    have hne : ¬ ((n + 1 : Nat) : Int) = 0 := by omega
    refine w75 _ _ (WP.step ?_)
    simp only [T75, Go, Ends', v75, Tr.sure, SS, hr, hne, e]
    repeat' with_reducible first | intro _ | apply And.intro
    all_goals first | exact ih | (simp_all [e, Go, Ends', v75, -List.getD_eq_getElem?_getD]; done) | skip
    have eL : picksI b (n : Int) = picks b n := by simp only [picksI, Int.toNat_natCast]
    have hL := fun l hl => (picks_ok b n l).1 hl
    have hlen := picks_len hb.2 n
    have h8 : 8 ^ n ≤ 8 ^ 7 := Nat.pow_le_pow_right (by omega) (by omega)
    generalize hLL : picks b n = L at *
    refine WP.count (fun i => .l0 (i : Int) ((L.take i).flatMap (pickF b)).reverse) rfl L.length (fun _ => True) trivial (fun i hi _ => ?_) fun _ => ?_
    · have hm : L.getD i [] ∈ L := by rw [List.getD_eq_getElem?_getD, List.getElem?_eq_getElem hi]; exact List.getElem_mem _
      have hp := hL _ hm
      have ht : L.take (i + 1) = L.take i ++ [L.getD i []] := take_snoc _ _ _ hi
      have hz : (tlist tint).zero = ([] : List Int) := rfl
      have hfl := flat_len hb.2 (L.take i) fun l hl => (hL l (List.mem_of_mem_take hl)).last
      have htl : (L.take i).length ≤ i := by simp; omega
      have hla := hp.last
      generalize hl : L.getD i [] = l at *
      have hln := hp.len
      have hi' : ((i : Nat) : Int) < L.length := by omega
      generalize hA : (L.take i).flatMap (pickF b) = A at *
      have hB : (L.take (i + 1)).flatMap (pickF b) = A ++ pickF b l := by rw [ht, List.flatMap_append, hA]; simp
      have hAl : A.length ≤ 8 ^ 7 * 8 := by omega
      have go : WP Tryz.prog ⟨none, 0⟩ (T75 b ((n + 1 : Nat) : Int)) (fun x => (x = .inl (.l0 ((i + 1 : Nat) : Int) (A ++ pickF b l).reverse) ∧ True) ∨ Go Tryz.prog ⟨none, 0⟩ (T75 b ((n + 1 : Nat) : Int)) (Ends' fun r => v75 r = (tlist tint).lst (picks b (n + 1))) x) (.l1 (i : Int) (lastI l + 1) A.reverse) := by
        refine WP.run (fun k => .l1 (i : Int) (lastI l + 1 + (k : Int)) (A ++ (List.range k).map fun (q : Nat) => l ++ [lastI l + 1 + (q : Int)]).reverse) (by simp) (b - (lastI l + 1)).toNat (fun k hk => ?_) ?_
        · have hk' : lastI l + 1 + (k : Int) < b := by omega
          have hrk : inR .i64 (lastI l + 1 + (k : Int) + 1) = true := inR64 (by omega) (by omega)
          have hq : lastI l + 1 + ((k : Int) + 1) = lastI l + 1 + (k : Int) + 1 := by omega
          generalize hC : (A ++ (List.range k).map fun (q : Nat) => l ++ [lastI l + 1 + (q : Int)]).reverse = C
          have hCl : C.length ≤ 8 ^ 7 * 8 + 8 := by subst hC; simp; omega
          have hD : (A ++ (List.range (k + 1)).map fun (q : Nat) => l ++ [lastI l + 1 + (q : Int)]).reverse = (l ++ [lastI l + 1 + (k : Int)]) :: C := by subst hC; simp [List.range_succ]
          rw [hD]
          refine WP.once ?_
          simp only [T75, Tr.sure, SS, hz, e, eL, hl, hk', hi']
          repeat' with_reducible first | intro _ | apply And.intro
          all_goals first | exact (VLe.app1 _ _ rfl) | exact (show ((List.range 1).all fun j => (rowsOf tint l _ j).scalar) = true from rfl) | (simp [hrk, Go, Ends', v75, -List.getD_eq_getElem?_getD, *]; done) | skip
          all_goals omega
        · have hr1 : inR .i64 ((i : Int) + 1) = true := inR64 (by omega) (by omega)
          have hge : ¬ lastI l + 1 + (((b - (lastI l + 1)).toNat : Nat) : Int) < b := by omega
          refine WP.once ?_
          simp only [T75, hge, Tr.sure, decide_false]
          simp [hr1, pickF]
      have main : ∀ φ, WP Tryz.prog ⟨none, 0⟩ (T75 b ((n + 1 : Nat) : Int)) φ (.l1 (i : Int) (lastI l + 1) A.reverse) → WP Tryz.prog ⟨none, 0⟩ (T75 b ((n + 1 : Nat) : Int)) φ (.l0 (i : Int) A.reverse) := fun φ h => by
        have hr2 : inR .i64 ((l.length : Int) - 1) = true := inR64 (by omega) (by omega)
        have hr3 : inR .i64 (lastI l + 1) = true := by
          by_cases e0 : l = []
          · subst e0; decide
          · have := hp.hi _ (lastI_mem e0); exact inR64 (by omega) (by omega)
        have hla1 : 0 < l.length → l.getD ((l.length : Int) - 1).toNat tint.zero = lastI l := fun h0 => by
          rw [lastI, if_neg (by omega), show ((l.length : Int) - 1).toNat = l.length - 1 by omega]; rfl
        have hla0 : l.length = 0 → lastI l = -1 := fun h0 => by rw [lastI, if_pos h0]
        refine WP.step ?_
        simp only [T75, Go, Ends', v75, Tr.sure, SS, hz, hl, eL, e, hi']
        repeat' with_reducible first | intro _ | apply And.intro
        all_goals first | (simp_all [hr2, Go, Ends', v75, -List.getD_eq_getElem?_getD]; done) | skip
        all_goals omega
        all_goals first
          | (have h0 : 0 < l.length := by omega
             rw [hla1 h0]; first | exact hr3 | exact h)
          | (have h0 : l.length = 0 := by omega
             rw [hla0 h0] at h; exact h)
      simp only [hB, hA]
      exact main _ go
    · refine WP.step ?_
      simp only [T75, Go, Ends', v75, Tr.sure, SS, e, eL]
      repeat' with_reducible first | intro _ | apply And.intro
      all_goals simp [eL, picks_succ, Go, Ends', v75, -List.getD_eq_getElem?_getD, *]
end
noncomputable section
inductive P65
  | e
inductive R65
  | r0 (r1 : Int)
  | r1 (r0 : List Int) (r1 : Int)
noncomputable def T65 (p0 : Case) (p1 : Int) : P65 → Tr P65 R65
  | .e => let c1 : Tr P65 R65 := .call 131 [.agg (cC p0)] (tint.lst (caseSets p0)) true true (.br ((((caseSets p0).length) : Int) == (0 : Int)) (.out (.r0 8)) (.out (.r1 (caseSets p0) 0))); let c2 := caseCheck p0; (.call 17 [.agg (cC p0)] (.tuple [iI (c2.1), iI (c2.2.1), iI (c2.2.2)]) true true (.br (c2.2.2 == (0 : Int)) (.br (p1 != (0 : Int)) (.out (.r0 p1)) c1) (.br (c2.2.2 != (0 : Int)) (.out (.r0 (c2.2.2))) c1)))
noncomputable def g65 (p0 : Case) (p1 : Int) : P65 → List Item × St
  | .e => bd Tryz.f65 [.agg (cC p0), iI p1] 26
noncomputable def n65 : R65 → Exit × St
  | .r0 r1 => (.ret, ⟨mk 28 [(4, .nils), (5, iI r1)], [], []⟩)
  | .r1 r0 r1 => (.ret, ⟨mk 28 [(4, tint.lst r0), (5, iI r1)], [], []⟩)
noncomputable def v65 : R65 → V
  | .r0 r1 => .tuple [tint.lst ([] : List Int), iI r1]
  | .r1 r0 r1 => .tuple [tint.lst r0, iI r1]
theorem s65 (p0 : Case) (p1 : Int) : Sm 0 (g65 p0 p1) (T65 p0 p1) (n65)
  | .e => ⟨400, by kernel_rfl⟩
theorem q65 : ∀ r, bodyQ Tryz.prog Tryz.f65 (· = v65 r) (n65 r).1 (n65 r).2
  | .r0 r1 => ⟨.inr rfl, by simp [n65], (.tuple [.nils, iI r1]), (.tuple [tint.lst ([] : List Int), iI r1]), by kernel_rfl, (.tuple rfl fun j hj => match j, hj with | 0, _ => .weak (.imm rfl) VLe.nils | 1, _ => .imm rfl), rfl⟩
  | .r1 r0 r1 => bq (.tuple [tint.lst r0, iI r1]) (by kernel_rfl)
theorem w65 (p0 : Case) (p1 : Int) {post : V → Prop} (h : WQ (T65 p0 p1) v65 post .e) : PC 65 [.agg (cC p0), iI p1] post :=
  PCalls.wq Tryz.func65 (s65 p0 p1) q65 h
theorem c65 (c : Case) (other : Int) : PC 65 [.agg (tCase.cells c), iI other] (· = .tuple [tint.lst (truthsE c other).1, iI (truthsE c other).2]) := by
  refine w65 _ _ (WP.step ?_)
  simp only [T65, Go, Ends', v65, Tr.sure, SS]
  repeat' with_reducible first | intro _ | apply And.intro
  all_goals first | exact c17 _ | exact (c131 c (okCase (by with_reducible assumption))) | (simp [truthsE, Go, Ends', v65, -List.getD_eq_getElem?_getD, *]; done) | (simp_all [truthsE, Go, Ends', v65, -List.getD_eq_getElem?_getD]; done)
  all_goals simp_all [truthsE]
inductive P69
  | e
  | l0 (x0_5 : Int) (x0_6 : Int)
inductive R69
  | r0 (r0 : Int)
noncomputable def T69 (p0 : List Int) (p1 : Int) : P69 → Tr P69 R69
  | .e => (.go (.l0 0 0))
  | .l0 x0_5 x0_6 => let c1 := p0.getD (x0_6).toNat tint.zero; let c2 := x0_6 + (1 : Int); let c3 := (p0.length : Int); (.br (decide (x0_6 < c3)) (.need (decide (0 ≤ x0_6) && decide (x0_6 < c3)) (.call 133 [iI c1, iI p1] (.bool (hasZ c1 p1)) true true (.br (hasZ c1 p1) (.need (inR .i64 (x0_5 + (1 : Int))) (.need (inR .i64 c2) (.go (.l0 (x0_5 + (1 : Int)) c2)))) (.need (inR .i64 c2) (.go (.l0 x0_5 c2)))))) (.br (x0_5 == c3) (.out (.r0 1)) (.br (x0_5 == (0 : Int)) (.out (.r0 2)) (.out (.r0 0)))))
noncomputable def g69 (p0 : List Int) (p1 : Int) : P69 → List Item × St
  | .e => bd Tryz.f69 [tint.lst p0, iI p1] 26
  | .l0 x0_5 x0_6 => (cutOf Tryz.f69 0, ⟨mk 28 [(0, tint.lst p0), (1, iI p1), (5, iI x0_5), (6, iI x0_6)], [], []⟩)
noncomputable def n69 : R69 → Exit × St
  | .r0 r0 => (.ret, ⟨mk 28 [(4, iI r0)], [], []⟩)
noncomputable def v69 : R69 → V
  | .r0 r0 => iI r0
theorem s69 (p0 : List Int) (p1 : Int) : Sm 0 (g69 p0 p1) (T69 p0 p1) (n69)
  | .e => ⟨400, by kernel_rfl⟩
  | .l0 _ _ => ⟨400, by kernel_rfl⟩
theorem q69 : ∀ r, bodyQ Tryz.prog Tryz.f69 (· = v69 r) (n69 r).1 (n69 r).2
  | .r0 r0 => bq (iI r0) (by kernel_rfl)
theorem w69 (p0 : List Int) (p1 : Int) {post : V → Prop} (h : WQ (T69 p0 p1) v69 post .e) : PC 69 [tint.lst p0, iI p1] post :=
  PCalls.wq Tryz.func69 (s69 p0 p1) q69 h
theorem e69 : ∀ xs w, (callFunc 69 xs).run Tryz.prog w = .ok (.enter 69 xs) w := PCalls.enters Tryz.func69 (c := Tryz.f69.body.getD .skip) (by kernel_rfl) (by kernel_rfl)
theorem c69 (l : List Int) (n : Int) (hs : ∀ s ∈ l, 0 ≤ s ∧ s < 32) (hn : 0 ≤ n ∧ n ≤ 5) : PC 69 [tint.lst l, iI n] (· = iI (settled l n)) := by
  refine PCalls.assume e69 0 (by simp) .list fun hl => ?_
  refine w69 _ _ (WP.step ?_)
  simp only [T69, Go, Ends', v69, Tr.sure, SS]
  repeat' with_reducible first | intro _ | apply And.intro
  refine WP.run (fun i => .l0 (((l.take i).countP fun s => hasZ s n : Nat) : Int) i) rfl l.length (fun i hi => ?_) ?_
  · have hr := inRi hi hl
    have hc := c133 (l.getD i 0) n hn (hs _ (getD_mem 0 l i hi))
    have ht := countP_take (fun s => hasZ s n) l 0 hi
    have hle : (l.take i).countP (fun s => hasZ s n) ≤ i := Nat.le_trans List.countP_le_length (by simp; omega)
    have hr2 : inR .i64 ((((l.take i).countP fun s => hasZ s n : Nat) : Int) + 1) = true := by unfold maxn at hl; exact inR64 (by omega) (by omega)
    refine WP.once ?_
    simp only [T69, Tr.sure, SS, hi, z1]
    repeat' with_reducible first | intro _ | apply And.intro
    all_goals first | exact hc | (simp [hr, hr2, ht, Go, Ends', v69, -List.getD_eq_getElem?_getD, *]; done)
  · rw [List.take_length]
    generalize hk : (l.countP fun s => hasZ s n) = k
    have hset : settled l n = if (k : Int) = (l.length : Int) then 1 else if (k : Int) = 0 then 2 else 0 := by
      subst hk; unfold settled; simp only [Int.natCast_inj, Int.natCast_eq_zero]
    refine WP.step ?_
    simp only [T69, Go, Ends', v69, Tr.sure, SS, Int.lt_irrefl]
    repeat' with_reducible first | intro _ | apply And.intro
    all_goals first | (simp [hset, Go, Ends', v69, -List.getD_eq_getElem?_getD, *]; done) | (simp_all [hset, Go, Ends', v69, -List.getD_eq_getElem?_getD]; done)
inductive P74
  | e
  | l0 (x0_5 : Int)
inductive R74
  | r0 (r0 : Bool)
noncomputable def T74 (p0 : List Int) (p1 : List Int) : P74 → Tr P74 R74
  | .e => (.go (.l0 0))
  | .l0 x0_5 => let c1 := p0.getD (x0_5).toNat tint.zero; let c2 := x0_5 < (p0.length : Int); (.br (decide c2) (.need (decide (0 ≤ x0_5) && decide c2) (.call 80 [iI c1, tint.lst p1] (.bool (allZ c1 p1)) true true (.br (allZ c1 p1) (.out (.r0 true)) (.need (inR .i64 (x0_5 + (1 : Int))) (.go (.l0 (x0_5 + (1 : Int)))))))) (.out (.r0 false)))
noncomputable def g74 (p0 : List Int) (p1 : List Int) : P74 → List Item × St
  | .e => bd Tryz.f74 [tint.lst p0, tint.lst p1] 16
  | .l0 x0_5 => (cutOf Tryz.f74 0, ⟨mk 18 [(0, tint.lst p0), (1, tint.lst p1), (5, iI x0_5)], [], []⟩)
noncomputable def n74 : R74 → Exit × St
  | .r0 r0 => (.ret, ⟨mk 18 [(4, .bool r0)], [], []⟩)
noncomputable def v74 : R74 → V
  | .r0 r0 => .bool r0
theorem s74 (p0 : List Int) (p1 : List Int) : Sm 0 (g74 p0 p1) (T74 p0 p1) (n74)
  | .e => ⟨400, by kernel_rfl⟩
  | .l0 _ => ⟨400, by kernel_rfl⟩
theorem q74 : ∀ r, bodyQ Tryz.prog Tryz.f74 (· = v74 r) (n74 r).1 (n74 r).2
  | .r0 r0 => bq (.bool r0) (by kernel_rfl)
theorem w74 (p0 : List Int) (p1 : List Int) {post : V → Prop} (h : WQ (T74 p0 p1) v74 post .e) : PC 74 [tint.lst p0, tint.lst p1] post :=
  PCalls.wq Tryz.func74 (s74 p0 p1) q74 h
theorem e74 : ∀ xs w, (callFunc 74 xs).run Tryz.prog w = .ok (.enter 74 xs) w := PCalls.enters Tryz.func74 (c := Tryz.f74.body.getD .skip) (by kernel_rfl) (by kernel_rfl)
theorem c74 (sets l : List Int) (hs : ∀ s ∈ sets, 0 ≤ s ∧ s < 32) (h : ∀ n ∈ l, 0 ≤ n ∧ n ≤ 5) : PC 74 [tint.lst sets, tint.lst l] (· = .bool (can sets l)) := by
  refine PCalls.assume e74 0 (by simp) .list fun hl => ?_
  refine w74 _ _ (WP.step ?_)
  simp only [T74, Go, Ends', v74, Tr.sure, SS]
  repeat' with_reducible first | intro _ | apply And.intro
  refine WP.findI (fun i => .l0 i) rfl sets 0 (fun s => allZ s l) (fun i hi => ?_) fun hI => ?_
  · have hr := inRi hi hl
    have ha : firstI (fun s => allZ s l) 0 sets = some i → sets.any (fun s => allZ s l) = true := any_of_firstI
    have hc := c80 (sets.getD i 0) l (hs _ (getD_mem 0 sets i hi)) h
    refine WP.once ?_
    simp only [T74, Tr.sure, SS, hi, z1]
    repeat' with_reducible first | intro _ | apply And.intro
    all_goals first | exact hc | (simp [hr, can, -List.any_eq_true, Go, Ends', v74, -List.getD_eq_getElem?_getD, *]; done) | (simp_all [hr, can, -List.any_eq_true, Go, Ends', v74, -List.getD_eq_getElem?_getD]; done)
  · have ha := any_of_none hI
    refine WP.step ?_
    simp only [T74, Go, Ends', v74, Tr.sure, SS, Int.lt_irrefl]
    repeat' with_reducible first | intro _ | apply And.intro
    all_goals simp [can, ha, Go, Ends', v74, -List.getD_eq_getElem?_getD, *]
end
noncomputable section
theorem truths_ok {c : Case} {o : Int} (h : (truthsE c o).2 = 0) : OkCase c ∧ o = 0 ∧ (truthsE c o).1 = caseSets c := by
  unfold truthsE at h ⊢
  split at h
  · rename_i h1; exact absurd h h1
  · rename_i h1
    split at h
    · rename_i h2; exact absurd h h2
    · rename_i h2
      split at h
      · cases h
      · rename_i h3
        rw [if_neg h1, if_neg h2, if_neg h3]
        exact ⟨okCase (Decidable.not_not.1 h1), Decidable.not_not.1 h2, rfl⟩
inductive P81
  | e
  | l0 (x0_8 : Int) (a0_1 : List Int)
inductive R81
  | r0 (r0 : List Int)
noncomputable def T81 (p0 : Case) (p1 : List Int) (p2 : Int) : P81 → Tr P81 R81
  | .e => (.wait 4 (.own 7 3 1 (.go (.l0 0 ([])))))
  | .l0 x0_8 a0_1 => let c1 := x0_8 + (1 : Int); (.br (decide (x0_8 < (p0.claims.length : Int))) (.call 69 [tint.lst p1, iI x0_8] (iI (settled p1 x0_8)) true true (.br ((settled p1 x0_8) == p2) (.need ((decide (a0_1.length = a0_1.length) && decide (a0_1.length + 1 ≤ 4294967296)) && decide (1 ≤ 1)) (.scal (fun _ => true) (.need (inR .i64 c1) (.go (.l0 c1 (x0_8 :: a0_1)))))) (.need (inR .i64 c1) (.go (.l0 c1 a0_1))))) (.out (.r0 a0_1)))
noncomputable def g81 (p0 : Case) (p1 : List Int) (p2 : Int) : P81 → List Item × St
  | .e => bd Tryz.f81 [.agg (cC p0), tint.lst p1, iI p2] 23
  | .l0 x0_8 a0_1 => (cutOf Tryz.f81 0, ⟨mk 26 [(1, tint.lst p1), (2, iI p2), (3, .ref 0 0 0), (7, .row 1 a0_1.length), (8, iI x0_8)], [.cells (cC p0), .rows 3 1 a0_1.length (rowsRev tint a0_1)], []⟩)
noncomputable def n81 : R81 → Exit × St
  | .r0 r0 => (.ret, ⟨mk 26 [(6, .row 1 r0.length)], [.gone, .rows 3 1 r0.length (rowsRev tint r0)], []⟩)
noncomputable def v81 : R81 → V
  | .r0 r0 => tint.lst r0.reverse
theorem s81 (p0 : Case) (p1 : List Int) (p2 : Int) : Sm 0 (g81 p0 p1 p2) (T81 p0 p1 p2) (n81)
  | .e => ⟨400, by kernel_rfl⟩
  | .l0 _ _ => ⟨400, by kernel_rfl⟩
theorem q81 : ∀ r, bodyQ Tryz.prog Tryz.f81 (· = v81 r) (n81 r).1 (n81 r).2
  | .r0 r0 => ⟨.inr rfl, by simp [n81], (.row 1 r0.length), (tint.lst r0.reverse), by kernel_rfl, (.weak (.row rfl (Nat.le_refl _)) (VLe.rev tint r0)), rfl⟩
theorem w81 (p0 : Case) (p1 : List Int) (p2 : Int) {post : V → Prop} (h : WQ (T81 p0 p1 p2) v81 post .e) : PC 81 [.agg (cC p0), tint.lst p1, iI p2] post :=
  PCalls.wq Tryz.func81 (s81 p0 p1 p2) q81 h
theorem c81 (c : Case) (l : List Int) (how : Int) (h5 : c.claims.length ≤ 5) (hs : ∀ s ∈ l, 0 ≤ s ∧ s < 32) : PC 81 [.agg (tCase.cells c), tint.lst l, iI how] (· = tint.lst (each c.claims.length l how)) := by
  have he : ∀ n, each n l how = filtI (fun (i : Nat) => settled l i == how) n := fun _ => rfl
  refine w81 _ _ _ (WP.step ?_)
  simp only [T81, Go, Ends', v81, Tr.sure, SS]
  repeat' with_reducible first | intro _ | apply And.intro
  refine WP.run (fun i => .l0 i (each i l how).reverse) rfl c.claims.length (fun i hi => ?_) ?_
  · have hr : inR .i64 ((i : Int) + 1) = true := inR64 (by omega) (by omega)
    have hle : (each i l how).reverse.length + 1 ≤ 4294967296 := by rw [List.length_reverse, he]; have := filtI_len (fun (i : Nat) => settled l i == how) i; omega
    have hn : (each (i + 1) l how).reverse = if (settled l i == how) = true then (i : Int) :: (each i l how).reverse else (each i l how).reverse := by rw [he, he]; exact filtI_rev _ _
    have hi' : ((i : Nat) : Int) < c.claims.length := by omega
    generalize (each (i + 1) l how).reverse = B at *
    generalize (each i l how).reverse = A at *
    refine WP.once ?_
    simp only [T81, Tr.sure, SS, hi', hi]
    repeat' with_reducible first | intro _ | apply And.intro
    all_goals first | exact (c69 _ _ hs (by omega)) | (simp [hr, hle, hn, Go, Ends', v81, -List.getD_eq_getElem?_getD, *]; done)
  · refine WP.step ?_
    simp only [T81, Go, Ends', v81, Tr.sure, SS, Int.lt_irrefl]
    repeat' with_reducible first | intro _ | apply And.intro
    all_goals simp [Go, Ends', v81, -List.getD_eq_getElem?_getD, *]
inductive P49
  | e
  | l0 (x0_6 : Int) (a0_1 : List Int)
inductive R49
  | r0 (r0 : List Int)
noncomputable def T49 (p0 : Case) (p1 : List Int) : P49 → Tr P49 R49
  | .e => (.wait 4 (.own 5 3 1 (.go (.l0 0 ([])))))
  | .l0 x0_6 a0_1 => let c1 := x0_6 + (1 : Int); (.br (decide (x0_6 < (p0.claims.length : Int))) (.call 45 [tint.lst p1, iI x0_6] (.bool (hasN p1 x0_6)) true true (.br (!(hasN p1 x0_6)) (.need ((decide (a0_1.length = a0_1.length) && decide (a0_1.length + 1 ≤ 4294967296)) && decide (1 ≤ 1)) (.scal (fun _ => true) (.need (inR .i64 c1) (.go (.l0 c1 (x0_6 :: a0_1)))))) (.need (inR .i64 c1) (.go (.l0 c1 a0_1))))) (.out (.r0 a0_1)))
noncomputable def g49 (p0 : Case) (p1 : List Int) : P49 → List Item × St
  | .e => bd Tryz.f49 [.agg (cC p0), tint.lst p1] 21
  | .l0 x0_6 a0_1 => (cutOf Tryz.f49 0, ⟨mk 23 [(1, tint.lst p1), (2, .ref 0 0 0), (5, .row 1 a0_1.length), (6, iI x0_6)], [.cells (cC p0), .rows 3 1 a0_1.length (rowsRev tint a0_1)], []⟩)
noncomputable def n49 : R49 → Exit × St
  | .r0 r0 => (.ret, ⟨mk 23 [(4, .row 1 r0.length)], [.gone, .rows 3 1 r0.length (rowsRev tint r0)], []⟩)
noncomputable def v49 : R49 → V
  | .r0 r0 => tint.lst r0.reverse
theorem s49 (p0 : Case) (p1 : List Int) : Sm 0 (g49 p0 p1) (T49 p0 p1) (n49)
  | .e => ⟨400, by kernel_rfl⟩
  | .l0 _ _ => ⟨400, by kernel_rfl⟩
theorem q49 : ∀ r, bodyQ Tryz.prog Tryz.f49 (· = v49 r) (n49 r).1 (n49 r).2
  | .r0 r0 => ⟨.inr rfl, by simp [n49], (.row 1 r0.length), (tint.lst r0.reverse), by kernel_rfl, (.weak (.row rfl (Nat.le_refl _)) (VLe.rev tint r0)), rfl⟩
theorem w49 (p0 : Case) (p1 : List Int) {post : V → Prop} (h : WQ (T49 p0 p1) v49 post .e) : PC 49 [.agg (cC p0), tint.lst p1] post :=
  PCalls.wq Tryz.func49 (s49 p0 p1) q49 h
theorem c49 (c : Case) (l : List Int) (h5 : c.claims.length ≤ 5) : PC 49 [.agg (tCase.cells c), tint.lst l] (· = tint.lst (others c.claims.length l)) := by
  have he : ∀ n, others n l = filtI (fun (i : Nat) => !hasN l (i : Int)) n := fun _ => rfl
  refine w49 _ _ (WP.step ?_)
  simp only [T49, Go, Ends', v49, Tr.sure, SS]
  repeat' with_reducible first | intro _ | apply And.intro
  refine WP.run (fun i => .l0 i (others i l).reverse) rfl c.claims.length (fun i hi => ?_) ?_
  · have hr : inR .i64 ((i : Int) + 1) = true := inR64 (by omega) (by omega)
    have hle : (others i l).reverse.length + 1 ≤ 4294967296 := by rw [List.length_reverse, he]; have := filtI_len (fun (i : Nat) => !hasN l (i : Int)) i; omega
    have hn : (others (i + 1) l).reverse = if (!hasN l (i : Int)) = true then (i : Int) :: (others i l).reverse else (others i l).reverse := by rw [he, he]; exact filtI_rev _ _
    have hi' : ((i : Nat) : Int) < c.claims.length := by omega
    generalize (others (i + 1) l).reverse = B at *
    generalize (others i l).reverse = A at *
    refine WP.once ?_
    simp only [T49, Tr.sure, SS, hi', hi]
    repeat' with_reducible first | intro _ | apply And.intro
    all_goals first | exact (c45 _ _) | (simp [hr, hle, hn, Go, Ends', v49, -List.getD_eq_getElem?_getD, *]; done)
  · refine WP.step ?_
    simp only [T49, Go, Ends', v49, Tr.sure, SS, Int.lt_irrefl]
    repeat' with_reducible first | intro _ | apply And.intro
    all_goals simp [Go, Ends', v49, -List.getD_eq_getElem?_getD, *]
inductive P51
  | e
  | l0 (x0_5 : Int) (x0_6 : Int)
inductive R51
  | r0 (r0 : Int)
noncomputable def T51 (p0 : Case) (p1 : List Int) : P51 → Tr P51 R51
  | .e => (.go (.l0 0 0))
  | .l0 x0_5 x0_6 => let c1 := p1.getD (x0_6).toNat tint.zero; let c2 := x0_5 + (p0.claims.getD (c1).toNat tClaim.zero).worth; let c3 := x0_6 < (p1.length : Int); (.br (decide c3) (.front [] [] (((decide (0 ≤ x0_6) && decide c3) && ((decide (0 ≤ c1) && decide (c1 < (p0.claims.length : Int))) && ((inR .i64 c2) && true))) && true) true (.need (inR .i64 (x0_6 + (1 : Int))) (.go (.l0 c2 (x0_6 + (1 : Int)))))) (.out (.r0 x0_5)))
noncomputable def g51 (p0 : Case) (p1 : List Int) : P51 → List Item × St
  | .e => bd Tryz.f51 [.agg (cC p0), tint.lst p1] 23
  | .l0 x0_5 x0_6 => (cutOf Tryz.f51 0, ⟨mk 25 [(1, tint.lst p1), (2, .ref 0 0 0), (5, iI x0_5), (6, iI x0_6)], [.cells (cC p0)], []⟩)
noncomputable def n51 : R51 → Exit × St
  | .r0 r0 => (.ret, ⟨mk 25 [(4, iI r0)], [], []⟩)
noncomputable def v51 : R51 → V
  | .r0 r0 => iI r0
theorem s51 (p0 : Case) (p1 : List Int) : Sm 0 (g51 p0 p1) (T51 p0 p1) (n51)
  | .e => ⟨400, by kernel_rfl⟩
  | .l0 _ _ => ⟨400, by kernel_rfl⟩
theorem q51 : ∀ r, bodyQ Tryz.prog Tryz.f51 (· = v51 r) (n51 r).1 (n51 r).2
  | .r0 r0 => bq (iI r0) (by kernel_rfl)
theorem w51 (p0 : Case) (p1 : List Int) {post : V → Prop} (h : WQ (T51 p0 p1) v51 post .e) : PC 51 [.agg (cC p0), tint.lst p1] post :=
  PCalls.wq Tryz.func51 (s51 p0 p1) q51 h
theorem c51 (c : Case) (l : List Int) (h : OkCase c) (hl : ∀ n ∈ l, 0 ≤ n ∧ n < c.claims.length) (hl2 : l.length ≤ 1000) : PC 51 [.agg (tCase.cells c), tint.lst l] (· = iI (worth c l)) := by
  have hw : ∀ m : Nat, m ≤ l.length → 0 ≤ worth c (l.take m) ∧ worth c (l.take m) ≤ m * 100 := by
    intro m
    induction m with
    | zero => intro _; simp [worth]
    | succ m ih =>
      intro hm
      have h1 := ih (by omega)
      have h2 := hl _ (getD_mem 0 l m (by omega))
      have h3 := (h.cl (show (l.getD m 0).toNat < c.claims.length by omega)).worth
      rw [worth_take c l (by omega)]; omega
  refine w51 _ _ (WP.step ?_)
  simp only [T51, Go, Ends', v51, Tr.sure, SS]
  repeat' with_reducible first | intro _ | apply And.intro
  refine WP.run (fun i => .l0 (worth c (l.take i)) i) rfl l.length (fun i hi => ?_) ?_
  · have hr : inR .i64 ((i : Int) + 1) = true := inR64 (by omega) (by omega)
    have h2 := hl _ (getD_mem 0 l i hi)
    have h3 := hw (i + 1) (by omega)
    have h4 := worth_take c l hi
    have hr2 : inR .i64 (worth c (l.take i) + (cl c (l.getD i 0).toNat).worth) = true := by rw [← h4]; exact inR64 (by omega) (by omega)
    have hi' : ((i : Nat) : Int) < l.length := by omega
    have hcl : c.claims.getD (l.getD i 0).toNat zClaim = cl c (l.getD i 0).toNat := rfl
    rw [h4]
    refine WP.once ?_
    simp only [T51, Tr.sure, SS, hi', hi, z1, z8, hcl, h2.1, h2.2]
    repeat' with_reducible first | intro _ | apply And.intro
    all_goals simp [hr, hr2, h2.1, h2.2, Go, Ends', v51, -List.getD_eq_getElem?_getD, *]
  · rw [List.take_length]
    refine WP.step ?_
    simp only [T51, Go, Ends', v51, Tr.sure, SS, Int.lt_irrefl]
    repeat' with_reducible first | intro _ | apply And.intro
end
noncomputable section
theorem less_end (a b : List Int) (h : a.length = 0 ∨ b.length = 0) : less a b = decide (a.length < b.length) := by
  cases a <;> cases b <;> simp_all [less]
theorem less_drop (a b : List Int) {i : Nat} (ha : i < a.length) (hb : i < b.length) : less (a.drop i) (b.drop i) = if a.getD i 0 = b.getD i 0 then less (a.drop (i + 1)) (b.drop (i + 1)) else decide (a.getD i 0 < b.getD i 0) := by
  rw [drop_cons 0 a i ha, drop_cons 0 b i hb]; rfl
inductive P52
  | e
  | l0 (x0_6 : Int)
inductive R52
  | r0 (r0 : Bool)
noncomputable def T52 (p0 : List Int) (p1 : List Int) : P52 → Tr P52 R52
  | .e => (.go (.l0 0))
  | .l0 x0_6 => let c1 := ((decide (0 ≤ x0_6) && decide (x0_6 < (p0.length : Int))) && ((decide (0 ≤ x0_6) && decide (x0_6 < (p1.length : Int))) && true)) && true; let c2 := p1.getD (x0_6).toNat tint.zero; let c3 := p0.getD (x0_6).toNat tint.zero; (.br (decide (x0_6 < (min (p0.length : Int) (p1.length : Int)))) (.front [] [] c1 true (.br (c3 != c2) (.front [] [] c1 true (.out (.r0 (decide (c3 < c2))))) (.need (inR .i64 (x0_6 + (1 : Int))) (.go (.l0 (x0_6 + (1 : Int))))))) (.out (.r0 (decide ((p0.length : Int) < (p1.length : Int))))))
noncomputable def g52 (p0 : List Int) (p1 : List Int) : P52 → List Item × St
  | .e => bd Tryz.f52 [tint.lst p0, tint.lst p1] 38
  | .l0 x0_6 => (cutOf Tryz.f52 0, ⟨mk 40 [(0, tint.lst p0), (1, tint.lst p1), (5, iI (min (p0.length : Int) (p1.length : Int))), (6, iI x0_6)], [], []⟩)
noncomputable def n52 : R52 → Exit × St
  | .r0 r0 => (.ret, ⟨mk 40 [(4, .bool r0)], [], []⟩)
noncomputable def v52 : R52 → V
  | .r0 r0 => .bool r0
theorem s52 (p0 : List Int) (p1 : List Int) : Sm 0 (g52 p0 p1) (T52 p0 p1) (n52)
  | .e => ⟨400, by kernel_rfl⟩
  | .l0 _ => ⟨400, by kernel_rfl⟩
theorem q52 : ∀ r, bodyQ Tryz.prog Tryz.f52 (· = v52 r) (n52 r).1 (n52 r).2
  | .r0 r0 => bq (.bool r0) (by kernel_rfl)
theorem w52 (p0 : List Int) (p1 : List Int) {post : V → Prop} (h : WQ (T52 p0 p1) v52 post .e) : PC 52 [tint.lst p0, tint.lst p1] post :=
  PCalls.wq Tryz.func52 (s52 p0 p1) q52 h
theorem e52 : ∀ xs w, (callFunc 52 xs).run Tryz.prog w = .ok (.enter 52 xs) w := PCalls.enters Tryz.func52 (c := Tryz.f52.body.getD .skip) (by kernel_rfl) (by kernel_rfl)
theorem c52 (a b : List Int) : PC 52 [tint.lst a, tint.lst b] (· = .bool (less a b)) := by
  refine PCalls.assume e52 0 (by simp) .list fun hl => ?_
  refine w52 _ _ (WP.step ?_)
  simp only [T52, Go, Ends', v52, Tr.sure, SS]
  repeat' with_reducible first | intro _ | apply And.intro
  refine WP.count (fun i => .l0 i) rfl (min a.length b.length) (fun i => less a b = less (a.drop i) (b.drop i)) rfl (fun i hi hI => ?_) fun hI => ?_
  · have hia : i < a.length := by omega
    have hib : i < b.length := by omega
    have hr := inRi hia hl
    have hd := less_drop a b hia hib
    have hi' : ((i : Nat) : Int) < min (a.length : Int) (b.length : Int) := by omega
    have hd1 : a.getD i 0 = b.getD i 0 → less a b = less (a.drop (i + 1)) (b.drop (i + 1)) := fun h => by rw [hI, hd, if_pos h]
    have hd2 : ¬ a.getD i 0 = b.getD i 0 → less a b = decide (a.getD i 0 < b.getD i 0) := fun h => by rw [hI, hd, if_neg h]
    clear hI hd
    refine WP.once ?_
    simp only [T52, Tr.sure, SS, hi', hia, hib, z1]
    repeat' with_reducible first | intro _ | apply And.intro
    all_goals simp [hr, Go, Ends', v52, -List.getD_eq_getElem?_getD, *]
    all_goals (right; simp only [Go, Ends', v52]; rw [hd2 (by assumption)]; rfl)
  · have hge : ¬ ((min a.length b.length : Nat) : Int) < min (a.length : Int) (b.length : Int) := by omega
    have he : less a b = decide ((a.length : Int) < (b.length : Int)) := by
      rw [hI, less_end _ _ (by simp only [List.length_drop]; omega)]
      simp only [List.length_drop]
      congr 1
      simp only [eq_iff_iff]; omega
    refine WP.step ?_
    simp only [T52, Go, Ends', v52, Tr.sure, SS, hge]
    repeat' with_reducible first | intro _ | apply And.intro
    all_goals simp [he, Go, Ends', v52, -List.getD_eq_getElem?_getD, *]
inductive P93
  | e
  | l0 (x0_3 : Int) (x0_4 : Int)
inductive R93
  | r0 (r0 : Int)
noncomputable def T93 (p0 : Int) : P93 → Tr P93 R93
  | .e => (.go (.l0 0 0))
  | .l0 x0_3 x0_4 => let c1 := x0_4 + (1 : Int); (.br (decide (x0_4 < (5 : Int))) (.call 133 [iI p0, iI x0_4] (.bool (hasZ p0 x0_4)) true true (.br (hasZ p0 x0_4) (.need (inR .i64 (x0_3 + (1 : Int))) (.need (inR .i64 c1) (.go (.l0 (x0_3 + (1 : Int)) c1)))) (.need (inR .i64 c1) (.go (.l0 x0_3 c1))))) (.out (.r0 x0_3)))
noncomputable def g93 (p0 : Int) : P93 → List Item × St
  | .e => bd Tryz.f93 [iI p0] 14
  | .l0 x0_3 x0_4 => (cutOf Tryz.f93 0, ⟨mk 15 [(0, iI p0), (3, iI x0_3), (4, iI x0_4)], [], []⟩)
noncomputable def n93 : R93 → Exit × St
  | .r0 r0 => (.ret, ⟨mk 15 [(2, iI r0)], [], []⟩)
noncomputable def v93 : R93 → V
  | .r0 r0 => iI r0
theorem s93 (p0 : Int) : Sm 0 (g93 p0) (T93 p0) (n93)
  | .e => ⟨400, by kernel_rfl⟩
  | .l0 _ _ => ⟨400, by kernel_rfl⟩
theorem q93 : ∀ r, bodyQ Tryz.prog Tryz.f93 (· = v93 r) (n93 r).1 (n93 r).2
  | .r0 r0 => bq (iI r0) (by kernel_rfl)
theorem w93 (p0 : Int) {post : V → Prop} (h : WQ (T93 p0) v93 post .e) : PC 93 [iI p0] post :=
  PCalls.wq Tryz.func93 (s93 p0) q93 h
theorem c93 (s : Int) (hs : 0 ≤ s ∧ s < 32) : PC 93 [iI s] (· = iI (manyZ s)) := by
  refine w93 _ (WP.step ?_)
  simp only [T93, Go, Ends', v93, Tr.sure, SS]
  repeat' with_reducible first | intro _ | apply And.intro
  refine WP.run (fun i => .l0 (((List.range i).filter fun (q : Nat) => hasZ s q).length : Int) i) rfl 5 (fun i hi => ?_) ?_
  · have hr : inR .i64 ((i : Int) + 1) = true := inR64 (by omega) (by omega)
    have hc := c133 s i (by omega) hs
    have hle : ((List.range i).filter fun (q : Nat) => hasZ s q).length ≤ i := Nat.le_trans (List.length_filter_le _ _) (by simp)
    have hr2 : inR .i64 ((((List.range i).filter fun (q : Nat) => hasZ s q).length : Int) + 1) = true := inR64 (by omega) (by omega)
    have hi' : (i : Int) < 5 := by omega
    have hn : ((List.range (i + 1)).filter fun (q : Nat) => hasZ s q).length = if hasZ s i = true then ((List.range i).filter fun (q : Nat) => hasZ s q).length + 1 else ((List.range i).filter fun (q : Nat) => hasZ s q).length := by
      rw [List.range_succ, List.filter_append]; cases h : hasZ s (i : Int) <;> simp [h]
    rw [hn]
    generalize ((List.range i).filter fun (q : Nat) => hasZ s q).length = k at *
    refine WP.once ?_
    simp only [T93, Tr.sure, SS, hi']
    repeat' with_reducible first | intro _ | apply And.intro
    all_goals first | exact hc | (simp [hr, hr2, Go, Ends', v93, -List.getD_eq_getElem?_getD, *]; done)
  · refine WP.step ?_
    simp only [T93, Go, Ends', v93, Tr.sure, SS, Int.lt_irrefl]
    repeat' with_reducible first | intro _ | apply And.intro
    all_goals first | (simp [manyZ, Go, Ends', v93, -List.getD_eq_getElem?_getD, *]; done) | (simp_all [manyZ, Go, Ends', v93, -List.getD_eq_getElem?_getD]; done)
theorem filter_take (p : Int → Bool) (l : List Int) {i : Nat} (hi : i < l.length) : ((l.take (i + 1)).filter p).reverse = if p (l.getD i 0) = true then l.getD i 0 :: ((l.take i).filter p).reverse else ((l.take i).filter p).reverse := by
  rw [take_snoc 0 l i hi, List.filter_append]; generalize l.getD i 0 = x; cases h : p x <;> simp [h]
theorem filter_take_len (p : Int → Bool) (l : List Int) (i : Nat) : ((l.take i).filter p).reverse.length ≤ l.length := by
  rw [List.length_reverse]; exact Nat.le_trans (List.length_filter_le _ _) (by simp; omega)
theorem truths_cases (c : Case) (o : Int) : (truthsE c o = (caseSets c, 0) ∧ OkCase c ∧ o = 0) ∨ ∃ e, truthsE c o = ([], e) ∧ e ≠ 0 := by
  by_cases h : (truthsE c o).2 = 0
  · obtain ⟨h1, h2, h3⟩ := truths_ok h
    exact .inl ⟨Prod.ext h3 h, h1, h2⟩
  · refine .inr ⟨(truthsE c o).2, ?_, h⟩
    revert h
    unfold truthsE
    split
    · intro _; rfl
    · split
      · intro _; rfl
      · split
        · intro _; rfl
        · intro h; exact absurd rfl h
end
noncomputable section
theorem maxZ_take (f : Int → Int) (l : List Int) {i : Nat} (hi : i < l.length) : maxZ f (l.take (i + 1)) = max (maxZ f (l.take i)) (f (l.getD i 0)) := by
  unfold maxZ; rw [take_snoc 0 l i hi, List.foldl_append]; rfl
inductive P36
  | e
  | l0 (x0_7 : Int) (x0_8 : Int)
  | l1 (x0_7 : Int) (x1_10 : Int) (a1_1 : List Int)
inductive R36
  | r0 (r2 : Int)
  | r1 (r0 : List Int) (r1 : List Int) (r2 : Int)
noncomputable def T36 (p0 : Case) : P36 → Tr P36 R36
  | .e => let c1 := truthsE p0 0; (.call 65 [.agg (cC p0), iI 0] (.tuple [tint.lst (c1.1), iI (c1.2)]) true true (.br (c1.2 != (0 : Int)) (.out (.r0 (c1.2))) (.go (.l0 0 0))))
  | .l0 x0_7 x0_8 => let c1 := ((truthsE p0 0).1).getD (x0_8).toNat tint.zero; let c2 := x0_8 < (((truthsE p0 0).1.length) : Int); (.br (decide c2) (.need (decide (0 ≤ x0_8) && decide c2) (.call 93 [iI c1] (iI (manyZ c1)) true true (.need (inR .i64 (x0_8 + (1 : Int))) (.go (.l0 (max x0_7 (manyZ c1)) (x0_8 + (1 : Int))))))) (.wait 3 (.own 9 3 1 (.go (.l1 x0_7 0 ([]))))))
  | .l1 x0_7 x1_10 a1_1 => let c1 := ((truthsE p0 0).1).getD (x1_10).toNat tint.zero; let c2 := x1_10 < (((truthsE p0 0).1.length) : Int); let c3 := x1_10 + (1 : Int); let c4 := decide (0 ≤ x1_10) && decide c2; (.br (decide c2) (.need c4 (.call 93 [iI c1] (iI (manyZ c1)) true true (.br ((manyZ c1) == x0_7) (.need c4 (.need ((decide (a1_1.length = a1_1.length) && decide (a1_1.length + 1 ≤ 4294967296)) && decide (1 ≤ 1)) (.scal (fun _ => true) (.need (inR .i64 c3) (.go (.l1 x0_7 c3 (c1 :: a1_1))))))) (.need (inR .i64 c3) (.go (.l1 x0_7 c3 a1_1)))))) (.wait 2 (.frz 1 ((decide (a1_1.length ≤ a1_1.length)) && true) (.vle 9 (.list 1 a1_1.length (rowsRev tint a1_1)) (tint.lst a1_1.reverse) (.front [(2, 81, [.agg (cC p0), tint.lst a1_1.reverse, iI 1], tint.lst ((fun (c : Case) l how => each c.claims.length l how) p0 a1_1.reverse 1))] [] true true (.call 81 [.agg (cC p0), tint.lst a1_1.reverse, iI 2] (tint.lst ((fun (c : Case) l how => each c.claims.length l how) p0 a1_1.reverse 2)) true true (.out (.r1 ((fun (c : Case) l how => each c.claims.length l how) p0 a1_1.reverse 1) ((fun (c : Case) l how => each c.claims.length l how) p0 a1_1.reverse 2) 0))))))))
noncomputable def g36 (p0 : Case) : P36 → List Item × St
  | .e => bd Tryz.f36 [.agg (cC p0)] 57
  | .l0 x0_7 x0_8 => (cutOf Tryz.f36 0, ⟨mk 58 [(1, .ref 0 0 0), (5, tint.lst ((truthsE p0 0).1)), (7, iI x0_7), (8, iI x0_8)], [.cells (cC p0)], []⟩)
  | .l1 x0_7 x1_10 a1_1 => (cutOf Tryz.f36 1, ⟨mk 58 [(1, .ref 0 0 0), (5, tint.lst ((truthsE p0 0).1)), (7, iI x0_7), (9, .row 1 a1_1.length), (10, iI x1_10)], [.cells (cC p0), .rows 3 1 a1_1.length (rowsRev tint a1_1)], []⟩)
noncomputable def n36 : R36 → Exit × St
  | .r0 r2 => (.ret, ⟨mk 58 [(2, .nils), (3, .nils), (4, iI r2)], [], []⟩)
  | .r1 r0 r1 r2 => (.ret, ⟨mk 58 [(2, tint.lst r0), (3, tint.lst r1), (4, iI r2)], [], []⟩)
noncomputable def v36 : R36 → V
  | .r0 r2 => .tuple [tint.lst ([] : List Int), tint.lst ([] : List Int), iI r2]
  | .r1 r0 r1 r2 => .tuple [tint.lst r0, tint.lst r1, iI r2]
theorem s36 (p0 : Case) : Sm 0 (g36 p0) (T36 p0) (n36)
  | .e => ⟨400, by kernel_rfl⟩
  | .l0 _ _ => ⟨400, by kernel_rfl⟩
  | .l1 _ _ _ => ⟨400, by kernel_rfl⟩
theorem q36 : ∀ r, bodyQ Tryz.prog Tryz.f36 (· = v36 r) (n36 r).1 (n36 r).2
  | .r0 r2 => ⟨.inr rfl, by simp [n36], (.tuple [.nils, .nils, iI r2]), (.tuple [tint.lst ([] : List Int), tint.lst ([] : List Int), iI r2]), by kernel_rfl, (.tuple rfl fun j hj => match j, hj with | 0, _ => .weak (.imm rfl) VLe.nils | 1, _ => .weak (.imm rfl) VLe.nils | 2, _ => .imm rfl), rfl⟩
  | .r1 r0 r1 r2 => bq (.tuple [tint.lst r0, tint.lst r1, iI r2]) (by kernel_rfl)
theorem w36 (p0 : Case) {post : V → Prop} (h : WQ (T36 p0) v36 post .e) : PC 36 [.agg (cC p0)] post :=
  PCalls.wq Tryz.func36 (s36 p0) q36 h
theorem c36 (c : Case) : PC 36 [.agg (tCase.cells c)] (· = .tuple [tint.lst (grantR c).1, tint.lst (grantR c).2.1, iI (grantR c).2.2]) := by
  have hin : ∀ s ∈ caseSets c, 0 ≤ s ∧ s < 32 := fun s hs => caseSets_in hs
  have hll := caseSets_le c
  have h65 := c65 c 0
  rcases truths_cases c 0 with ⟨ht, hok, h2⟩ | ⟨e, ht, he⟩
  · have h5 := hok.five
    generalize hM : maxZ manyZ (caseSets c) = M
    have hf : grantR c = (each c.claims.length ((caseSets c).filter fun s => manyZ s == M) 1, each c.claims.length ((caseSets c).filter fun s => manyZ s == M) 2, 0) := by
      unfold grantR; rw [ht, hM]; simp
    rw [ht] at h65
    have h81 := fun how => c81 c ((caseSets c).filter fun s => manyZ s == M) how h5 fun s hs => hin s (List.mem_filter.1 hs).1
    generalize caseSets c = A at *
    refine w36 _ (WP.step ?_)
    simp only [T36, Go, Ends', v36, Tr.sure, SS, ht]
    repeat' with_reducible first | intro _ | apply And.intro
    all_goals first | exact h65 | skip
    refine WP.run (fun i => .l0 (maxZ manyZ (A.take i)) i) rfl A.length (fun i hi => ?_) ?_
    · have hr : inR .i64 ((i : Int) + 1) = true := inR64 (by omega) (by omega)
      have hn := maxZ_take manyZ A hi
      rw [hn]
      refine WP.once ?_
      simp only [T36, Tr.sure, SS, hi, ht, z1]
      repeat' with_reducible first | intro _ | apply And.intro
      all_goals first | exact (c93 _ (hin _ (getD_mem 0 A i hi))) | (simp [hr, Go, Ends', v36, -List.getD_eq_getElem?_getD, *]; done)
    · rw [List.take_length, hM]
      refine WP.step ?_
      simp only [T36, Go, Ends', v36, Tr.sure, SS, ht, Int.lt_irrefl]
      repeat' with_reducible first | intro _ | apply And.intro
      refine WP.run (fun i => .l1 M i ((A.take i).filter fun s => manyZ s == M).reverse) rfl A.length (fun i hi => ?_) ?_
      · have hr : inR .i64 ((i : Int) + 1) = true := inR64 (by omega) (by omega)
        have hn := filter_take (fun s => manyZ s == M) A hi
        have hle := filter_take_len (fun s => manyZ s == M) A i
        have hle2 : ((A.take i).filter fun s => manyZ s == M).reverse.length + 1 ≤ 4294967296 := by omega
        rw [hn]
        generalize ((A.take i).filter fun s => manyZ s == M).reverse = B at *
        refine WP.once ?_
        simp only [T36, Tr.sure, SS, hi, ht, z1]
        repeat' with_reducible first | intro _ | apply And.intro
        all_goals first | exact (c93 _ (hin _ (getD_mem 0 A i hi))) | (simp [hr, hle2, Go, Ends', v36, -List.getD_eq_getElem?_getD, *]; done)
      · rw [List.take_length]
        refine WP.step ?_
        simp only [T36, Go, Ends', v36, Tr.sure, SS, ht, Int.lt_irrefl, List.reverse_reverse]
        repeat' with_reducible first | intro _ | apply And.intro
        all_goals first | exact (h81 _) | exact (VLe.rr tint _) | (simp [hf, Go, Ends', v36, -List.getD_eq_getElem?_getD, *]; done)
  · have hf : grantR c = ([], [], e) := by unfold grantR; rw [ht, if_pos he]
    rw [ht] at h65
    refine w36 _ (WP.step ?_)
    simp only [T36, Go, Ends', v36, Tr.sure, SS, ht, he]
    repeat' with_reducible first | intro _ | apply And.intro
    all_goals first | exact h65 | (simp [hf, Go, Ends', v36, -List.getD_eq_getElem?_getD, *]; done)
theorem allP_succ (k : Int) (n : Nat) : allP k (n + 1) = allP k n ++ picks k n := by unfold allP; rw [List.range_succ, List.flatMap_append]; simp
theorem allP_find {k : Int} {p : List Int → Bool} {i n : Nat} {l : List Int} (hn : i < n) (h0 : (allP k i).find? p = none) (h1 : (picks k i).find? p = some l) : (allP k n).find? p = some l := by
  obtain ⟨m, rfl⟩ := Nat.exists_eq_add_of_lt hn
  have : ∀ m, (allP k (i + m + 1)).find? p = some l := by
    intro m
    induction m with
    | zero => rw [Nat.add_zero, allP_succ, List.find?_append, h0, h1]; rfl
    | succ m ih => rw [show i + (m + 1) + 1 = (i + m + 1) + 1 by omega, allP_succ, List.find?_append, ih]; rfl
  exact this m
theorem others_in {k : Nat} {l : List Int} (hk : k ≤ 5) : ∀ n ∈ others k l, 0 ≤ n ∧ n ≤ 5 := fun n hn => by
  simp only [others, List.mem_map, List.mem_filter, List.mem_range] at hn
  obtain ⟨i, ⟨h1, _⟩, rfl⟩ := hn; omega
inductive P32
  | e
  | l0 (x0_6 : Int)
  | l1 (x0_6 : Int) (x1_8 : Int)
inductive R32
  | r0 (r1 : Int)
  | r1 (r0 : List Int) (r1 : Int)
noncomputable def T32 (p0 : Case) : P32 → Tr P32 R32
  | .e => let c1 := truthsE p0 0; (.call 65 [.agg (cC p0), iI 0] (.tuple [tint.lst (c1.1), iI (c1.2)]) true true (.br (c1.2 != (0 : Int)) (.out (.r0 (c1.2))) (.go (.l0 0))))
  | .l0 x0_6 => let c1 := (p0.claims.length : Int); (.br (decide (x0_6 < c1)) (.call 75 [iI c1, iI x0_6] ((tlist tint).lst (picksI c1 x0_6)) true true (.go (.l1 x0_6 0))) (.call 49 [.agg (cC p0), .nils] (tint.lst ((fun (c : Case) l => others c.claims.length l) p0 ([]))) true true (.out (.r1 ((fun (c : Case) l => others c.claims.length l) p0 ([])) 0))))
  | .l1 x0_6 x1_8 => let c1 := (picksI (p0.claims.length : Int) x0_6).getD (x1_8).toNat (tlist tint).zero; let c2 := x1_8 < (((picksI (p0.claims.length : Int) x0_6).length) : Int); let c3 := (truthsE p0 0).1; let c4 := decide (0 ≤ x1_8) && decide c2; (.br (decide c2) (.front [(6, 49, [.agg (cC p0), tint.lst c1], tint.lst ((fun (c : Case) l => others c.claims.length l) p0 c1))] [] ((c4 && true) && true) true (.call 74 [tint.lst c3, tint.lst ((fun (c : Case) l => others c.claims.length l) p0 c1)] (.bool (can c3 ((fun (c : Case) l => others c.claims.length l) p0 c1))) true true (.br (can c3 ((fun (c : Case) l => others c.claims.length l) p0 c1)) (.need c4 (.out (.r1 c1 0))) (.need (inR .i64 (x1_8 + (1 : Int))) (.go (.l1 x0_6 (x1_8 + (1 : Int)))))))) (.need (inR .i64 (x0_6 + (1 : Int))) (.go (.l0 (x0_6 + (1 : Int))))))
noncomputable def g32 (p0 : Case) : P32 → List Item × St
  | .e => bd Tryz.f32 [.agg (cC p0)] 48
  | .l0 x0_6 => (cutOf Tryz.f32 0, ⟨mk 49 [(1, .ref 0 0 0), (4, tint.lst ((truthsE p0 0).1)), (6, iI x0_6)], [.cells (cC p0)], []⟩)
  | .l1 x0_6 x1_8 => (cutOf Tryz.f32 1, ⟨mk 49 [(1, .ref 0 0 0), (4, tint.lst ((truthsE p0 0).1)), (6, iI x0_6), (7, (tlist tint).lst (picksI (p0.claims.length : Int) x0_6)), (8, iI x1_8)], [.cells (cC p0)], []⟩)
noncomputable def n32 : R32 → Exit × St
  | .r0 r1 => (.ret, ⟨mk 49 [(2, .nils), (3, iI r1)], [], []⟩)
  | .r1 r0 r1 => (.ret, ⟨mk 49 [(2, tint.lst r0), (3, iI r1)], [], []⟩)
noncomputable def v32 : R32 → V
  | .r0 r1 => .tuple [tint.lst ([] : List Int), iI r1]
  | .r1 r0 r1 => .tuple [tint.lst r0, iI r1]
theorem s32 (p0 : Case) : Sm 0 (g32 p0) (T32 p0) (n32)
  | .e => ⟨400, by kernel_rfl⟩
  | .l0 _ => ⟨400, by kernel_rfl⟩
  | .l1 _ _ => ⟨400, by kernel_rfl⟩
theorem q32 : ∀ r, bodyQ Tryz.prog Tryz.f32 (· = v32 r) (n32 r).1 (n32 r).2
  | .r0 r1 => ⟨.inr rfl, by simp [n32], (.tuple [.nils, iI r1]), (.tuple [tint.lst ([] : List Int), iI r1]), by kernel_rfl, (.tuple rfl fun j hj => match j, hj with | 0, _ => .weak (.imm rfl) VLe.nils | 1, _ => .imm rfl), rfl⟩
  | .r1 r0 r1 => bq (.tuple [tint.lst r0, iI r1]) (by kernel_rfl)
theorem w32 (p0 : Case) {post : V → Prop} (h : WQ (T32 p0) v32 post .e) : PC 32 [.agg (cC p0)] post :=
  PCalls.wq Tryz.func32 (s32 p0) q32 h
theorem c32 (c : Case) : PC 32 [.agg (tCase.cells c)] (· = .tuple [tint.lst (fallR c).1, iI (fallR c).2]) := by
  have hin : ∀ s ∈ caseSets c, 0 ≤ s ∧ s < 32 := fun s hs => caseSets_in hs
  have h65 := c65 c 0
  rcases truths_cases c 0 with ⟨ht, hok, h2⟩ | ⟨e, ht, he⟩
  · have h5 := hok.five
    have hf : fallR c = ((match (allP c.claims.length c.claims.length).find? (fun l => can (caseSets c) (others c.claims.length l)) with | some l => l | none => others c.claims.length []), 0) := by
      unfold fallR; rw [ht]; exact if_neg (by simp)
    rw [ht] at h65
    generalize caseSets c = A at *
    refine w32 _ (WP.step ?_)
    simp only [T32, Go, Ends', v32, Tr.sure, SS, ht]
    repeat' with_reducible first | intro _ | apply And.intro
    all_goals first | exact h65 | skip
    refine WP.count (fun i => .l0 (i : Int)) rfl c.claims.length (fun i => (allP c.claims.length i).find? (fun l => can A (others c.claims.length l)) = none) rfl (fun i hi hI => ?_) fun hI => ?_
    · have hc75 := c75 c.claims.length ⟨by omega, by omega⟩ i (by omega)
      have hi' : (i : Int) < c.claims.length := by omega
      have eL : picksI (c.claims.length : Int) (i : Int) = picks c.claims.length i := by simp only [picksI, Int.toNat_natCast]
      have hlen := picks_len (b := c.claims.length) (by omega) i
      have h8 : 8 ^ i ≤ 8 ^ 5 := Nat.pow_le_pow_right (by omega) (by omega)
      have hr0 : inR .i64 ((i : Int) + 1) = true := inR64 (by omega) (by omega)
      have hfind := fun l => allP_find (l := l) hi hI
      have hnext : (picks c.claims.length i).find? (fun l => can A (others c.claims.length l)) = none → (allP c.claims.length (i + 1)).find? (fun l => can A (others c.claims.length l)) = none := fun h => by
        rw [allP_succ, List.find?_append, hI, h]; rfl
      generalize picks c.claims.length i = L at *
      have main : ∀ φ, WP Tryz.prog ⟨none, 0⟩ (T32 c) φ (.l1 (i : Int) 0) → WP Tryz.prog ⟨none, 0⟩ (T32 c) φ (.l0 (i : Int)) := fun φ h => by
        refine WP.step ?_
        simp only [T32, Go, Ends', v32, Tr.sure, SS, hi', eL]
        repeat' with_reducible first | intro _ | apply And.intro
        all_goals first | exact hc75 | exact h
      refine main _ (WP.findI (fun j => .l1 (i : Int) (j : Int)) rfl L [] (fun l => can A (others c.claims.length l)) (fun j hj => ?_) fun hJ => ?_)
      · have hr : inR .i64 ((j : Int) + 1) = true := inR64 (by omega) (by omega)
        have hz : (tlist tint).zero = ([] : List Int) := rfl
        have hj' : (j : Int) < L.length := by omega
        have hres : firstI (fun l => can A (others c.claims.length l)) 0 L = some j → fallR c = (L.getD j [], 0) := fun h => by
          obtain ⟨q, h1, h2⟩ := find_firstI _ [] L 0 j h
          obtain rfl : j = q := by omega
          rw [hf, hfind _ h2]
        generalize hl : L.getD j [] = l at *
        refine WP.once ?_
        simp only [T32, Tr.sure, SS, hj', eL, ht, hz, hl]
        repeat' with_reducible first | intro _ | apply And.intro
        all_goals first | exact (c49 _ _ h5) | exact (c74 _ _ hin (others_in h5)) | (simp [hr, hres, Go, Ends', v32, -List.getD_eq_getElem?_getD, *]; done) | (simp_all [hr, hres, Go, Ends', v32, -List.getD_eq_getElem?_getD]; done)
      · refine WP.once ?_
        simp only [T32, Tr.sure, SS, eL, Int.lt_irrefl]
        repeat' with_reducible first | intro _ | apply And.intro
        all_goals simp [hr0, hnext (find_none _ _ hJ), Go, Ends', v32, -List.getD_eq_getElem?_getD, *]
    · have hf2 : fallR c = (others c.claims.length [], 0) := by rw [hf, hI]
      refine WP.step ?_
      simp only [T32, Go, Ends', v32, Tr.sure, SS, Int.lt_irrefl]
      repeat' with_reducible first | intro _ | apply And.intro
      all_goals first | exact (PCalls.arg (pre := [.agg (tCase.cells c)]) (c49 c [] h5) VLe.nils) | (simp [hf2, Go, Ends', v32, -List.getD_eq_getElem?_getD, *]; done)
  · have hf : fallR c = ([], e) := by unfold fallR; rw [ht, if_pos he]
    rw [ht] at h65
    refine w32 _ (WP.step ?_)
    simp only [T32, Go, Ends', v32, Tr.sure, SS, ht, he]
    repeat' with_reducible first | intro _ | apply And.intro
    all_goals first | exact h65 | (simp [hf, Go, Ends', v32, -List.getD_eq_getElem?_getD, *]; done)
theorem allQ_succ (k : Int) (n : Nat) : allQ k (n + 1) = allQ k n ++ picks k (n + 1) := by unfold allQ; rw [List.range_succ, List.flatMap_append]; simp
inductive P34
  | e
  | l0 (x0_7 : List Int) (x0_8 : Int)
  | l1 (x0_8 : Int) (x1_7 : List Int) (x1_10 : Int)
inductive R34
  | r0 (r1 : Int) (r2 : Int)
  | r1 (r0 : List Int) (r1 : Int) (r2 : Int)
noncomputable def T34 (p0 : Case) : P34 → Tr P34 R34
  | .e => let c1 := truthsE p0 0; (.call 65 [.agg (cC p0), iI 0] (.tuple [tint.lst (c1.1), iI (c1.2)]) true true (.br (c1.2 != (0 : Int)) (.out (.r0 0 (c1.2))) (.wait 7 (.vle 7 .nils (tint.lst ([] : List Int)) (.go (.l0 ([] : List Int) 1))))))
  | .l0 x0_7 x0_8 => let c1 := (p0.claims.length : Int); (.br (decide (x0_8 ≤ c1)) (.call 75 [iI c1, iI x0_8] ((tlist tint).lst (picksI c1 x0_8)) true true (.go (.l1 x0_8 x0_7 0))) (.call 51 [.agg (cC p0), tint.lst x0_7] (iI (worth p0 x0_7)) true true (.out (.r1 x0_7 (worth p0 x0_7) 0))))
  | .l1 x0_8 x1_7 x1_10 => let c1 := (picksI (p0.claims.length : Int) x0_8).getD (x1_10).toNat (tlist tint).zero; let c2 := decide (0 ≤ x1_10) && decide (x1_10 < (((picksI (p0.claims.length : Int) x0_8).length) : Int)); let c3 : Tr P34 R34 := .need (inR .i64 (x1_10 + (1 : Int))) (.go (.l1 x0_8 x1_7 (x1_10 + (1 : Int)))); let c4 : Tr P34 R34 := .need c2 (.need (inR .i64 (x1_10 + (1 : Int))) (.go (.l1 x0_8 c1 (x1_10 + (1 : Int))))); let c5 := (worth p0 c1) - (worth p0 x1_7); let c6 := (truthsE p0 0).1; (.br (decide (x1_10 < (((picksI (p0.claims.length : Int) x0_8).length) : Int))) (.front [(5, 51, [.agg (cC p0), tint.lst c1], iI (worth p0 c1))] [] ((c2 && true) && true) true (.call 51 [.agg (cC p0), tint.lst x1_7] (iI (worth p0 x1_7)) true true (.need (inR .i64 c5) (.need c2 (.call 74 [tint.lst c6, tint.lst c1] (.bool (can c6 c1)) true true (.br (can c6 c1) (.br (decide (c5 > (0 : Int))) (.lit true (.lit true (.lit true c4))) (.br (c5 == (0 : Int)) (.need c2 (.call 52 [tint.lst c1, tint.lst x1_7] (.bool (less c1 x1_7)) true true (.lit false (.lit true (.br (less c1 x1_7) c4 c3))))) (.lit false (.lit true (.lit false c3))))) (.lit false (.lit false c3)))))))) (.need (inR .i64 (x0_8 + (1 : Int))) (.go (.l0 x1_7 (x0_8 + (1 : Int))))))
noncomputable def g34 (p0 : Case) : P34 → List Item × St
  | .e => bd Tryz.f34 [.agg (cC p0)] 77
  | .l0 x0_7 x0_8 => (cutOf Tryz.f34 0, ⟨mk 78 [(1, .ref 0 0 0), (5, tint.lst ((truthsE p0 0).1)), (7, tint.lst x0_7), (8, iI x0_8)], [.cells (cC p0)], []⟩)
  | .l1 x0_8 x1_7 x1_10 => (cutOf Tryz.f34 1, ⟨mk 78 [(1, .ref 0 0 0), (5, tint.lst ((truthsE p0 0).1)), (7, tint.lst x1_7), (8, iI x0_8), (9, (tlist tint).lst (picksI (p0.claims.length : Int) x0_8)), (10, iI x1_10)], [.cells (cC p0)], []⟩)
noncomputable def n34 : R34 → Exit × St
  | .r0 r1 r2 => (.ret, ⟨mk 78 [(2, .nils), (3, iI r1), (4, iI r2)], [], []⟩)
  | .r1 r0 r1 r2 => (.ret, ⟨mk 78 [(2, tint.lst r0), (3, iI r1), (4, iI r2)], [], []⟩)
noncomputable def v34 : R34 → V
  | .r0 r1 r2 => .tuple [tint.lst ([] : List Int), iI r1, iI r2]
  | .r1 r0 r1 r2 => .tuple [tint.lst r0, iI r1, iI r2]
theorem s34 (p0 : Case) : Sm 0 (g34 p0) (T34 p0) (n34)
  | .e => ⟨400, by kernel_rfl⟩
  | .l0 _ _ => ⟨400, by kernel_rfl⟩
  | .l1 _ _ _ => ⟨400, by kernel_rfl⟩
theorem q34 : ∀ r, bodyQ Tryz.prog Tryz.f34 (· = v34 r) (n34 r).1 (n34 r).2
  | .r0 r1 r2 => ⟨.inr rfl, by simp [n34], (.tuple [.nils, iI r1, iI r2]), (.tuple [tint.lst ([] : List Int), iI r1, iI r2]), by kernel_rfl, (.tuple rfl fun j hj => match j, hj with | 0, _ => .weak (.imm rfl) VLe.nils | 1, _ => .imm rfl | 2, _ => .imm rfl), rfl⟩
  | .r1 r0 r1 r2 => bq (.tuple [tint.lst r0, iI r1, iI r2]) (by kernel_rfl)
theorem w34 (p0 : Case) {post : V → Prop} (h : WQ (T34 p0) v34 post .e) : PC 34 [.agg (cC p0)] post :=
  PCalls.wq Tryz.func34 (s34 p0) q34 h
theorem c34 (c : Case) : PC 34 [.agg (tCase.cells c)] (· = .tuple [tint.lst (mostR c).1, iI (mostR c).2.1, iI (mostR c).2.2]) := by
  have hin : ∀ s ∈ caseSets c, 0 ≤ s ∧ s < 32 := fun s hs => caseSets_in hs
  have h65 := c65 c 0
  rcases truths_cases c 0 with ⟨ht, hok, h2⟩ | ⟨e, ht, he⟩
  · have h5 := hok.five
    have hf : mostR c = (bestR c (caseSets c) c.claims.length, worth c (bestR c (caseSets c) c.claims.length), 0) := by unfold mostR; rw [ht]; simp
    rw [ht] at h65
    generalize caseSets c = A at *
    refine w34 _ (WP.step ?_)
    simp only [T34, Go, Ends', v34, Tr.sure, SS, ht]
    repeat' with_reducible first | intro _ | apply And.intro
    all_goals first | exact h65 | exact VLe.nils | skip
    refine WP.run (fun i => .l0 (bestR c A i) ((i : Int) + 1)) rfl c.claims.length (fun i hi => ?_) ?_
    · have hc75 := c75 c.claims.length ⟨by omega, by omega⟩ (i + 1) (by omega)
      have hi' : (i : Int) + 1 ≤ c.claims.length := by omega
      have eL : picksI (c.claims.length : Int) ((i : Int) + 1) = picks c.claims.length (i + 1) := by simp only [picksI, show ((i : Int) + 1).toNat = i + 1 by omega]
      have hlen := picks_len (b := c.claims.length) (by omega) (i + 1)
      have h8 : 8 ^ (i + 1) ≤ 8 ^ 5 := Nat.pow_le_pow_right (by omega) (by omega)
      have hr0 : inR .i64 ((i : Int) + 1 + 1) = true := inR64 (by omega) (by omega)
      have hL := okL_picks (c := c) (n := i + 1) (by omega)
      have hb := okL_best (c := c) (sets := A) (n := i) (by omega)
      have hB : bestR c A (i + 1) = (picks c.claims.length (i + 1)).foldl (better c A) (bestR c A i) := by unfold bestR; rw [allQ_succ, List.foldl_append]
      rw [hB]
      generalize picks c.claims.length (i + 1) = L at *
      generalize bestR c A i = b at *
      have main : ∀ φ, WP Tryz.prog ⟨none, 0⟩ (T34 c) φ (.l1 ((i : Int) + 1) b 0) → WP Tryz.prog ⟨none, 0⟩ (T34 c) φ (.l0 b ((i : Int) + 1)) := fun φ h => by
        refine WP.step ?_
        simp only [T34, Go, Ends', v34, Tr.sure, SS, hi', eL]
        repeat' with_reducible first | intro _ | apply And.intro
        all_goals first | exact hc75 | exact h
      refine main _ (WP.run (fun j => .l1 ((i : Int) + 1) ((L.take j).foldl (better c A) b) (j : Int)) rfl L.length (fun j hj => ?_) ?_)
      · have hr : inR .i64 ((j : Int) + 1) = true := inR64 (by omega) (by omega)
        have hz : (tlist tint).zero = ([] : List Int) := rfl
        have hj' : (j : Int) < L.length := by omega
        have hbj := okL_foldl (sets := A) (L.take j) b hb fun l hl => hL l (List.mem_of_mem_take hl)
        have hlj := hL _ (getD_mem [] L j hj)
        have hn := foldl_take (better c A) b L [] hj
        rw [hn]
        generalize (L.take j).foldl (better c A) b = B at *
        generalize hl : L.getD j [] = l at *
        have hw1 := worth_bd c B hok hbj
        have hw2 := worth_bd c l hok hlj
        have hr2 : inR .i64 (worth c l - worth c B) = true := inR64 (by omega) (by omega)
        have hl6 : ∀ n ∈ l, 0 ≤ n ∧ n ≤ 5 := fun n hn => by have := hlj.mem n hn; omega
        have k1 := c51 c l hok hlj.mem (by have := hlj.len; omega)
        have k2 := c51 c B hok hbj.mem (by have := hbj.len; omega)
        unfold better
        generalize hD : worth c l - worth c B = D at hr2 ⊢
        refine WP.once ?_
        simp only [T34, Tr.sure, SS, hj', eL, ht, hz, hl, hD]
        repeat' with_reducible first | intro _ | apply And.intro
        all_goals first | exact k1 | exact k2 | exact (c74 _ _ hin hl6) | exact (c52 _ _) | (simp [hr, hr2, Go, Ends', v34, -List.getD_eq_getElem?_getD, *]; done)
      · rw [List.take_length]
        refine WP.once ?_
        simp only [T34, Tr.sure, SS, eL, Int.lt_irrefl]
        repeat' with_reducible first | intro _ | apply And.intro
        all_goals simp [hr0, Go, Ends', v34, -List.getD_eq_getElem?_getD, *]
    · have hb := okL_best (c := c) (sets := A) (n := c.claims.length) (by omega)
      have hge : ¬ ((c.claims.length : Int) + 1 ≤ c.claims.length) := by omega
      have k1 := c51 c _ hok hb.mem (by have := hb.len; omega)
      refine WP.step ?_
      simp only [T34, Go, Ends', v34, Tr.sure, SS, hge]
      repeat' with_reducible first | intro _ | apply And.intro
      all_goals first | exact k1 | (simp [hf, Go, Ends', v34, -List.getD_eq_getElem?_getD, *]; done)
  · have hf : mostR c = ([], 0, e) := by unfold mostR; rw [ht, if_pos he]
    rw [ht] at h65
    refine w34 _ (WP.step ?_)
    simp only [T34, Go, Ends', v34, Tr.sure, SS, ht, he]
    repeat' with_reducible first | intro _ | apply And.intro
    all_goals first | exact h65 | (simp [hf, Go, Ends', v34, -List.getD_eq_getElem?_getD, *]; done)
end
noncomputable section
inductive P5
  | e
inductive R5
  | r0 (r0 : Bool)
noncomputable def T5 (x : Case) : P5 → Tr P5 R5
  | .e => let c1 : Tr P5 R5 := .out (.r0 false); let c2 := (grantR x).2.1; let c3 := (grantR x).1; let c5 := (fallR x).1; let c6 : V := .tuple [tint.lst c3, tint.lst c2, iI ((grantR x).2.2)]; let c7 : List V := [.agg (cC x)]; let c8 := (mostR x).1; let c4 : V := .tuple [tint.lst c8, iI ((mostR x).2.1), iI ((mostR x).2.2)]; let c9 : V := .tuple [tint.lst c5, iI ((fallR x).2)]; (.call 31 c7 c9 true true (.call 32 c7 c9 true true (.call 20 [tint.lst c5, tint.lst c5] (.bool (sameI c5 c5)) true true (.br (!(sameI c5 c5)) (.lit true c1) (.br ((fallR x).2 != (fallR x).2) c1 (.call 33 c7 c4 true true (.call 34 c7 c4 true true (.call 20 [tint.lst c8, tint.lst c8] (.bool (sameI c8 c8)) true true (.br (!(sameI c8 c8)) (.lit true (.lit true c1)) (.br ((mostR x).2.1 != (mostR x).2.1) (.lit true c1) (.br ((mostR x).2.2 != (mostR x).2.2) c1 (.call 35 c7 c6 true true (.call 36 c7 c6 true true (.call 20 [tint.lst c3, tint.lst c3] (.bool (sameI c3 c3)) true true (.br (sameI c3 c3) (.call 20 [tint.lst c2, tint.lst c2] (.bool (sameI c2 c2)) true true (.br (sameI c2 c2) (.br ((grantR x).2.2 == (grantR x).2.2) (.call 23 [] (.bool true) true true (.out (.r0 true))) c1) (.lit false c1))) (.lit false (.lit false c1)))))))))))))))))
noncomputable def g5 (x : Case) : P5 → List Item × St
  | .e => bd Tryz.f5 [.agg (cC x)] 83
noncomputable def n5 : R5 → Exit × St
  | .r0 r0 => (.ret, ⟨mk 84 [(2, .bool r0)], [], []⟩)
noncomputable def v5 : R5 → V
  | .r0 r0 => .bool r0
theorem s5 (x : Case) : Sm 0 (g5 x) (T5 x) (n5)
  | .e => ⟨400, by kernel_rfl⟩
theorem q5 : ∀ r, bodyQ Tryz.prog Tryz.f5 (· = v5 r) (n5 r).1 (n5 r).2
  | .r0 r0 => bq (.bool r0) (by kernel_rfl)
theorem w5 (x : Case) {post : V → Prop} (h : WQ (T5 x) v5 post .e) : PC 5 [.agg (cC x)] post :=
  PCalls.wq Tryz.func5 (s5 x) q5 h
theorem sameI_self (l : List Int) : sameI l l = true := by simp [sameI]
theorem c5 (x : Case) : PC 5 [.agg (tCase.cells x)] (· = .bool true) := by
  refine w5 x (WP.step ?_)
  simp only [T5, Go, Ends', v5, Tr.sure, SS]
  repeat' with_reducible first | intro _ | apply And.intro
  all_goals first | exact (c31 x) | exact (c32 x) | exact (c33 x) | exact (c34 x) | exact (c35 x) | exact (c36 x) | exact (c20 _ _) | exact c23 | (simp_all [sameI_self, Go, Ends', v5, -List.getD_eq_getElem?_getD]; done)
end
end Go.Proofs.YtdamoemndifpmaaGreat
