/-
  Part of the proof of ClaimClashes. Conditions: those that stand in each theorem.
-/
import Derived.Test.YtdamoemndifpmaaGreatK401
set_option linter.unusedSimpArgs false
set_option linter.unusedVariables false
set_option maxRecDepth 100000
namespace Go.Proofs.YtdamoemndifpmaaGreat
open Ab Go
noncomputable section
theorem tel_rep {τ : Type} (E : Ty τ) (x : τ) {n : Nat} {cs : List V} (hc : cs = E.cells x) {r j : Nat} (hr : r < n) : VLe (cs.getD j uU) (rowsOf E (List.replicate n x) r j) := by
  subst hc
  have : (List.replicate n x).getD r E.zero = x := by simp [List.getD_eq_getElem?_getD, hr]
  simp only [rowsOf, this]; exact VLe.refl _
theorem set_one (b x : Int) : ([b] : List Int).set 0 x = [x] := rfl
theorem underL_bool (b : Bool) : underL 0 [.bool b] = true := rfl
inductive P183
  | e
  | l0 (x0_6 : Int) (a0_1 : List Int)
  | l1 (x1_5 : List Int) (x1_7 : Int)
  | l2 (x1_7 : Int) (x2_5 : List Int) (x2_8 : Int)
  | l3 (x1_7 : Int) (x2_5 : List Int) (x2_8 : Int) (x3_11 : Int) (a3_2 : List Int)
  | l4 (x1_7 : Int) (x2_5 : List Int) (x2_8 : Int) (x3_11 : Int) (x4_13 : Int) (a4_2 : List Int)
inductive R183
  | r0 (r0 : List Int)
noncomputable def T183 (p0 : Case) (p1 : List Cast) : P183 → Tr P183 R183
  | .e => (.wait 6 (.telb 1 1 1 (litC 1 1 [iI 0]) (rowsOf tint ([0] : List Int)) (.go (.l0 0 ([0] : List Int)))))
  | .l0 x0_6 a0_1 => let c1 := p0.claims.getD (x0_6).toNat tClaim.zero; let c2 := (a0_1.getD ((0 : Int)).toNat tint.zero) + (bitZ x0_6); let c3 := x0_6 + (1 : Int); let c4 := (decide (0 ≤ (0 : Int)) && decide ((0 : Int) < (1 : Int))) && decide (1 ≤ 1); let c5 := x0_6 < (p0.claims.length : Int); let c6 := ([iI c2] : List V); let c7 : Tr P183 R183 := .need (inR .i64 c3) (.go (.l0 c3 a0_1)); let c8 := a0_1.set (((0 : Int)).toNat) c2; let c9 := decide (0 ≤ x0_6) && decide c5; (.br (decide c5) (.need c9 (.call 130 [iI (c1.kind)] (.bool (lasting (c1.kind))) true true (.br (!(lasting (c1.kind))) (.need c9 (.call 44 [.agg [iI (c1.own), iI (c1.kind), iI (c1.a), iI (c1.b), iI (c1.mould), iI (c1.feature), iI (c1.number), iI (c1.worth)], tCast.lst p1, iI 0] (.bool (so c1 p1 0)) true true (.br (so c1 p1 0) (.front [(5, 182, [iI x0_6], iI (bitZ x0_6))] [] ((c4 && ((decide (((0 : Int)).toNat < 1) && decide (0 < 1)) && ((inR .i64 c2) && true))) && true) true (.need c4 (.need ((decide (((0 : Int)).toNat < 1) && decide (0 + c6.length ≤ 1)) && underL 0 c6) (.telb 1 1 1 (fun r' j => if r' = ((0 : Int)).toNat ∧ 0 ≤ j ∧ j < 0 + c6.length then c6.getD (j - 0) uU else (rowsOf tint a0_1) r' j) (rowsOf tint c8) (.need (inR .i64 c3) (.go (.l0 c3 c8))))))) c7))) (.lit false c7)))) (.wait 5 (.frz 1 ((decide (1 ≤ 1)) && true) (.vle 5 (.list 1 1 (rowsOf tint a0_1)) (tint.lst a0_1) (.go (.l1 a0_1 0))))))
  | .l1 x1_5 x1_7 => (.br (decide (x1_7 < (p0.shop.moulds.length : Int))) (.go (.l2 x1_7 x1_5 0)) (.out (.r0 x1_5)))
  | .l2 x1_7 x2_5 x2_8 => let c1 := lastOf p0.shop p1 x1_7 x2_8; (.br (decide (x2_8 < p0.shop.features)) (.call 185 [.agg [iI p0.shop.features, tMould.lst p0.shop.moulds, tHead.lst p0.shop.heads], tCast.lst p1, iI x1_7, iI x2_8] (.agg [iI (c1.lo), iI (c1.hi)]) true true (.wait 2 (.own 10 3 1 (.go (.l3 x1_7 x2_5 x2_8 (c1.lo) ([])))))) (.need (inR .i64 (x1_7 + (1 : Int))) (.go (.l1 x2_5 (x1_7 + (1 : Int))))))
  | .l3 x1_7 x2_5 x2_8 x3_11 a3_2 => let c1 : V := .list 1 a3_2.length (rowsRev tint a3_2); let c2 := decide (a3_2.length ≤ a3_2.length); let c3 := tint.lst a3_2.reverse; (.br (decide (x3_11 ≤ (lastOf p0.shop p1 x1_7 x2_8).hi)) (.call 205 [.agg (cC p0), tCast.lst p1, iI x1_7, iI x2_8, iI x3_11] (iI (aboutR p0 p1 x1_7 x2_8 x3_11)) true true (.go (.l4 x1_7 x2_5 x2_8 x3_11 0 a3_2))) (.need (inR .i64 (x2_8 + (1 : Int))) (.frz 2 (c2 && (c2 && (c2 && true))) (.vle 5 c1 c3 (.vle 10 c1 c3 (.vle 106 c1 c3 (.go (.l2 x1_7 a3_2.reverse (x2_8 + (1 : Int))))))))))
  | .l4 x1_7 x2_5 x2_8 x3_11 x4_13 a4_2 => let c1 := (x2_5.getD (x4_13).toNat tint.zero) + (aboutR p0 p1 x1_7 x2_8 x3_11); let c2 := decide (0 ≤ x4_13) && decide (x4_13 < (x2_5.length : Int)); let c3 := x4_13 + (1 : Int); (.br (decide (x4_13 < (x2_5.length : Int))) (.need c2 (.need (inR .i64 c1) (.call 45 [.list 1 a4_2.length (rowsRev tint a4_2), iI c1] (.bool (hasN a4_2.reverse c1)) ((decide (a4_2.length ≤ a4_2.length)) && true) true (.br (!(hasN a4_2.reverse c1)) (.need c2 (.need (inR .i64 c1) (.need ((decide (a4_2.length = a4_2.length) && decide (a4_2.length + 1 ≤ 4294967296)) && decide (1 ≤ 1)) (.scal (fun _ => true) (.need (inR .i64 c3) (.go (.l4 x1_7 x2_5 x2_8 x3_11 c3 (c1 :: a4_2)))))))) (.need (inR .i64 c3) (.go (.l4 x1_7 x2_5 x2_8 x3_11 c3 a4_2))))))) (.need (inR .i64 (x3_11 + (1 : Int))) (.go (.l3 x1_7 x2_5 x2_8 (x3_11 + (1 : Int)) a4_2))))
noncomputable def g183 (p0 : Case) (p1 : List Cast) : P183 → List Item × St
  | .e => bd Tryz.f183 [.agg (cC p0), tCast.lst p1] 106
  | .l0 x0_6 a0_1 => (cutOf Tryz.f183 0, ⟨mk 108 [(1, tCast.lst p1), (2, .ref 0 0 0), (4, .nils), (5, .row 1 1), (6, iI x0_6)], [.cells (cC p0), .rows 3 1 1 (rowsOf tint a0_1)], []⟩)
  | .l1 x1_5 x1_7 => (cutOf Tryz.f183 1, ⟨mk 108 [(1, tCast.lst p1), (2, .ref 0 0 0), (4, .nils), (5, tint.lst x1_5), (7, iI x1_7)], [.cells (cC p0)], []⟩)
  | .l2 x1_7 x2_5 x2_8 => (cutOf Tryz.f183 2, ⟨mk 108 [(1, tCast.lst p1), (2, .ref 0 0 0), (4, .nils), (5, tint.lst x2_5), (7, iI x1_7), (8, iI x2_8), (47, iI x1_7), (48, .ref 0 0 0), (49, .ref 0 0 1), (50, tMould.lst p0.shop.moulds), (51, iI (p0.shop.moulds.length : Int)), (52, .bool (decide (x1_7 < (p0.shop.moulds.length : Int))))], [.cells (cC p0)], []⟩)
  | .l3 x1_7 x2_5 x2_8 x3_11 a3_2 => (cutOf Tryz.f183 3, ⟨mk 108 [(1, tCast.lst p1), (2, .ref 0 0 0), (4, .nils), (5, tint.lst x2_5), (7, iI x1_7), (8, iI x2_8), (9, .ref 1 0 0), (10, .row 2 a3_2.length), (11, iI x3_11), (47, iI x1_7), (48, .ref 0 0 0), (49, .ref 0 0 1), (50, tMould.lst p0.shop.moulds), (51, iI (p0.shop.moulds.length : Int)), (52, .bool (decide (x1_7 < (p0.shop.moulds.length : Int)))), (55, iI x2_8), (56, .ref 0 0 0), (57, .ref 0 0 0), (58, iI p0.shop.features), (59, .bool (decide (x2_8 < p0.shop.features))), (62, .ref 0 0 0), (63, .agg [iI p0.shop.features, tMould.lst p0.shop.moulds, tHead.lst p0.shop.heads]), (64, tCast.lst p1), (65, iI x1_7), (66, iI x2_8), (67, .agg [iI ((lastOf p0.shop p1 x1_7 x2_8).lo), iI ((lastOf p0.shop p1 x1_7 x2_8).hi)]), (68, .ref 1 0 0), (69, iI ((lastOf p0.shop p1 x1_7 x2_8).lo))], [.cells (cC p0), .cells [iI ((lastOf p0.shop p1 x1_7 x2_8).lo), iI ((lastOf p0.shop p1 x1_7 x2_8).hi)], .rows 3 1 a3_2.length (rowsRev tint a3_2)], []⟩)
  | .l4 x1_7 x2_5 x2_8 x3_11 x4_13 a4_2 => (cutOf Tryz.f183 4, ⟨mk 108 [(1, tCast.lst p1), (2, .ref 0 0 0), (4, .nils), (5, tint.lst x2_5), (7, iI x1_7), (8, iI x2_8), (9, .ref 1 0 0), (10, .row 2 a4_2.length), (11, iI x3_11), (12, iI (aboutR p0 p1 x1_7 x2_8 x3_11)), (13, iI x4_13), (47, iI x1_7), (48, .ref 0 0 0), (49, .ref 0 0 1), (50, tMould.lst p0.shop.moulds), (51, iI (p0.shop.moulds.length : Int)), (52, .bool (decide (x1_7 < (p0.shop.moulds.length : Int)))), (55, iI x2_8), (56, .ref 0 0 0), (57, .ref 0 0 0), (58, iI p0.shop.features), (59, .bool (decide (x2_8 < p0.shop.features))), (62, .ref 0 0 0), (63, .agg [iI p0.shop.features, tMould.lst p0.shop.moulds, tHead.lst p0.shop.heads]), (64, tCast.lst p1), (65, iI x1_7), (66, iI x2_8), (67, .agg [iI ((lastOf p0.shop p1 x1_7 x2_8).lo), iI ((lastOf p0.shop p1 x1_7 x2_8).hi)]), (68, .ref 1 0 0), (69, iI ((lastOf p0.shop p1 x1_7 x2_8).lo)), (70, iI x3_11), (71, .ref 1 0 1), (72, iI ((lastOf p0.shop p1 x1_7 x2_8).hi)), (73, .bool (decide (x3_11 ≤ (lastOf p0.shop p1 x1_7 x2_8).hi))), (76, .agg (cC p0)), (77, tCast.lst p1), (78, iI x1_7), (79, iI x2_8), (80, iI x3_11), (81, iI (aboutR p0 p1 x1_7 x2_8 x3_11))], [.cells (cC p0), .cells [iI ((lastOf p0.shop p1 x1_7 x2_8).lo), iI ((lastOf p0.shop p1 x1_7 x2_8).hi)], .rows 3 1 a4_2.length (rowsRev tint a4_2)], []⟩)
noncomputable def n183 : R183 → Exit × St
  | .r0 r0 => (.ret, ⟨mk 108 [(4, tint.lst r0)], [], []⟩)
noncomputable def v183 : R183 → V
  | .r0 r0 => tint.lst r0
theorem s183 (p0 : Case) (p1 : List Cast) : Sm 0 (g183 p0 p1) (T183 p0 p1) (n183)
  | .e => ⟨400, by kernel_rfl⟩
  | .l0 _ _ => ⟨400, by kernel_rfl⟩
  | .l1 _ _ => ⟨400, by kernel_rfl⟩
  | .l2 _ _ _ => ⟨400, by kernel_rfl⟩
  | .l3 _ _ _ _ _ => ⟨400, by kernel_rfl⟩
  | .l4 _ _ _ _ _ _ => ⟨400, by kernel_rfl⟩
theorem q183 : ∀ r, bodyQ Tryz.prog Tryz.f183 (· = v183 r) (n183 r).1 (n183 r).2
  | .r0 r0 => bq (tint.lst r0) (by kernel_rfl)
theorem w183 (p0 : Case) (p1 : List Cast) {post : V → Prop} (h : WQ (T183 p0 p1) v183 post .e) : PC 183 [.agg (cC p0), tCast.lst p1] post :=
  PCalls.wq Tryz.func183 (s183 p0 p1) q183 h
theorem c183 (c : Case) (l : List Cast) (h : OkCase c) (hl : l.length = c.shop.heads.length) (hc : ∀ x ∈ l, CastOk c.shop x) : PC 183 [.agg (tCase.cells c), tCast.lst l] (· = tint.lst (casesR c l)) := by
  have h5 := h.five
  have hm := h.shop.nm
  have hf := h.shop.feat
  refine w183 _ _ (WP.step ?_)
  simp only [T183, Go, Ends', v183, Tr.sure, SS]
  repeat' with_reducible first | intro _ | apply And.intro
  all_goals first | exact tel_lit tint [0] rfl rfl (fun _ => rfl) rfl (by assumption) (by assumption) | skip
  refine WP.run (fun i => .l0 i [castTo c l i]) rfl c.claims.length (fun i hi => ?_) ?_
  · have hr : inR .i64 ((i : Int) + 1) = true := inR64 (by omega) (by omega)
    have hk := h.cl hi
    have hs : castTo c l (i + 1) = if castP c l i = true then castTo c l i + bitZ i else castTo c l i := mask_succ _ _
    have hm0 := mask_lt (p := castP c l) (n := i) (by omega)
    have hb : inR .i64 (castTo c l i + bitZ i) = true := by
      have : bitZ (i : Int) ≤ 32 := by
        rcases show i = 0 ∨ i = 1 ∨ i = 2 ∨ i = 3 ∨ i = 4 by omega with e | e | e | e | e <;> subst e <;> decide
      have := bitZ_pos (i : Int)
      unfold castTo; exact inR64 (by omega) (by omega)
    have hcl : c.claims.getD i zClaim = cl c i := rfl
    have hcall := c44 (cl c i) l 0 hk.kind (fun e => by have := hk.cast e; omega) (fun e => by have := hk.pair e; omega)
    have hg0 : ([castTo c l i] : List Int).getD 0 0 = castTo c l i := rfl
    refine WP.once ?_
    simp only [T183, Tr.sure, SS, hi, z8, z1, hcl, hg0, Int.toNat_zero]
    repeat' with_reducible first | intro _ | apply And.intro
    all_goals first | exact c130 _ | exact hcall | exact c182 _ (by omega) | exact (tel_set tint _ _ _ _ rfl rfl rfl _ _ (by assumption) (by assumption)) | (simp [hr, hb, hs, castP, set_one, underL_int, Go, Ends', v183, -List.getD_eq_getElem?_getD, *]; done)
  · refine WP.step ?_
    simp only [T183, Go, Ends', v183, Tr.sure, SS, Int.lt_irrefl]
    repeat' with_reducible first | intro _ | apply And.intro
    all_goals first | exact tel_one tint _ rfl | (simp [Go, Ends', v183, -List.getD_eq_getElem?_getD, *]; done) | skip
    refine WP.run (fun m => .l1 (mouldR c l m) m) rfl c.shop.moulds.length (fun m hmi => ?_) ?_
    · have hr : inR .i64 ((m : Int) + 1) = true := inR64 (by omega) (by omega)
      have hml := mouldR_le h.shop l m (by omega)
      have hml' : (mouldR c l m).length ≤ 5764801 := Nat.le_trans hml (by
        rcases show m = 0 ∨ m = 1 ∨ m = 2 by omega with e | e | e <;> subst e <;> decide)
      refine WP.step ?_
      simp only [T183, Go, Ends', v183, Tr.sure, SS, hmi]
      repeat' with_reducible first | intro _ | apply And.intro
      obtain ⟨F, hF⟩ : ∃ F : Nat, c.shop.features.toNat = F := ⟨_, rfl⟩
      refine WP.run (fun f => .l2 m (featR c l m (mouldR c l m) f) f) rfl F (fun f hfi => ?_) ?_
      · have hr' : inR .i64 ((f : Int) + 1) = true := inR64 (by omega) (by omega)
        have hfl : (f : Int) < c.shop.features := by omega
        have hcall := c185 c.shop l m f h.shop (by omega) hc (by omega) (by omega)
        have hout : ∀ o ∈ featR c l m (mouldR c l m) f, 0 ≤ o ∧ o < 32 := fun o ho => featR_in h5 hmi (by omega) ho
        have hlen := featR_le h.shop l (m := (m : Int)) (by omega) (mouldR c l m) f (by omega)
        have h7 := pow7 (F := f) (by omega)
        have hlen' : (featR c l m (mouldR c l m) f).length ≤ 20000000 := by
          by_cases hm0 : m = 0
          · subst hm0
            have : (mouldR c l 0).length = 1 := rfl
            rw [this] at hlen; omega
          · have hm1 : m = 1 := by omega
            subst hm1
            have := Nat.mul_le_mul h7 hml
            simp only [Nat.pow_one] at this
            omega
        have hnext : featR c l m (mouldR c l m) (f + 1) = stepR c l m f (featR c l m (mouldR c l m) f) := rfl
        have hwd := wide_le h.shop l (m := (m : Int)) (f := (f : Int)) (by omega) (by omega)
        have hin := lastOf_in h.shop l (m := (m : Int)) (f := (f : Int)) (by omega) (by omega)
        generalize featR c l m (mouldR c l m) f = out at *
        refine WP.step ?_
        simp only [T183, Go, Ends', v183, Tr.sure, SS, hfl]
        repeat' with_reducible first | intro _ | apply And.intro
        all_goals first | exact hcall | skip
        refine WP.run (fun n => .l3 m out f ((lastOf c.shop l m f).lo + (n : Int)) (lastsN c l m f out n).reverse) (by simp [lastsN, natF]) (Go.Proofs.YtdamoemndifpmaaGreat.wide (lastOf c.shop l m f)) (fun n hn => ?_) ?_
        · have hle : (lastOf c.shop l m f).lo + (n : Int) ≤ (lastOf c.shop l m f).hi := by unfold Go.Proofs.YtdamoemndifpmaaGreat.wide at hn; omega
          have hcall2 := c205 c l m f ((lastOf c.shop l m f).lo + (n : Int)) h
          have hown := mask_lt (p := aboutP c l m f ((lastOf c.shop l m f).lo + (n : Int))) h5
          have hr3 : inR .i64 ((lastOf c.shop l m f).lo + (n : Int) + 1) = true := inR64 (by omega) (by omega)
          have hla := lastsN_le c l m f out n
          have hlb : (lastsN c l m f out n).length ≤ 140000000 := Nat.le_trans hla (Nat.le_trans (Nat.mul_le_mul (show n ≤ 7 by omega) hlen') (by decide))
          have hx : (lastOf c.shop l m f).lo + ((n + 1 : Nat) : Int) = (lastOf c.shop l m f).lo + (n : Int) + 1 := by omega
          have hln : lastsN c l m f out (n + 1) = innerN out (aboutR c l m f ((lastOf c.shop l m f).lo + (n : Int))) (lastsN c l m f out n) out.length := rfl
          refine WP.step ?_
          simp only [T183, Go, Ends', v183, Tr.sure, SS, hle]
          repeat' with_reducible first | intro _ | apply And.intro
          all_goals first | exact hcall2 | skip
          refine WP.run (fun k => .l4 m out f ((lastOf c.shop l m f).lo + (n : Int)) k (innerN out (aboutR c l m f ((lastOf c.shop l m f).lo + (n : Int))) (lastsN c l m f out n) k).reverse) rfl out.length (fun k hk => ?_) ?_
          · have hr4 : inR .i64 ((k : Int) + 1) = true := inR64 (by omega) (by omega)
            have ho := hout _ (getD_mem 0 out k hk)
            have hsum : inR .i64 (out.getD k 0 + aboutR c l m f ((lastOf c.shop l m f).lo + (n : Int))) = true := by
              unfold aboutR aboutTo; exact inR64 (by omega) (by omega)
            have hli := innerN_le out (aboutR c l m f ((lastOf c.shop l m f).lo + (n : Int))) (lastsN c l m f out n) k
            have hnx : innerN out (aboutR c l m f ((lastOf c.shop l m f).lo + (n : Int))) (lastsN c l m f out n) (k + 1) = addNew (innerN out (aboutR c l m f ((lastOf c.shop l m f).lo + (n : Int))) (lastsN c l m f out n) k) (out.getD k 0 + aboutR c l m f ((lastOf c.shop l m f).lo + (n : Int))) := rfl
            generalize innerN out (aboutR c l m f ((lastOf c.shop l m f).lo + (n : Int))) (lastsN c l m f out n) k = nx at *
            have hb : nx.length + 1 ≤ 4294967296 := by omega
            have hcall3 := c45r nx.reverse (out.getD k 0 + aboutR c l m f ((lastOf c.shop l m f).lo + (n : Int)))
            refine WP.once ?_
            simp only [T183, Tr.sure, SS, hk, z1]
            repeat' with_reducible first | intro _ | apply And.intro
            all_goals first | exact hcall3 | (simp [hr4, hsum, hb, hnx, addNew, Go, Ends', v183, -List.getD_eq_getElem?_getD, *]; done) | (simp_all [hr4, hsum, hb, hnx, addNew, Go, Ends', v183, -List.getD_eq_getElem?_getD]; done)
          · refine WP.once ?_
            simp only [T183, Tr.sure, SS, Int.lt_irrefl]
            repeat' with_reducible first | intro _ | apply And.intro
            all_goals first | (simp [hr3, hx, hln, Go, Ends', v183, -List.getD_eq_getElem?_getD, *]; done) | (simp_all [hr3, hx, hln, Go, Ends', v183, -List.getD_eq_getElem?_getD]; done)
        · have hle : ¬ (lastOf c.shop l m f).lo + (Go.Proofs.YtdamoemndifpmaaGreat.wide (lastOf c.shop l m f) : Int) ≤ (lastOf c.shop l m f).hi := by unfold Go.Proofs.YtdamoemndifpmaaGreat.wide; omega
          have he : (lastsN c l m f out (Go.Proofs.YtdamoemndifpmaaGreat.wide (lastOf c.shop l m f))).reverse.reverse = stepR c l m f out := by rw [List.reverse_reverse]; rfl
          refine WP.once ?_
          simp only [T183, Tr.sure, SS, hle]
          repeat' with_reducible first | intro _ | apply And.intro
          all_goals first | exact VLe.rev tint _ | (simp [hr', he, hnext, Go, Ends', v183, -List.getD_eq_getElem?_getD, *]; done)
      · have hle : ¬ (F : Int) < c.shop.features := by omega
        have he : mouldR c l (m + 1) = featR c l m (mouldR c l m) F := by rw [← hF]; rfl
        refine WP.once ?_
        simp only [T183, Tr.sure, SS, hle]
        repeat' with_reducible first | intro _ | apply And.intro
        all_goals simp [hr, he, Go, Ends', v183, -List.getD_eq_getElem?_getD, *]
    · refine WP.step ?_
      simp only [T183, Go, Ends', v183, Tr.sure, SS, Int.lt_irrefl]
      repeat' with_reducible first | intro _ | apply And.intro
      all_goals simp [casesR, Go, Ends', v183, -List.getD_eq_getElem?_getD, *]
theorem bit5 : bitZ 5 = 32 := by decide
theorem tel_repB {n r j : Nat} (hr : r < n) : VLe (([.bool false] : List V).getD j uU) (rowsOf tbool (List.replicate n false) r j) := tel_rep tbool false rfl hr
inductive P131
  | e
  | l0 (x0_5 : Int) (a0_1 : List Bool)
  | l1 (x0_5 : Int) (x1_7 : Int) (a1_1 : List Bool)
  | l2 (a0_1 : List Bool) (x2_9 : Int) (a2_2 : List Int)
inductive R131
  | r0 (r0 : List Int)
noncomputable def T131 (p0 : Case) : P131 → Tr P131 R131
  | .e => let c1 := List.replicate (((bitZ 5)).toNat) false; (.call 95 [.agg [iI p0.shop.features, tMould.lst p0.shop.moulds, tHead.lst p0.shop.heads]] ((tlist tCast).lst (truths p0.shop)) true true (.call 182 [iI 5] (iI (bitZ 5)) true true (.need ((decide (0 ≤ (bitZ 5)) && decide ((bitZ 5) = (bitZ 5))) && decide ((bitZ 5) ≤ 4294967296)) (.telb 1 1 (((bitZ 5)).toNat) (fun _ j => ([.bool false] : List V).getD j uU) (rowsOf tbool c1) (.go (.l0 0 c1))))))
  | .l0 x0_5 a0_1 => let c1 := (truths p0.shop).getD (x0_5).toNat (tlist tCast).zero; let c2 := x0_5 < (((truths p0.shop).length) : Int); (.br (decide c2) (.front [] [] (((decide (0 ≤ x0_5) && decide c2) && true) && true) true (.call 183 [.agg (cC p0), tCast.lst c1] (tint.lst (casesR p0 c1)) true true (.go (.l1 x0_5 0 a0_1)))) (.wait 3 (.own 8 3 1 (.go (.l2 a0_1 0 ([]))))))
  | .l1 x0_5 x1_7 a1_1 => let c1 := (casesR p0 ((truths p0.shop).getD (x0_5).toNat (tlist tCast).zero)).getD (x1_7).toNat tint.zero; let c2 := x1_7 < (((casesR p0 ((truths p0.shop).getD (x0_5).toNat (tlist tCast).zero)).length) : Int); let c3 := ([.bool true] : List V); let c4 := a1_1.set ((c1).toNat) true; (.br (decide c2) (.need (decide (0 ≤ x1_7) && decide c2) (.need ((decide (0 ≤ c1) && decide (c1 < ((((bitZ 5)).toNat) : Int))) && decide (((bitZ 5)).toNat ≤ ((bitZ 5)).toNat)) (.need ((decide ((c1).toNat < ((bitZ 5)).toNat) && decide (0 + c3.length ≤ 1)) && underL 0 c3) (.telb 1 1 (((bitZ 5)).toNat) (fun r' j => if r' = (c1).toNat ∧ 0 ≤ j ∧ j < 0 + c3.length then c3.getD (j - 0) uU else (rowsOf tbool a1_1) r' j) (rowsOf tbool c4) (.need (inR .i64 (x1_7 + (1 : Int))) (.go (.l1 x0_5 (x1_7 + (1 : Int)) c4))))))) (.need (inR .i64 (x0_5 + (1 : Int))) (.go (.l0 (x0_5 + (1 : Int)) a1_1))))
  | .l2 a0_1 x2_9 a2_2 => let c1 := x2_9 + (1 : Int); let c2 := x2_9 < ((((bitZ 5)).toNat) : Int); (.br (decide c2) (.need ((decide (0 ≤ x2_9) && decide c2) && decide (((bitZ 5)).toNat ≤ ((bitZ 5)).toNat)) (.need (decide ((x2_9).toNat < ((bitZ 5)).toNat) && decide (0 < 1)) (.br (a0_1.getD (x2_9).toNat tbool.zero) (.need ((decide (a2_2.length = a2_2.length) && decide (a2_2.length + 1 ≤ 4294967296)) && decide (1 ≤ 1)) (.scal (fun _ => true) (.need (inR .i64 c1) (.go (.l2 a0_1 c1 (x2_9 :: a2_2)))))) (.need (inR .i64 c1) (.go (.l2 a0_1 c1 a2_2)))))) (.out (.r0 a2_2)))
noncomputable def g131 (p0 : Case) : P131 → List Item × St
  | .e => bd Tryz.f131 [.agg (cC p0)] 53
  | .l0 x0_5 a0_1 => (cutOf Tryz.f131 0, ⟨mk 54 [(1, .ref 0 0 0), (2, .nils), (3, (tlist tCast).lst (truths p0.shop)), (4, .row 1 (((bitZ 5)).toNat)), (5, iI x0_5)], [.cells (cC p0), .rows 4 1 (((bitZ 5)).toNat) (rowsOf tbool a0_1)], []⟩)
  | .l1 x0_5 x1_7 a1_1 => (cutOf Tryz.f131 1, ⟨mk 54 [(1, .ref 0 0 0), (2, .nils), (3, (tlist tCast).lst (truths p0.shop)), (4, .row 1 (((bitZ 5)).toNat)), (5, iI x0_5), (6, tint.lst (casesR p0 ((truths p0.shop).getD (x0_5).toNat (tlist tCast).zero))), (7, iI x1_7), (15, iI x0_5), (16, (tlist tCast).lst (truths p0.shop)), (17, iI (((truths p0.shop).length) : Int)), (18, .bool (decide (x0_5 < (((truths p0.shop).length) : Int)))), (21, .agg (cC p0)), (22, (tlist tCast).lst (truths p0.shop)), (23, iI x0_5), (24, rR (tCast.lst ((truths p0.shop).getD (x0_5).toNat (tlist tCast).zero))), (25, tCast.lst ((truths p0.shop).getD (x0_5).toNat (tlist tCast).zero)), (26, tint.lst (casesR p0 ((truths p0.shop).getD (x0_5).toNat (tlist tCast).zero)))], [.cells (cC p0), .rows 4 1 (((bitZ 5)).toNat) (rowsOf tbool a1_1)], []⟩)
  | .l2 a0_1 x2_9 a2_2 => (cutOf Tryz.f131 2, ⟨mk 54 [(2, .nils), (4, .row 1 (((bitZ 5)).toNat)), (8, .row 2 a2_2.length), (9, iI x2_9)], [.gone, .rows 4 1 (((bitZ 5)).toNat) (rowsOf tbool a0_1), .rows 3 1 a2_2.length (rowsRev tint a2_2)], []⟩)
noncomputable def n131 : R131 → Exit × St
  | .r0 r0 => (.ret, ⟨mk 54 [(2, .row 2 r0.length)], [.gone, .gone, .rows 3 1 r0.length (rowsRev tint r0)], []⟩)
noncomputable def v131 : R131 → V
  | .r0 r0 => tint.lst r0.reverse
theorem s131 (p0 : Case) : Sm 0 (g131 p0) (T131 p0) (n131)
  | .e => ⟨400, by kernel_rfl⟩
  | .l0 _ _ => ⟨400, by kernel_rfl⟩
  | .l1 _ _ _ => ⟨400, by kernel_rfl⟩
  | .l2 _ _ _ => ⟨400, by kernel_rfl⟩
theorem q131 : ∀ r, bodyQ Tryz.prog Tryz.f131 (· = v131 r) (n131 r).1 (n131 r).2
  | .r0 r0 => ⟨.inr rfl, by simp [n131], (.row 2 r0.length), (tint.lst r0.reverse), by kernel_rfl, (.weak (.row rfl (Nat.le_refl _)) (VLe.rev tint r0)), rfl⟩
theorem w131 (p0 : Case) {post : V → Prop} (h : WQ (T131 p0) v131 post .e) : PC 131 [.agg (cC p0)] post :=
  PCalls.wq Tryz.func131 (s131 p0) q131 h
theorem c131 (c : Case) (h : OkCase c) : PC 131 [.agg (tCase.cells c)] (· = tint.lst (caseSets c)) := by
  have h5 := h.five
  have hts := grow_small h.shop (n := c.shop.heads.length) h.shop.nh
  have htl : (truths c.shop).length ≤ 4096 := hts
  refine w131 _ (WP.step ?_)
  simp only [T131, Go, Ends', v131, Tr.sure, SS]
  repeat' with_reducible first | intro _ | apply And.intro
  all_goals first | exact c95 _ h.shop | exact c182 _ (by omega) | exact tel_repB (by assumption) | (simp [bit5, Go, Ends', v131, -List.getD_eq_getElem?_getD, *]; done) | skip
  rw [bit5]
  refine WP.run (fun i => .l0 i (metTo c i)) rfl (truths c.shop).length (fun i hi => ?_) ?_
  · have hr : inR .i64 ((i : Int) + 1) = true := inR64 (by omega) (by omega)
    obtain ⟨g1, g2⟩ := grow_mem (getD_mem [] (truths c.shop) i hi)
    have hcall := c183 c ((truths c.shop).getD i []) h g1 g2
    have hin : ∀ x ∈ casesR c ((truths c.shop).getD i []), 0 ≤ x ∧ x < 32 := fun x hx => casesR_lt h5 hx
    have hn : metTo c (i + 1) = markTo (casesR c ((truths c.shop).getD i [])) (metTo c i) (casesR c ((truths c.shop).getD i [])).length := rfl
    have hml := metTo_len c i
    have hcl : (casesR c ((truths c.shop).getD i [])).length ≤ 5764801 := Nat.le_trans (mouldR_le h.shop _ _ (Nat.le_refl _)) (by
      have := h.shop.nm
      rcases show c.shop.moulds.length = 0 ∨ c.shop.moulds.length = 1 ∨ c.shop.moulds.length = 2 by omega with e | e | e <;> rw [e] <;> decide)
    refine WP.step ?_
    simp only [T131, Go, Ends', v131, Tr.sure, SS, hi, z6]
    repeat' with_reducible first | intro _ | apply And.intro
    all_goals first | exact hcall | skip
    generalize hL : casesR c ((truths c.shop).getD i []) = L at *
    refine WP.run (fun k => .l1 i k (markTo L (metTo c i) k)) rfl L.length (fun k hk => ?_) ?_
    · have hr' : inR .i64 ((k : Int) + 1) = true := inR64 (by omega) (by omega)
      have hx := hin _ (getD_mem 0 L k hk)
      have hx' : (L.getD k 0).toNat < 32 := by omega
      have hln : markTo L (metTo c i) (k + 1) = (markTo L (metTo c i) k).set (L.getD k 0).toNat true := rfl
      have hml' := (markTo_len L (metTo c i) k).trans hml
      refine WP.once ?_
      simp only [T131, Tr.sure, SS, hk, z6, z1, bit5, hL, hx, hx']
      repeat' with_reducible first | intro _ | apply And.intro
      all_goals first | exact (tel_set tbool _ _ _ _ rfl rfl hml'.symm _ _ (by assumption) (by assumption)) | (simp [hr', hx, hx', hln, underL_bool, bit5, Go, Ends', v131, -List.getD_eq_getElem?_getD, *]; done)
    · refine WP.once ?_
      simp only [T131, Tr.sure, SS, Int.lt_irrefl, z6, hL]
      repeat' with_reducible first | intro _ | apply And.intro
      all_goals simp [hr, hn, Go, Ends', v131, -List.getD_eq_getElem?_getD, *]
  · refine WP.step ?_
    simp only [T131, Go, Ends', v131, Tr.sure, SS, Int.lt_irrefl]
    repeat' with_reducible first | intro _ | apply And.intro
    refine WP.run (fun n => .l2 (metTo c (truths c.shop).length) n ((((List.range n).filter fun s => (metTo c (truths c.shop).length).getD s false).map fun (s : Nat) => (s : Int)).reverse)) rfl 32 (fun n hn => ?_) ?_
    · have hr : inR .i64 ((n : Int) + 1) = true := inR64 (by omega) (by omega)
      have hn' : (n : Int) < 32 := by omega
      have hl := List.length_filter_le (fun s => (metTo c (truths c.shop).length).getD s false) (List.range n)
      rw [List.length_range] at hl
      have hb : ((((List.range n).filter fun s => (metTo c (truths c.shop).length).getD s false).map fun (s : Nat) => (s : Int)).reverse).length + 1 ≤ 4294967296 := by rw [List.length_reverse, List.length_map]; omega
      refine WP.once ?_
      simp only [T131, Tr.sure, SS, hn, hn', z9, bit5]
      repeat' with_reducible first | intro _ | apply And.intro
      all_goals first | (simp [hr, hb, List.range_succ, hn, hn', Go, Ends', v131, -List.getD_eq_getElem?_getD, *]; done) | (simp_all [hr, hb, List.range_succ, hn, hn', Go, Ends', v131, -List.getD_eq_getElem?_getD]; done)
    · refine WP.step ?_
      simp only [T131, Go, Ends', v131, Tr.sure, SS, bit5]
      repeat' with_reducible first | intro _ | apply And.intro
      all_goals first | (simp [caseSets_met h5, Go, Ends', v131, -List.getD_eq_getElem?_getD, *]; done) | (simp_all [caseSets_met h5, Go, Ends', v131, -List.getD_eq_getElem?_getD]; done)
end
noncomputable section
theorem pickF_len {b : Int} {l : List Int} (hb : b ≤ 8) (h : -1 ≤ lastI l) : (pickF b l).length ≤ 8 := by simp only [pickF, List.length_map, List.length_range]; omega
theorem flat_len {b : Int} (hb : b ≤ 8) : ∀ (L : List (List Int)), (∀ l ∈ L, -1 ≤ lastI l) → (L.flatMap (pickF b)).length ≤ L.length * 8
  | [], _ => by simp
  | l :: L, h => by
    have h1 := pickF_len hb (h l (by simp))
    have h2 := flat_len hb L fun m hm => h m (by simp [hm])
    simp only [List.flatMap_cons, List.length_append, List.length_cons]; omega
theorem picks_len {b : Int} (hb : b ≤ 8) : ∀ n : Nat, (picks b n).length ≤ 8 ^ n
  | 0 => by simp [picks]
  | n + 1 => by
    have h1 := flat_len hb (picks b n) fun l hl => ((picks_ok b n l).1 hl).last
    have h2 := picks_len hb n
    rw [picks_succ, Nat.pow_succ]; omega
def picksI (b m : Int) : List (List Int) := picks b m.toNat
inductive P75
  | e
  | l0 (x0_7 : Int) (a0_0 : List (List Int))
  | l1 (x0_7 : Int) (x1_9 : Int) (a1_0 : List (List Int))
inductive R75
  | r0
  | r1 (r0 : List (List Int))
noncomputable def T75 (b : Int) (m : Int) : P75 → Tr P75 R75
  | .e => let c1 := m - (1 : Int); (.br (m == (0 : Int)) (.out (.r0)) (.wait 3 (.own 5 26 1 (.need (inR .i64 c1) (.call 75 [iI b, iI c1] ((tlist tint).lst (picksI b c1)) true true (.go (.l0 0 ([]))))))))
  | .l0 x0_7 a0_0 => let c1 := (picksI b (m - (1 : Int))).getD (x0_7).toNat (tlist tint).zero; let c2 := decide (0 ≤ x0_7) && decide (x0_7 < (((picksI b (m - (1 : Int))).length) : Int)); let c3 := ((c1.length) : Int) - (1 : Int); let c4 := (c1.getD (c3).toNat tint.zero) + (1 : Int); (.br (decide (x0_7 < (((picksI b (m - (1 : Int))).length) : Int))) (.need c2 (.br (decide (((c1.length) : Int) > (0 : Int))) (.front [] [] ((c2 && (c2 && ((inR .i64 c3) && ((decide (0 ≤ c3) && decide (c3 < ((c1.length) : Int))) && true)))) && true) true (.need (inR .i64 c4) (.go (.l1 x0_7 c4 a0_0)))) (.need (inR .i64 ((-1) + (1 : Int))) (.go (.l1 x0_7 ((-1) + (1 : Int)) a0_0))))) (.out (.r1 a0_0)))
  | .l1 x0_7 x1_9 a1_0 => let c1 := (picksI b (m - (1 : Int))).getD (x0_7).toNat (tlist tint).zero; let c2 := (0 + c1.length) + 1; (.br (decide (x1_9 < b)) (.need (decide (0 ≤ x0_7) && decide (x0_7 < (((picksI b (m - (1 : Int))).length) : Int))) (.need ((decide (0 = 0) && decide (0 + c1.length ≤ 4294967296)) && true) (.scal (fun r => (List.range 1).all fun j => ((rowsOf tint c1) r j).scalar) (.need ((decide ((0 + c1.length) = (0 + c1.length)) && decide ((0 + c1.length) + 1 ≤ 4294967296)) && decide (1 ≤ 1)) (.scal (fun _ => true) (.wait 0 (.frz 1 ((decide (c2 ≤ c2)) && true) (.wait 0 (.vle 57 (.list 1 c2 (appC (0 + c1.length) (appC 0 (litC 1 0 []) (rowsOf tint c1)) (litC 1 1 [iI x1_9]))) (tint.lst (c1 ++ [x1_9])) (.need ((decide (a1_0.length = a1_0.length) && decide (a1_0.length + 1 ≤ 4294967296)) && decide (1 ≤ 1)) (.scal (fun _ => true) (.need (inR .i64 (x1_9 + (1 : Int))) (.go (.l1 x0_7 (x1_9 + (1 : Int)) ((c1 ++ [x1_9]) :: a1_0))))))))))))))) (.need (inR .i64 (x0_7 + (1 : Int))) (.go (.l0 (x0_7 + (1 : Int)) a1_0))))
noncomputable def g75 (b : Int) (m : Int) : P75 → List Item × St
  | .e => bd Tryz.f75 [iI b, iI m] 59
  | .l0 x0_7 a0_0 => (cutOf Tryz.f75 0, ⟨mk 61 [(0, iI b), (5, .row 0 a0_0.length), (6, (tlist tint).lst (picksI b (m - (1 : Int)))), (7, iI x0_7)], [.rows 26 1 a0_0.length (rowsRev (tlist tint) a0_0)], []⟩)
  | .l1 x0_7 x1_9 a1_0 => (cutOf Tryz.f75 1, ⟨mk 61 [(0, iI b), (5, .row 0 a1_0.length), (6, (tlist tint).lst (picksI b (m - (1 : Int)))), (7, iI x0_7), (9, iI x1_9)], [.rows 26 1 a1_0.length (rowsRev (tlist tint) a1_0)], []⟩)
noncomputable def n75 : R75 → Exit × St
  | .r0 => (.ret, ⟨mk 61 [(4, .row 0 1)], [.rows 26 1 1 (litC 1 1 [.nils])], []⟩)
  | .r1 r0 => (.ret, ⟨mk 61 [(4, .row 0 r0.length)], [.rows 26 1 r0.length (rowsRev (tlist tint) r0)], []⟩)
noncomputable def v75 : R75 → V
  | .r0 => (tlist tint).lst ([[]] : List (List Int))
  | .r1 r0 => (tlist tint).lst r0.reverse
theorem s75 (b : Int) (m : Int) : Sm 0 (g75 b m) (T75 b m) (n75)
  | .e => ⟨400, by kernel_rfl⟩
  | .l0 _ _ => ⟨400, by kernel_rfl⟩
  | .l1 _ _ _ => ⟨400, by kernel_rfl⟩
theorem q75 : ∀ r, bodyQ Tryz.prog Tryz.f75 (· = v75 r) (n75 r).1 (n75 r).2
  | .r0 => ⟨.inr rfl, by simp [n75], (.row 0 1), ((tlist tint).lst ([[]] : List (List Int))), by kernel_rfl, (.weak (.row rfl (Nat.le_refl _)) VLe.litNil), rfl⟩
  | .r1 r0 => ⟨.inr rfl, by simp [n75], (.row 0 r0.length), ((tlist tint).lst r0.reverse), by kernel_rfl, (.weak (.row rfl (Nat.le_refl _)) (VLe.rev (tlist tint) r0)), rfl⟩
theorem w75 (b : Int) (m : Int) {post : V → Prop} (h : WQ (T75 b m) v75 post .e) : PC 75 [iI b, iI m] post :=
  PCalls.wq Tryz.func75 (s75 b m) q75 h
theorem VLe.app1 (l : List Int) (x : Int) {cells : List V} (hc : cells = [iI x]) : VLe (.list 1 (0 + l.length + 1) (appC (0 + l.length) (appC 0 (litC 1 0 []) (rowsOf tint l)) (litC 1 1 cells))) (tint.lst (l ++ [x])) := by
  subst hc
  rw [Nat.zero_add]
  have e : appC 0 (litC 1 0 []) (rowsOf tint l) = rowsOf tint l := by funext r j; unfold appC; rw [if_neg (Nat.not_lt_zero r), Nat.sub_zero]
  rw [e]
  intro G β x' hx
  refine VLe.snoc tint l x _ _ _ ?_
  refine VLe.list (fun i j hi hj => ?_) _ _ _ hx
  unfold appC
  by_cases h : i < l.length
  · rw [if_pos h]; simp only [rowsOf, List.getD_eq_getElem?_getD, List.getElem?_append_left h]
  · have hi' : i = l.length := by omega
    have hj1 : j < 1 := hj
    have hj' : j = 0 := by omega
    subst hi'; subst hj'
    rw [if_neg h, Nat.sub_self]
    simp only [rowsOf, List.getD_eq_getElem?_getD, List.getElem?_append_right (Nat.le_refl _), Nat.sub_self]
    rfl
theorem c75 (b : Int) (hb : 0 ≤ b ∧ b ≤ 8) : ∀ n : Nat, n ≤ 8 → PC 75 [iI b, iI (n : Int)] (· = (tlist tint).lst (picks b n))
  | 0, _ => by
    refine w75 _ _ (WP.step ?_)
    simp only [T75, Go, Ends', v75, Tr.sure, SS]
    repeat' with_reducible first | intro _ | apply And.intro
    all_goals simp [picks, Go, Ends', v75, -List.getD_eq_getElem?_getD, *]
  | n + 1, hn => by
    have ih := c75 b hb n (by omega)
    have e : ((n + 1 : Nat) : Int) - 1 = n := by omega
    have hr : inR .i64 (((n + 1 : Nat) : Int) - 1) = true := inR64 (by omega) (by omega)
    have hne : ¬ ((n + 1 : Nat) : Int) = 0 := by omega
    refine w75 _ _ (WP.step ?_)
    simp only [T75, Go, Ends', v75, Tr.sure, SS, hr, hne, e]
    repeat' with_reducible first | intro _ | apply And.intro
    all_goals first | exact ih | (simp_all [e, Go, Ends', v75, -List.getD_eq_getElem?_getD]; done) | skip
    have eL : picksI b (n : Int) = picks b n := by simp only [picksI, Int.toNat_natCast]
    have hL := fun l hl => (picks_ok b n l).1 hl
    have hlen := picks_len hb.2 n
    have h8 : 8 ^ n ≤ 8 ^ 7 := Nat.pow_le_pow_right (by omega) (by omega)
    generalize hLL : picks b n = L at *
    refine WP.count (fun i => .l0 (i : Int) ((L.take i).flatMap (pickF b)).reverse) rfl L.length (fun _ => True) trivial (fun i hi _ => ?_) fun _ => ?_
    · have hm : L.getD i [] ∈ L := by rw [List.getD_eq_getElem?_getD, List.getElem?_eq_getElem hi]; exact List.getElem_mem _
      have hp := hL _ hm
      have ht : L.take (i + 1) = L.take i ++ [L.getD i []] := take_snoc _ _ _ hi
      have hz : (tlist tint).zero = ([] : List Int) := rfl
      have hfl := flat_len hb.2 (L.take i) fun l hl => (hL l (List.mem_of_mem_take hl)).last
      have htl : (L.take i).length ≤ i := by simp; omega
      have hla := hp.last
      generalize hl : L.getD i [] = l at *
      have hln := hp.len
      have hi' : ((i : Nat) : Int) < L.length := by omega
      generalize hA : (L.take i).flatMap (pickF b) = A at *
      have hB : (L.take (i + 1)).flatMap (pickF b) = A ++ pickF b l := by rw [ht, List.flatMap_append, hA]; simp
      have hAl : A.length ≤ 8 ^ 7 * 8 := by omega
      have go : WP Tryz.prog ⟨none, 0⟩ (T75 b ((n + 1 : Nat) : Int)) (fun x => (x = .inl (.l0 ((i + 1 : Nat) : Int) (A ++ pickF b l).reverse) ∧ True) ∨ Go Tryz.prog ⟨none, 0⟩ (T75 b ((n + 1 : Nat) : Int)) (Ends' fun r => v75 r = (tlist tint).lst (picks b (n + 1))) x) (.l1 (i : Int) (lastI l + 1) A.reverse) := by
        refine WP.run (fun k => .l1 (i : Int) (lastI l + 1 + (k : Int)) (A ++ (List.range k).map fun (q : Nat) => l ++ [lastI l + 1 + (q : Int)]).reverse) (by simp) (b - (lastI l + 1)).toNat (fun k hk => ?_) ?_
        · have hk' : lastI l + 1 + (k : Int) < b := by omega
          have hrk : inR .i64 (lastI l + 1 + (k : Int) + 1) = true := inR64 (by omega) (by omega)
          have hq : lastI l + 1 + ((k : Int) + 1) = lastI l + 1 + (k : Int) + 1 := by omega
          generalize hC : (A ++ (List.range k).map fun (q : Nat) => l ++ [lastI l + 1 + (q : Int)]).reverse = C
          have hCl : C.length ≤ 8 ^ 7 * 8 + 8 := by subst hC; simp; omega
          have hD : (A ++ (List.range (k + 1)).map fun (q : Nat) => l ++ [lastI l + 1 + (q : Int)]).reverse = (l ++ [lastI l + 1 + (k : Int)]) :: C := by subst hC; simp [List.range_succ]
          rw [hD]
          refine WP.once ?_
          simp only [T75, Tr.sure, SS, hz, e, eL, hl, hk', hi']
          repeat' with_reducible first | intro _ | apply And.intro
          all_goals first | exact (VLe.app1 _ _ rfl) | exact (show ((List.range 1).all fun j => (rowsOf tint l _ j).scalar) = true from rfl) | (simp [hrk, Go, Ends', v75, -List.getD_eq_getElem?_getD, *]; done) | skip
          all_goals omega
        · have hr1 : inR .i64 ((i : Int) + 1) = true := inR64 (by omega) (by omega)
          have hge : ¬ lastI l + 1 + (((b - (lastI l + 1)).toNat : Nat) : Int) < b := by omega
          refine WP.once ?_
          simp only [T75, hge, Tr.sure, decide_false]
          simp [hr1, pickF]
      have main : ∀ φ, WP Tryz.prog ⟨none, 0⟩ (T75 b ((n + 1 : Nat) : Int)) φ (.l1 (i : Int) (lastI l + 1) A.reverse) → WP Tryz.prog ⟨none, 0⟩ (T75 b ((n + 1 : Nat) : Int)) φ (.l0 (i : Int) A.reverse) := fun φ h => by
        have hr2 : inR .i64 ((l.length : Int) - 1) = true := inR64 (by omega) (by omega)
        have hr3 : inR .i64 (lastI l + 1) = true := by
          by_cases e0 : l = []
          · subst e0; decide
          · have := hp.hi _ (lastI_mem e0); exact inR64 (by omega) (by omega)
        have hla1 : 0 < l.length → l.getD ((l.length : Int) - 1).toNat tint.zero = lastI l := fun h0 => by
          rw [lastI, if_neg (by omega), show ((l.length : Int) - 1).toNat = l.length - 1 by omega]; rfl
        have hla0 : l.length = 0 → lastI l = -1 := fun h0 => by rw [lastI, if_pos h0]
        refine WP.step ?_
        simp only [T75, Go, Ends', v75, Tr.sure, SS, hz, hl, eL, e, hi']
        repeat' with_reducible first | intro _ | apply And.intro
        all_goals first | (simp_all [hr2, Go, Ends', v75, -List.getD_eq_getElem?_getD]; done) | skip
        all_goals omega
        all_goals first
          | (have h0 : 0 < l.length := by omega
             rw [hla1 h0]; first | exact hr3 | exact h)
          | (have h0 : l.length = 0 := by omega
             rw [hla0 h0] at h; exact h)
      simp only [hB, hA]
      exact main _ go
    · refine WP.step ?_
      simp only [T75, Go, Ends', v75, Tr.sure, SS, e, eL]
      repeat' with_reducible first | intro _ | apply And.intro
      all_goals simp [eL, picks_succ, Go, Ends', v75, -List.getD_eq_getElem?_getD, *]
end
noncomputable section
inductive P65
  | e
inductive R65
  | r0 (r1 : Int)
  | r1 (r0 : List Int) (r1 : Int)
noncomputable def T65 (p0 : Case) (p1 : Int) : P65 → Tr P65 R65
  | .e => let c1 : Tr P65 R65 := .call 131 [.agg (cC p0)] (tint.lst (caseSets p0)) true true (.br ((((caseSets p0).length) : Int) == (0 : Int)) (.out (.r0 8)) (.out (.r1 (caseSets p0) 0))); let c2 := caseCheck p0; (.call 17 [.agg (cC p0)] (.tuple [iI (c2.1), iI (c2.2.1), iI (c2.2.2)]) true true (.br (c2.2.2 == (0 : Int)) (.br (p1 != (0 : Int)) (.out (.r0 p1)) c1) (.br (c2.2.2 != (0 : Int)) (.out (.r0 (c2.2.2))) c1)))
noncomputable def g65 (p0 : Case) (p1 : Int) : P65 → List Item × St
  | .e => bd Tryz.f65 [.agg (cC p0), iI p1] 26
noncomputable def n65 : R65 → Exit × St
  | .r0 r1 => (.ret, ⟨mk 28 [(4, .nils), (5, iI r1)], [], []⟩)
  | .r1 r0 r1 => (.ret, ⟨mk 28 [(4, tint.lst r0), (5, iI r1)], [], []⟩)
noncomputable def v65 : R65 → V
  | .r0 r1 => .tuple [tint.lst ([] : List Int), iI r1]
  | .r1 r0 r1 => .tuple [tint.lst r0, iI r1]
theorem s65 (p0 : Case) (p1 : Int) : Sm 0 (g65 p0 p1) (T65 p0 p1) (n65)
  | .e => ⟨400, by kernel_rfl⟩
theorem q65 : ∀ r, bodyQ Tryz.prog Tryz.f65 (· = v65 r) (n65 r).1 (n65 r).2
  | .r0 r1 => ⟨.inr rfl, by simp [n65], (.tuple [.nils, iI r1]), (.tuple [tint.lst ([] : List Int), iI r1]), by kernel_rfl, (.tuple rfl fun j hj => match j, hj with | 0, _ => .weak (.imm rfl) VLe.nils | 1, _ => .imm rfl), rfl⟩
  | .r1 r0 r1 => bq (.tuple [tint.lst r0, iI r1]) (by kernel_rfl)
theorem w65 (p0 : Case) (p1 : Int) {post : V → Prop} (h : WQ (T65 p0 p1) v65 post .e) : PC 65 [.agg (cC p0), iI p1] post :=
  PCalls.wq Tryz.func65 (s65 p0 p1) q65 h
theorem c65 (c : Case) (other : Int) : PC 65 [.agg (tCase.cells c), iI other] (· = .tuple [tint.lst (truthsE c other).1, iI (truthsE c other).2]) := by
  refine w65 _ _ (WP.step ?_)
  simp only [T65, Go, Ends', v65, Tr.sure, SS]
  repeat' with_reducible first | intro _ | apply And.intro
  all_goals first | exact c17 _ | exact (c131 c (okCase (by with_reducible assumption))) | (simp [truthsE, Go, Ends', v65, -List.getD_eq_getElem?_getD, *]; done) | (simp_all [truthsE, Go, Ends', v65, -List.getD_eq_getElem?_getD]; done)
  all_goals simp_all [truthsE]
inductive P69
  | e
  | l0 (x0_5 : Int) (x0_6 : Int)
inductive R69
  | r0 (r0 : Int)
noncomputable def T69 (p0 : List Int) (p1 : Int) : P69 → Tr P69 R69
  | .e => (.go (.l0 0 0))
  | .l0 x0_5 x0_6 => let c1 := p0.getD (x0_6).toNat tint.zero; let c2 := x0_6 + (1 : Int); let c3 := (p0.length : Int); (.br (decide (x0_6 < c3)) (.need (decide (0 ≤ x0_6) && decide (x0_6 < c3)) (.call 133 [iI c1, iI p1] (.bool (hasZ c1 p1)) true true (.br (hasZ c1 p1) (.need (inR .i64 (x0_5 + (1 : Int))) (.need (inR .i64 c2) (.go (.l0 (x0_5 + (1 : Int)) c2)))) (.need (inR .i64 c2) (.go (.l0 x0_5 c2)))))) (.br (x0_5 == c3) (.out (.r0 1)) (.br (x0_5 == (0 : Int)) (.out (.r0 2)) (.out (.r0 0)))))
noncomputable def g69 (p0 : List Int) (p1 : Int) : P69 → List Item × St
  | .e => bd Tryz.f69 [tint.lst p0, iI p1] 26
  | .l0 x0_5 x0_6 => (cutOf Tryz.f69 0, ⟨mk 28 [(0, tint.lst p0), (1, iI p1), (5, iI x0_5), (6, iI x0_6)], [], []⟩)
noncomputable def n69 : R69 → Exit × St
  | .r0 r0 => (.ret, ⟨mk 28 [(4, iI r0)], [], []⟩)
noncomputable def v69 : R69 → V
  | .r0 r0 => iI r0
theorem s69 (p0 : List Int) (p1 : Int) : Sm 0 (g69 p0 p1) (T69 p0 p1) (n69)
  | .e => ⟨400, by kernel_rfl⟩
  | .l0 _ _ => ⟨400, by kernel_rfl⟩
theorem q69 : ∀ r, bodyQ Tryz.prog Tryz.f69 (· = v69 r) (n69 r).1 (n69 r).2
  | .r0 r0 => bq (iI r0) (by kernel_rfl)
theorem w69 (p0 : List Int) (p1 : Int) {post : V → Prop} (h : WQ (T69 p0 p1) v69 post .e) : PC 69 [tint.lst p0, iI p1] post :=
  PCalls.wq Tryz.func69 (s69 p0 p1) q69 h
theorem e69 : ∀ xs w, (callFunc 69 xs).run Tryz.prog w = .ok (.enter 69 xs) w := PCalls.enters Tryz.func69 (c := Tryz.f69.body.getD .skip) (by kernel_rfl) (by kernel_rfl)
theorem c69 (l : List Int) (n : Int) (hs : ∀ s ∈ l, 0 ≤ s ∧ s < 32) (hn : 0 ≤ n ∧ n ≤ 5) : PC 69 [tint.lst l, iI n] (· = iI (settled l n)) := by
  refine PCalls.assume e69 0 (by simp) .list fun hl => ?_
  refine w69 _ _ (WP.step ?_)
  simp only [T69, Go, Ends', v69, Tr.sure, SS]
  repeat' with_reducible first | intro _ | apply And.intro
  refine WP.run (fun i => .l0 (((l.take i).countP fun s => hasZ s n : Nat) : Int) i) rfl l.length (fun i hi => ?_) ?_
  · have hr := inRi hi hl
    have hc := c133 (l.getD i 0) n hn (hs _ (getD_mem 0 l i hi))
    have ht := countP_take (fun s => hasZ s n) l 0 hi
    have hle : (l.take i).countP (fun s => hasZ s n) ≤ i := Nat.le_trans List.countP_le_length (by simp; omega)
    have hr2 : inR .i64 ((((l.take i).countP fun s => hasZ s n : Nat) : Int) + 1) = true := by unfold maxn at hl; exact inR64 (by omega) (by omega)
    refine WP.once ?_
    simp only [T69, Tr.sure, SS, hi, z1]
    repeat' with_reducible first | intro _ | apply And.intro
    all_goals first | exact hc | (simp [hr, hr2, ht, Go, Ends', v69, -List.getD_eq_getElem?_getD, *]; done)
  · rw [List.take_length]
    generalize hk : (l.countP fun s => hasZ s n) = k
    have hset : settled l n = if (k : Int) = (l.length : Int) then 1 else if (k : Int) = 0 then 2 else 0 := by
      subst hk; unfold settled; simp only [Int.natCast_inj, Int.natCast_eq_zero]
    refine WP.step ?_
    simp only [T69, Go, Ends', v69, Tr.sure, SS, Int.lt_irrefl]
    repeat' with_reducible first | intro _ | apply And.intro
    all_goals first | (simp [hset, Go, Ends', v69, -List.getD_eq_getElem?_getD, *]; done) | (simp_all [hset, Go, Ends', v69, -List.getD_eq_getElem?_getD]; done)
inductive P74
  | e
  | l0 (x0_5 : Int)
inductive R74
  | r0 (r0 : Bool)
noncomputable def T74 (p0 : List Int) (p1 : List Int) : P74 → Tr P74 R74
  | .e => (.go (.l0 0))
  | .l0 x0_5 => let c1 := p0.getD (x0_5).toNat tint.zero; let c2 := x0_5 < (p0.length : Int); (.br (decide c2) (.need (decide (0 ≤ x0_5) && decide c2) (.call 80 [iI c1, tint.lst p1] (.bool (allZ c1 p1)) true true (.br (allZ c1 p1) (.out (.r0 true)) (.need (inR .i64 (x0_5 + (1 : Int))) (.go (.l0 (x0_5 + (1 : Int)))))))) (.out (.r0 false)))
noncomputable def g74 (p0 : List Int) (p1 : List Int) : P74 → List Item × St
  | .e => bd Tryz.f74 [tint.lst p0, tint.lst p1] 16
  | .l0 x0_5 => (cutOf Tryz.f74 0, ⟨mk 18 [(0, tint.lst p0), (1, tint.lst p1), (5, iI x0_5)], [], []⟩)
noncomputable def n74 : R74 → Exit × St
  | .r0 r0 => (.ret, ⟨mk 18 [(4, .bool r0)], [], []⟩)
noncomputable def v74 : R74 → V
  | .r0 r0 => .bool r0
theorem s74 (p0 : List Int) (p1 : List Int) : Sm 0 (g74 p0 p1) (T74 p0 p1) (n74)
  | .e => ⟨400, by kernel_rfl⟩
  | .l0 _ => ⟨400, by kernel_rfl⟩
theorem q74 : ∀ r, bodyQ Tryz.prog Tryz.f74 (· = v74 r) (n74 r).1 (n74 r).2
  | .r0 r0 => bq (.bool r0) (by kernel_rfl)
theorem w74 (p0 : List Int) (p1 : List Int) {post : V → Prop} (h : WQ (T74 p0 p1) v74 post .e) : PC 74 [tint.lst p0, tint.lst p1] post :=
  PCalls.wq Tryz.func74 (s74 p0 p1) q74 h
theorem e74 : ∀ xs w, (callFunc 74 xs).run Tryz.prog w = .ok (.enter 74 xs) w := PCalls.enters Tryz.func74 (c := Tryz.f74.body.getD .skip) (by kernel_rfl) (by kernel_rfl)
theorem c74 (sets l : List Int) (hs : ∀ s ∈ sets, 0 ≤ s ∧ s < 32) (h : ∀ n ∈ l, 0 ≤ n ∧ n ≤ 5) : PC 74 [tint.lst sets, tint.lst l] (· = .bool (can sets l)) := by
  refine PCalls.assume e74 0 (by simp) .list fun hl => ?_
  refine w74 _ _ (WP.step ?_)
  simp only [T74, Go, Ends', v74, Tr.sure, SS]
  repeat' with_reducible first | intro _ | apply And.intro
  refine WP.findI (fun i => .l0 i) rfl sets 0 (fun s => allZ s l) (fun i hi => ?_) fun hI => ?_
  · have hr := inRi hi hl
    have ha : firstI (fun s => allZ s l) 0 sets = some i → sets.any (fun s => allZ s l) = true := any_of_firstI
    have hc := c80 (sets.getD i 0) l (hs _ (getD_mem 0 sets i hi)) h
    refine WP.once ?_
    simp only [T74, Tr.sure, SS, hi, z1]
    repeat' with_reducible first | intro _ | apply And.intro
    all_goals first | exact hc | (simp [hr, can, -List.any_eq_true, Go, Ends', v74, -List.getD_eq_getElem?_getD, *]; done) | (simp_all [hr, can, -List.any_eq_true, Go, Ends', v74, -List.getD_eq_getElem?_getD]; done)
  · have ha := any_of_none hI
    refine WP.step ?_
    simp only [T74, Go, Ends', v74, Tr.sure, SS, Int.lt_irrefl]
    repeat' with_reducible first | intro _ | apply And.intro
    all_goals simp [can, ha, Go, Ends', v74, -List.getD_eq_getElem?_getD, *]
inductive P73
  | e
  | l0 (x0_5 : Int)
  | l1 (x1_6 : Int)
inductive R73
  | r0 (r0 : Int)
noncomputable def T73 (p0 : Case) (p1 : List Int) : P73 → Tr P73 R73
  | .e => (.go (.l0 0))
  | .l0 x0_5 => let c1 := (p0.claims.length : Int) - (1 : Int); let c2 := p1.getD (x0_5).toNat tint.zero; let c3 := x0_5 < (p1.length : Int); (.br (decide c3) (.front [] [] (((decide (0 ≤ x0_5) && decide c3) && ((inR .i64 c1) && true)) && true) true (.call 61 [iI c2, iI 0, iI c1] (.bool (within c2 0 c1)) true true (.br (!(within c2 0 c1)) (.out (.r0 4)) (.need (inR .i64 (x0_5 + (1 : Int))) (.go (.l0 (x0_5 + (1 : Int)))))))) (.go (.l1 1)))
  | .l1 x1_6 => let c1 := x1_6 - (1 : Int); let c2 := (p1.length : Int); (.br (decide (x1_6 < c2)) (.front [] [] (((decide (0 ≤ x1_6) && decide (x1_6 < c2)) && ((inR .i64 c1) && ((decide (0 ≤ c1) && decide (c1 < c2)) && true))) && true) true (.br (decide ((p1.getD (x1_6).toNat tint.zero) ≤ (p1.getD (c1).toNat tint.zero))) (.out (.r0 2)) (.need (inR .i64 (x1_6 + (1 : Int))) (.go (.l1 (x1_6 + (1 : Int))))))) (.out (.r0 0)))
noncomputable def g73 (p0 : Case) (p1 : List Int) : P73 → List Item × St
  | .e => bd Tryz.f73 [.agg (cC p0), tint.lst p1] 37
  | .l0 x0_5 => (cutOf Tryz.f73 0, ⟨mk 39 [(1, tint.lst p1), (2, .ref 0 0 0), (5, iI x0_5)], [.cells (cC p0)], []⟩)
  | .l1 x1_6 => (cutOf Tryz.f73 1, ⟨mk 39 [(1, tint.lst p1), (6, iI x1_6)], [], []⟩)
noncomputable def n73 : R73 → Exit × St
  | .r0 r0 => (.ret, ⟨mk 39 [(4, iI r0)], [], []⟩)
noncomputable def v73 : R73 → V
  | .r0 r0 => iI r0
theorem s73 (p0 : Case) (p1 : List Int) : Sm 0 (g73 p0 p1) (T73 p0 p1) (n73)
  | .e => ⟨400, by kernel_rfl⟩
  | .l0 _ => ⟨400, by kernel_rfl⟩
  | .l1 _ => ⟨400, by kernel_rfl⟩
theorem q73 : ∀ r, bodyQ Tryz.prog Tryz.f73 (· = v73 r) (n73 r).1 (n73 r).2
  | .r0 r0 => bq (iI r0) (by kernel_rfl)
theorem w73 (p0 : Case) (p1 : List Int) {post : V → Prop} (h : WQ (T73 p0 p1) v73 post .e) : PC 73 [.agg (cC p0), tint.lst p1] post :=
  PCalls.wq Tryz.func73 (s73 p0 p1) q73 h
theorem e73 : ∀ xs w, (callFunc 73 xs).run Tryz.prog w = .ok (.enter 73 xs) w := PCalls.enters Tryz.func73 (c := Tryz.f73.body.getD .skip) (by kernel_rfl) (by kernel_rfl)
theorem c73 (c : Case) (l : List Int) : PC 73 [.agg (tCase.cells c), tint.lst l] (· = iI (listErr c.claims.length l)) := by
  refine PCalls.assume e73 1 (by simp) .list fun hl => ?_
  refine PCalls.assume e73 0 (by simp) (.agg 4 .list (by simp [tCase])) fun hcl => ?_
  have hr0 : inR .i64 ((c.claims.length : Int) - 1) = true := by unfold maxn at hcl; exact inR64 (by omega) (by omega)
  refine w73 _ _ (WP.step ?_)
  simp only [T73, Go, Ends', v73, Tr.sure, SS]
  repeat' with_reducible first | intro _ | apply And.intro
  refine WP.findI (fun i => .l0 i) rfl l 0 (fun n => !within n 0 ((c.claims.length : Int) - 1)) (fun i hi => ?_) fun hI => ?_
  · have hr := inRi hi hl
    have ha : firstI (fun n => !within n 0 ((c.claims.length : Int) - 1)) 0 l = some i → l.any (fun n => !within n 0 ((c.claims.length : Int) - 1)) = true := any_of_firstI
    refine WP.once ?_
    simp only [T73, Tr.sure, SS, hi, z1]
    repeat' with_reducible first | intro _ | apply And.intro
    all_goals first | exact (c61 _ _ _) | (simp [hr, hr0, listErr, -List.any_eq_true, Go, Ends', v73, -List.getD_eq_getElem?_getD, *]; done) | (simp_all [hr, hr0, listErr, -List.any_eq_true, Go, Ends', v73, -List.getD_eq_getElem?_getD]; done)
  · have ha := any_of_none hI
    refine WP.step ?_
    simp only [T73, Go, Ends', v73, Tr.sure, SS, Int.lt_irrefl]
    repeat' with_reducible first | intro _ | apply And.intro
    refine WP.count (fun j => .l1 ((j : Int) + 1)) (by simp) (l.length - 1) (fun j => ∀ i, i ≤ j → falls l i = false) (fun i hi => by rw [Nat.le_zero.1 hi]; rfl) (fun j hj hI => ?_) fun hI => ?_
    · have hj1 : (j : Int) + 1 < l.length := by omega
      have hr : inR .i64 ((j : Int) + 1 + 1) = true := by unfold maxn at hl; exact inR64 (by omega) (by omega)
      have hr2 : inR .i64 ((j : Int) + 1 - 1) = true := by unfold maxn at hl; exact inR64 (by omega) (by omega)
      have e1 : ((j : Int) + 1).toNat = j + 1 := by omega
      have e2 : ((j : Int) + 1 - 1).toNat = j := by omega
      have hf : falls l (j + 1) = decide (l.getD (j + 1) 0 ≤ l.getD j 0) := by simp [falls]
      have hl2 : falls l (j + 1) = true → listErr c.claims.length l = 2 := fun h => by
        have : asc l = false := by rw [asc_falls, List.any_eq_true.2 ⟨j + 1, List.mem_range.2 (by omega), h⟩]; rfl
        simp only [listErr, ha, this, Bool.false_eq_true, if_false]
      have hnext : falls l (j + 1) = false → ∀ i, i ≤ j + 1 → falls l i = false := fun h i hi => by
        rcases Nat.lt_or_ge i (j + 1) with q | q
        · exact hI i (by omega)
        · obtain rfl : i = j + 1 := by omega
          exact h
      have hn0 : 0 ≤ (j : Int) + 1 := by omega
      have hn1 : (j : Int) + 1 - 1 < l.length := by omega
      have hn2 : 0 ≤ (j : Int) + 1 - 1 := by omega
      refine WP.once ?_
      simp only [T73, Tr.sure, SS, hj1, z1, e1, e2, hn0, hn1, hn2]
      repeat' with_reducible first | intro _ | apply And.intro
      all_goals first | (simp [hr, hr2, Go, Ends', v73, -List.getD_eq_getElem?_getD, *]; done) | (simp_all [hr, hr2, Go, Ends', v73, -List.getD_eq_getElem?_getD]; done)
    · have hge : ¬ ((l.length - 1 : Nat) : Int) + 1 < l.length := by omega
      have hasc : asc l = true := by
        rw [asc_falls, Bool.not_eq_true', Bool.eq_false_iff]
        intro h
        rw [List.any_eq_true] at h
        obtain ⟨i, h1, h2⟩ := h
        rw [hI i (by rw [List.mem_range] at h1; omega)] at h2; cases h2
      have he : listErr c.claims.length l = 0 := by simp only [listErr, ha, hasc, Bool.false_eq_true, if_false, if_true]
      refine WP.step ?_
      simp only [T73, Go, Ends', v73, Tr.sure, SS, hge]
      repeat' with_reducible first | intro _ | apply And.intro
      all_goals simp [he, Go, Ends', v73, -List.getD_eq_getElem?_getD, *]
end
noncomputable section
theorem truths_ok {c : Case} {o : Int} (h : (truthsE c o).2 = 0) : OkCase c ∧ o = 0 ∧ (truthsE c o).1 = caseSets c := by
  unfold truthsE at h ⊢
  split at h
  · rename_i h1; exact absurd h h1
  · rename_i h1
    split at h
    · rename_i h2; exact absurd h h2
    · rename_i h2
      split at h
      · cases h
      · rename_i h3
        rw [if_neg h1, if_neg h2, if_neg h3]
        exact ⟨okCase (Decidable.not_not.1 h1), Decidable.not_not.1 h2, rfl⟩
theorem list_ok {many : Nat} {l : List Int} (h : listErr many l = 0) : (∀ n ∈ l, 0 ≤ n ∧ n < many) ∧ asc l = true := by
  unfold listErr at h
  split at h
  · cases h
  · rename_i h1
    split at h
    · rename_i h2
      refine ⟨fun n hn => ?_, h2⟩
      rw [Bool.not_eq_true, List.any_eq_false] at h1
      have := h1 n hn
      simp only [Bool.not_eq_true', Bool.not_eq_false, within_iff] at this
      omega
    · cases h
inductive P25
  | e
inductive R25
  | r0 (r0 : Bool) (r1 : Int)
noncomputable def T25 (p0 : Case) (p1 : List Int) : P25 → Tr P25 R25
  | .e => (.front [(3, 73, [.agg (cC p0), tint.lst p1], iI ((fun (c : Case) (l : List Int) => listErr c.claims.length l) p0 p1)), (4, 65, [.agg (cC p0), iI ((fun (c : Case) (l : List Int) => listErr c.claims.length l) p0 p1)], .tuple [tint.lst ((truthsE p0 ((fun (c : Case) (l : List Int) => listErr c.claims.length l) p0 p1)).1), iI ((truthsE p0 ((fun (c : Case) (l : List Int) => listErr c.claims.length l) p0 p1)).2)])] [] true true (.br ((truthsE p0 ((fun (c : Case) (l : List Int) => listErr c.claims.length l) p0 p1)).2 != (0 : Int)) (.out (.r0 false ((truthsE p0 ((fun (c : Case) (l : List Int) => listErr c.claims.length l) p0 p1)).2))) (.call 74 [tint.lst ((truthsE p0 ((fun (c : Case) (l : List Int) => listErr c.claims.length l) p0 p1)).1), tint.lst p1] (.bool (can ((truthsE p0 ((fun (c : Case) (l : List Int) => listErr c.claims.length l) p0 p1)).1) p1)) true true (.out (.r0 (can ((truthsE p0 ((fun (c : Case) (l : List Int) => listErr c.claims.length l) p0 p1)).1) p1) 0)))))
noncomputable def g25 (p0 : Case) (p1 : List Int) : P25 → List Item × St
  | .e => bd Tryz.f25 [.agg (cC p0), tint.lst p1] 20
noncomputable def n25 : R25 → Exit × St
  | .r0 r0 r1 => (.ret, ⟨mk 22 [(4, .bool r0), (5, iI r1)], [], []⟩)
noncomputable def v25 : R25 → V
  | .r0 r0 r1 => .tuple [.bool r0, iI r1]
theorem s25 (p0 : Case) (p1 : List Int) : Sm 0 (g25 p0 p1) (T25 p0 p1) (n25)
  | .e => ⟨400, by kernel_rfl⟩
theorem q25 : ∀ r, bodyQ Tryz.prog Tryz.f25 (· = v25 r) (n25 r).1 (n25 r).2
  | .r0 r0 r1 => bq (.tuple [.bool r0, iI r1]) (by kernel_rfl)
theorem w25 (p0 : Case) (p1 : List Int) {post : V → Prop} (h : WQ (T25 p0 p1) v25 post .e) : PC 25 [.agg (cC p0), tint.lst p1] post :=
  PCalls.wq Tryz.func25 (s25 p0 p1) q25 h
theorem c25 (c : Case) (l : List Int) : PC 25 [.agg (tCase.cells c), tint.lst l] (· = .tuple [.bool (togetherR c l).1, iI (togetherR c l).2]) := by
  have key : (truthsE c (listErr c.claims.length l)).2 = 0 → PC 74 [tint.lst (truthsE c (listErr c.claims.length l)).1, tint.lst l] (· = .bool (can (truthsE c (listErr c.claims.length l)).1 l)) := fun h => by
    obtain ⟨h1, h2, h3⟩ := truths_ok h
    have h4 := (list_ok h2).1
    have := h1.five
    rw [h3]
    exact c74 _ _ (fun s hs => caseSets_in hs) (fun n hn => by have := h4 n hn; omega)
  have e3 : (truthsE c (listErr c.claims.length l)).2 = 0 → (truthsE c (listErr c.claims.length l)).1 = caseSets c := fun h => (truths_ok h).2.2
  refine w25 _ _ (WP.step ?_)
  simp only [T25, Go, Ends', v25, Tr.sure, SS]
  repeat' with_reducible first | intro _ | apply And.intro
  all_goals first | exact (c73 _ _) | exact (c65 _ _) | exact (key (by with_reducible assumption)) | (simp [togetherR, e3, Go, Ends', v25, -List.getD_eq_getElem?_getD, *]; done)
inductive P81
  | e
  | l0 (x0_8 : Int) (a0_1 : List Int)
inductive R81
  | r0 (r0 : List Int)
noncomputable def T81 (p0 : Case) (p1 : List Int) (p2 : Int) : P81 → Tr P81 R81
  | .e => (.wait 4 (.own 7 3 1 (.go (.l0 0 ([])))))
  | .l0 x0_8 a0_1 => let c1 := x0_8 + (1 : Int); (.br (decide (x0_8 < (p0.claims.length : Int))) (.call 69 [tint.lst p1, iI x0_8] (iI (settled p1 x0_8)) true true (.br ((settled p1 x0_8) == p2) (.need ((decide (a0_1.length = a0_1.length) && decide (a0_1.length + 1 ≤ 4294967296)) && decide (1 ≤ 1)) (.scal (fun _ => true) (.need (inR .i64 c1) (.go (.l0 c1 (x0_8 :: a0_1)))))) (.need (inR .i64 c1) (.go (.l0 c1 a0_1))))) (.out (.r0 a0_1)))
noncomputable def g81 (p0 : Case) (p1 : List Int) (p2 : Int) : P81 → List Item × St
  | .e => bd Tryz.f81 [.agg (cC p0), tint.lst p1, iI p2] 23
  | .l0 x0_8 a0_1 => (cutOf Tryz.f81 0, ⟨mk 26 [(1, tint.lst p1), (2, iI p2), (3, .ref 0 0 0), (7, .row 1 a0_1.length), (8, iI x0_8)], [.cells (cC p0), .rows 3 1 a0_1.length (rowsRev tint a0_1)], []⟩)
noncomputable def n81 : R81 → Exit × St
  | .r0 r0 => (.ret, ⟨mk 26 [(6, .row 1 r0.length)], [.gone, .rows 3 1 r0.length (rowsRev tint r0)], []⟩)
noncomputable def v81 : R81 → V
  | .r0 r0 => tint.lst r0.reverse
theorem s81 (p0 : Case) (p1 : List Int) (p2 : Int) : Sm 0 (g81 p0 p1 p2) (T81 p0 p1 p2) (n81)
  | .e => ⟨400, by kernel_rfl⟩
  | .l0 _ _ => ⟨400, by kernel_rfl⟩
theorem q81 : ∀ r, bodyQ Tryz.prog Tryz.f81 (· = v81 r) (n81 r).1 (n81 r).2
  | .r0 r0 => ⟨.inr rfl, by simp [n81], (.row 1 r0.length), (tint.lst r0.reverse), by kernel_rfl, (.weak (.row rfl (Nat.le_refl _)) (VLe.rev tint r0)), rfl⟩
theorem w81 (p0 : Case) (p1 : List Int) (p2 : Int) {post : V → Prop} (h : WQ (T81 p0 p1 p2) v81 post .e) : PC 81 [.agg (cC p0), tint.lst p1, iI p2] post :=
  PCalls.wq Tryz.func81 (s81 p0 p1 p2) q81 h
theorem c81 (c : Case) (l : List Int) (how : Int) (h5 : c.claims.length ≤ 5) (hs : ∀ s ∈ l, 0 ≤ s ∧ s < 32) : PC 81 [.agg (tCase.cells c), tint.lst l, iI how] (· = tint.lst (each c.claims.length l how)) := by
  have he : ∀ n, each n l how = filtI (fun (i : Nat) => settled l i == how) n := fun _ => rfl
  refine w81 _ _ _ (WP.step ?_)
  simp only [T81, Go, Ends', v81, Tr.sure, SS]
  repeat' with_reducible first | intro _ | apply And.intro
  refine WP.run (fun i => .l0 i (each i l how).reverse) rfl c.claims.length (fun i hi => ?_) ?_
  · have hr : inR .i64 ((i : Int) + 1) = true := inR64 (by omega) (by omega)
    have hle : (each i l how).reverse.length + 1 ≤ 4294967296 := by rw [List.length_reverse, he]; have := filtI_len (fun (i : Nat) => settled l i == how) i; omega
    have hn : (each (i + 1) l how).reverse = if (settled l i == how) = true then (i : Int) :: (each i l how).reverse else (each i l how).reverse := by rw [he, he]; exact filtI_rev _ _
    have hi' : ((i : Nat) : Int) < c.claims.length := by omega
    generalize (each (i + 1) l how).reverse = B at *
    generalize (each i l how).reverse = A at *
    refine WP.once ?_
    simp only [T81, Tr.sure, SS, hi', hi]
    repeat' with_reducible first | intro _ | apply And.intro
    all_goals first | exact (c69 _ _ hs (by omega)) | (simp [hr, hle, hn, Go, Ends', v81, -List.getD_eq_getElem?_getD, *]; done)
  · refine WP.step ?_
    simp only [T81, Go, Ends', v81, Tr.sure, SS, Int.lt_irrefl]
    repeat' with_reducible first | intro _ | apply And.intro
    all_goals simp [Go, Ends', v81, -List.getD_eq_getElem?_getD, *]
end
noncomputable section
theorem filter_take (p : Int → Bool) (l : List Int) {i : Nat} (hi : i < l.length) : ((l.take (i + 1)).filter p).reverse = if p (l.getD i 0) = true then l.getD i 0 :: ((l.take i).filter p).reverse else ((l.take i).filter p).reverse := by
  rw [take_snoc 0 l i hi, List.filter_append]; generalize l.getD i 0 = x; cases h : p x <;> simp [h]
theorem filter_take_len (p : Int → Bool) (l : List Int) (i : Nat) : ((l.take i).filter p).reverse.length ≤ l.length := by
  rw [List.length_reverse]; exact Nat.le_trans (List.length_filter_le _ _) (by simp; omega)
inductive P30
  | e
  | l0 (x0_9 : Int) (a0_1 : List Int)
inductive R30
  | r0 (r1 : Int)
  | r1 (r0 : List Int) (r1 : Int)
noncomputable def T30 (p0 : Case) (p1 : List Int) : P30 → Tr P30 R30
  | .e => let c1 : Tr P30 R30 := .wait 3 (.own 8 3 1 (.go (.l0 0 ([])))); (.front [(3, 73, [.agg (cC p0), tint.lst p1], iI ((fun (c : Case) (l : List Int) => listErr c.claims.length l) p0 p1)), (4, 65, [.agg (cC p0), iI ((fun (c : Case) (l : List Int) => listErr c.claims.length l) p0 p1)], .tuple [tint.lst ((truthsE p0 ((fun (c : Case) (l : List Int) => listErr c.claims.length l) p0 p1)).1), iI ((truthsE p0 ((fun (c : Case) (l : List Int) => listErr c.claims.length l) p0 p1)).2)])] [] true true (.br ((truthsE p0 ((fun (c : Case) (l : List Int) => listErr c.claims.length l) p0 p1)).2 == (0 : Int)) (.call 74 [tint.lst ((truthsE p0 ((fun (c : Case) (l : List Int) => listErr c.claims.length l) p0 p1)).1), tint.lst p1] (.bool (can ((truthsE p0 ((fun (c : Case) (l : List Int) => listErr c.claims.length l) p0 p1)).1) p1)) true true (.br (!(can ((truthsE p0 ((fun (c : Case) (l : List Int) => listErr c.claims.length l) p0 p1)).1) p1)) (.br ((9 : Int) != (0 : Int)) (.out (.r0 9)) c1) (.br ((truthsE p0 ((fun (c : Case) (l : List Int) => listErr c.claims.length l) p0 p1)).2 != (0 : Int)) (.out (.r0 ((truthsE p0 ((fun (c : Case) (l : List Int) => listErr c.claims.length l) p0 p1)).2))) c1))) (.lit false (.br ((truthsE p0 ((fun (c : Case) (l : List Int) => listErr c.claims.length l) p0 p1)).2 != (0 : Int)) (.out (.r0 ((truthsE p0 ((fun (c : Case) (l : List Int) => listErr c.claims.length l) p0 p1)).2))) c1))))
  | .l0 x0_9 a0_1 => (.br (decide (x0_9 < (((truthsE p0 ((fun (c : Case) (l : List Int) => listErr c.claims.length l) p0 p1)).1.length) : Int))) (.need (decide (0 ≤ x0_9) && decide (x0_9 < (((truthsE p0 ((fun (c : Case) (l : List Int) => listErr c.claims.length l) p0 p1)).1.length) : Int))) (.call 80 [iI (((truthsE p0 ((fun (c : Case) (l : List Int) => listErr c.claims.length l) p0 p1)).1).getD (x0_9).toNat tint.zero), tint.lst p1] (.bool (allZ (((truthsE p0 ((fun (c : Case) (l : List Int) => listErr c.claims.length l) p0 p1)).1).getD (x0_9).toNat tint.zero) p1)) true true (.br (allZ (((truthsE p0 ((fun (c : Case) (l : List Int) => listErr c.claims.length l) p0 p1)).1).getD (x0_9).toNat tint.zero) p1) (.need (decide (0 ≤ x0_9) && decide (x0_9 < (((truthsE p0 ((fun (c : Case) (l : List Int) => listErr c.claims.length l) p0 p1)).1.length) : Int))) (.need ((decide (a0_1.length = a0_1.length) && decide (a0_1.length + 1 ≤ 4294967296)) && decide (1 ≤ 1)) (.scal (fun _ => true) (.need (inR .i64 (x0_9 + (1 : Int))) (.go (.l0 (x0_9 + (1 : Int)) ((((truthsE p0 ((fun (c : Case) (l : List Int) => listErr c.claims.length l) p0 p1)).1).getD (x0_9).toNat tint.zero) :: a0_1))))))) (.need (inR .i64 (x0_9 + (1 : Int))) (.go (.l0 (x0_9 + (1 : Int)) a0_1)))))) (.wait 2 (.frz 1 ((decide (a0_1.length ≤ a0_1.length)) && true) (.vle 8 (.list 1 a0_1.length (rowsRev tint a0_1)) (tint.lst a0_1.reverse) (.call 81 [.agg (cC p0), tint.lst a0_1.reverse, iI 1] (tint.lst ((fun (c : Case) l how => each c.claims.length l how) p0 a0_1.reverse 1)) true true (.out (.r1 ((fun (c : Case) l how => each c.claims.length l how) p0 a0_1.reverse 1) 0)))))))
noncomputable def g30 (p0 : Case) (p1 : List Int) : P30 → List Item × St
  | .e => bd Tryz.f30 [.agg (cC p0), tint.lst p1] 49
  | .l0 x0_9 a0_1 => (cutOf Tryz.f30 0, ⟨mk 51 [(1, tint.lst p1), (2, .ref 0 0 0), (6, tint.lst ((truthsE p0 ((fun (c : Case) (l : List Int) => listErr c.claims.length l) p0 p1)).1)), (8, .row 1 a0_1.length), (9, iI x0_9)], [.cells (cC p0), .rows 3 1 a0_1.length (rowsRev tint a0_1)], []⟩)
noncomputable def n30 : R30 → Exit × St
  | .r0 r1 => (.ret, ⟨mk 51 [(4, .nils), (5, iI r1)], [], []⟩)
  | .r1 r0 r1 => (.ret, ⟨mk 51 [(4, tint.lst r0), (5, iI r1)], [], []⟩)
noncomputable def v30 : R30 → V
  | .r0 r1 => .tuple [tint.lst ([] : List Int), iI r1]
  | .r1 r0 r1 => .tuple [tint.lst r0, iI r1]
theorem s30 (p0 : Case) (p1 : List Int) : Sm 0 (g30 p0 p1) (T30 p0 p1) (n30)
  | .e => ⟨400, by kernel_rfl⟩
  | .l0 _ _ => ⟨400, by kernel_rfl⟩
theorem q30 : ∀ r, bodyQ Tryz.prog Tryz.f30 (· = v30 r) (n30 r).1 (n30 r).2
  | .r0 r1 => ⟨.inr rfl, by simp [n30], (.tuple [.nils, iI r1]), (.tuple [tint.lst ([] : List Int), iI r1]), by kernel_rfl, (.tuple rfl fun j hj => match j, hj with | 0, _ => .weak (.imm rfl) VLe.nils | 1, _ => .imm rfl), rfl⟩
  | .r1 r0 r1 => bq (.tuple [tint.lst r0, iI r1]) (by kernel_rfl)
theorem w30 (p0 : Case) (p1 : List Int) {post : V → Prop} (h : WQ (T30 p0 p1) v30 post .e) : PC 30 [.agg (cC p0), tint.lst p1] post :=
  PCalls.wq Tryz.func30 (s30 p0 p1) q30 h
theorem truths_cases (c : Case) (o : Int) : (truthsE c o = (caseSets c, 0) ∧ OkCase c ∧ o = 0) ∨ ∃ e, truthsE c o = ([], e) ∧ e ≠ 0 := by
  by_cases h : (truthsE c o).2 = 0
  · obtain ⟨h1, h2, h3⟩ := truths_ok h
    exact .inl ⟨Prod.ext h3 h, h1, h2⟩
  · refine .inr ⟨(truthsE c o).2, ?_, h⟩
    revert h
    unfold truthsE
    split
    · intro _; rfl
    · split
      · intro _; rfl
      · split
        · intro _; rfl
        · intro h; exact absurd rfl h
theorem c30 (c : Case) (l : List Int) : PC 30 [.agg (tCase.cells c), tint.lst l] (· = .tuple [tint.lst (followR c l).1, iI (followR c l).2]) := by
  have hin : ∀ s ∈ caseSets c, 0 ≤ s ∧ s < 32 := fun s hs => caseSets_in hs
  have hll := caseSets_le c
  have h65 := c65 c (listErr c.claims.length l)
  rcases truths_cases c (listErr c.claims.length l) with ⟨ht, hok, h2⟩ | ⟨e, ht, he⟩
  · have h4 := (list_ok h2).1
    have h5 := hok.five
    have h6 : ∀ n ∈ l, 0 ≤ n ∧ n ≤ 5 := fun n hn => by have := h4 n hn; omega
    have hf : followR c l = if can (caseSets c) l = false then ([], 9) else (each c.claims.length ((caseSets c).filter fun s => allZ s l) 1, 0) := by
      unfold followR; rw [ht]; simp
    rw [ht] at h65
    have h81 := c81 c ((caseSets c).filter fun s => allZ s l) 1 h5 fun s hs => hin s (List.mem_filter.1 hs).1
    generalize caseSets c = A at *
    refine w30 _ _ (WP.step ?_)
    simp only [T30, Go, Ends', v30, Tr.sure, SS, ht]
    repeat' with_reducible first | intro _ | apply And.intro
    all_goals first | exact (c73 _ _) | exact h65 | exact (c74 _ _ hin h6) | (simp [hf, Go, Ends', v30, -List.getD_eq_getElem?_getD, *]; done) | (simp_all [hf, Go, Ends', v30, -List.getD_eq_getElem?_getD]; done) | skip
    refine WP.run (fun i => .l0 i ((A.take i).filter fun s => allZ s l).reverse) rfl A.length (fun i hi => ?_) ?_
    · have hr : inR .i64 ((i : Int) + 1) = true := inR64 (by omega) (by omega)
      have hn := filter_take (fun s => allZ s l) A hi
      have hle := filter_take_len (fun s => allZ s l) A i
      have hle2 : ((A.take i).filter fun s => allZ s l).reverse.length + 1 ≤ 4294967296 := by omega
      rw [hn]
      generalize ((A.take i).filter fun s => allZ s l).reverse = B at *
      refine WP.once ?_
      simp only [T30, Tr.sure, SS, hi, ht, z1]
      repeat' with_reducible first | intro _ | apply And.intro
      all_goals first | exact (c80 _ _ (hin _ (getD_mem 0 A i hi)) h6) | (simp [hr, hle2, Go, Ends', v30, -List.getD_eq_getElem?_getD, *]; done)
    · rw [List.take_length]
      refine WP.step ?_
      simp only [T30, Go, Ends', v30, Tr.sure, SS, ht, Int.lt_irrefl, List.reverse_reverse]
      repeat' with_reducible first | intro _ | apply And.intro
      all_goals first | exact h81 | exact (VLe.rr tint _) | (simp [hf, Go, Ends', v30, -List.getD_eq_getElem?_getD, *]; done)
  · have hf : followR c l = ([], e) := by unfold followR; rw [ht, if_pos he]
    rw [ht] at h65
    refine w30 _ _ (WP.step ?_)
    simp only [T30, Go, Ends', v30, Tr.sure, SS, ht, he]
    repeat' with_reducible first | intro _ | apply And.intro
    all_goals first | exact (c73 _ _) | exact h65 | (simp [hf, Go, Ends', v30, -List.getD_eq_getElem?_getD, *]; done)
end
noncomputable section
theorem VLe.slice {τ : Type} (E : Ty τ) (l : List τ) (a n : Nat) (h : a + n ≤ l.length) : VLe (.list E.w n (fun i j => rowsOf E l (a + i) j)) (E.lst ((l.drop a).take n)) := by
  have hl : ((l.drop a).take n).length = n := by simp; omega
  show VLe _ (.list E.w ((l.drop a).take n).length (rowsOf E ((l.drop a).take n)))
  rw [hl]
  refine VLe.list fun i j hi _ => ?_
  simp only [rowsOf, List.getD_eq_getElem?_getD, List.getElem?_take_of_lt hi, List.getElem?_drop]
theorem c74s (sets l : List Int) (a n : Nat) (hs : ∀ s ∈ sets, 0 ≤ s ∧ s < 32) (h : ∀ n ∈ l, 0 ≤ n ∧ n ≤ 5) (hn : a + n ≤ l.length) : PC 74 [tint.lst sets, .list 1 n (fun i j => rowsOf tint l (a + i) j)] (· = .bool (can sets ((l.drop a).take n))) :=
  PCalls.arg (pre := [tint.lst sets]) (suf := []) (c74 sets ((l.drop a).take n) hs fun x hx => h x (List.mem_of_mem_drop (List.mem_of_mem_take hx))) (VLe.slice tint l a n hn)
theorem filterG_take {τ : Type} (p : τ → Bool) (l : List τ) (d : τ) {i : Nat} (hi : i < l.length) : ((l.take (i + 1)).filter p).reverse = if p (l.getD i d) = true then l.getD i d :: ((l.take i).filter p).reverse else ((l.take i).filter p).reverse := by
  rw [take_snoc d l i hi, List.filter_append]; generalize l.getD i d = x; cases h : p x <;> simp [h]
theorem filterG_len {τ : Type} (p : τ → Bool) (l : List τ) (i : Nat) : ((l.take i).filter p).reverse.length ≤ l.length := by
  rw [List.length_reverse]; exact Nat.le_trans (List.length_filter_le _ _) (by simp; omega)
inductive P27
  | e
  | l0 (x0_8 : Int) (a0_1 : List (List Int))
inductive R27
  | r0 (r1 : Int)
  | r1 (r0 : List (List Int)) (r1 : Int)
noncomputable def T27 (p0 : Case) : P27 → Tr P27 R27
  | .e => let c1 := truthsE p0 0; (.call 65 [.agg (cC p0), iI 0] (.tuple [tint.lst (c1.1), iI (c1.2)]) true true (.br (c1.2 != (0 : Int)) (.out (.r0 (c1.2))) (.call 75 [iI (p0.claims.length : Int), iI 2] ((tlist tint).lst (picksI (p0.claims.length : Int) 2)) true true (.wait 2 (.own 7 26 1 (.go (.l0 0 ([]))))))))
  | .l0 x0_8 a0_1 => let c1 := (picksI (p0.claims.length : Int) 2).getD (x0_8).toNat (tlist tint).zero; let c2 := decide (0 ≤ x0_8) && decide (x0_8 < (((picksI (p0.claims.length : Int) 2).length) : Int)); let c3 : Tr P27 R27 := .need (inR .i64 (x0_8 + (1 : Int))) (.go (.l0 (x0_8 + (1 : Int)) a0_1)); let c4 := (truthsE p0 0).1; let c5 := ((c1.length) : Int); let c6 := can c4 ((c1.drop ((0 : Int)).toNat).take (((1 : Int)).toNat - ((0 : Int)).toNat)); let c7 := can c4 ((c1.drop ((1 : Int)).toNat).take ((c5).toNat - ((1 : Int)).toNat)); (.br (decide (x0_8 < (((picksI (p0.claims.length : Int) 2).length) : Int))) (.need c2 (.need ((decide (0 ≤ (0 : Int)) && decide ((0 : Int) ≤ (1 : Int))) && decide ((1 : Int) ≤ c5)) (.call 74 [tint.lst c4, .list 1 (((1 : Int)).toNat - ((0 : Int)).toNat) (fun i j => rowsOf tint c1 (((0 : Int)).toNat + i) j)] (.bool c6) true true (.br c6 (.need c2 (.need ((decide (0 ≤ (1 : Int)) && decide ((1 : Int) ≤ c5)) && decide (c5 ≤ c5)) (.call 74 [tint.lst c4, .list 1 ((c5).toNat - ((1 : Int)).toNat) (fun i j => rowsOf tint c1 (((1 : Int)).toNat + i) j)] (.bool c7) true true (.br c7 (.need c2 (.call 74 [tint.lst c4, tint.lst c1] (.bool (can c4 c1)) true true (.br (!(can c4 c1)) (.need c2 (.need ((decide (a0_1.length = a0_1.length) && decide (a0_1.length + 1 ≤ 4294967296)) && decide (1 ≤ 1)) (.scal (fun _ => true) (.need (inR .i64 (x0_8 + (1 : Int))) (.go (.l0 (x0_8 + (1 : Int)) (c1 :: a0_1))))))) c3))) (.lit false c3))))) (.lit false (.lit false c3)))))) (.out (.r1 a0_1 0)))
noncomputable def g27 (p0 : Case) : P27 → List Item × St
  | .e => bd Tryz.f27 [.agg (cC p0)] 59
  | .l0 x0_8 a0_1 => (cutOf Tryz.f27 0, ⟨mk 60 [(4, tint.lst ((truthsE p0 0).1)), (6, (tlist tint).lst (picksI (p0.claims.length : Int) 2)), (7, .row 1 a0_1.length), (8, iI x0_8)], [.gone, .rows 26 1 a0_1.length (rowsRev (tlist tint) a0_1)], []⟩)
noncomputable def n27 : R27 → Exit × St
  | .r0 r1 => (.ret, ⟨mk 60 [(2, .nils), (3, iI r1)], [], []⟩)
  | .r1 r0 r1 => (.ret, ⟨mk 60 [(2, .row 1 r0.length), (3, iI r1)], [.gone, .rows 26 1 r0.length (rowsRev (tlist tint) r0)], []⟩)
noncomputable def v27 : R27 → V
  | .r0 r1 => .tuple [(tlist tint).lst ([] : List (List Int)), iI r1]
  | .r1 r0 r1 => .tuple [(tlist tint).lst r0.reverse, iI r1]
theorem s27 (p0 : Case) : Sm 0 (g27 p0) (T27 p0) (n27)
  | .e => ⟨400, by kernel_rfl⟩
  | .l0 _ _ => ⟨400, by kernel_rfl⟩
theorem q27 : ∀ r, bodyQ Tryz.prog Tryz.f27 (· = v27 r) (n27 r).1 (n27 r).2
  | .r0 r1 => ⟨.inr rfl, by simp [n27], (.tuple [.nils, iI r1]), (.tuple [(tlist tint).lst ([] : List (List Int)), iI r1]), by kernel_rfl, (.tuple rfl fun j hj => match j, hj with | 0, _ => .weak (.imm rfl) VLe.nils | 1, _ => .imm rfl), rfl⟩
  | .r1 r0 r1 => ⟨.inr rfl, by simp [n27], (.tuple [.row 1 r0.length, iI r1]), (.tuple [(tlist tint).lst r0.reverse, iI r1]), by kernel_rfl, (.tuple rfl fun j hj => match j, hj with | 0, _ => .weak (.row rfl (Nat.le_refl _)) (VLe.rev (tlist tint) r0) | 1, _ => .imm rfl), rfl⟩
theorem w27 (p0 : Case) {post : V → Prop} (h : WQ (T27 p0) v27 post .e) : PC 27 [.agg (cC p0)] post :=
  PCalls.wq Tryz.func27 (s27 p0) q27 h
theorem c27 (c : Case) : PC 27 [.agg (tCase.cells c)] (· = .tuple [(tlist tint).lst (clashR c).1, iI (clashR c).2]) := by
  have hin : ∀ s ∈ caseSets c, 0 ≤ s ∧ s < 32 := fun s hs => caseSets_in hs
  have h65 := c65 c 0
  rcases truths_cases c 0 with ⟨ht, hok, h2⟩ | ⟨e, ht, he⟩
  · have h5 := hok.five
    have hf : clashR c = ((picks c.claims.length 2).filter (clashP (caseSets c)), 0) := by unfold clashR; rw [ht]; simp
    rw [ht] at h65
    have h75 := c75 c.claims.length ⟨by omega, by omega⟩ 2 (by omega)
    have hP := fun l hl => (picks_ok c.claims.length 2 l).1 hl
    have hlen := picks_len (b := c.claims.length) (by omega) 2
    have eL : picksI (c.claims.length : Int) 2 = picks c.claims.length 2 := rfl
    generalize caseSets c = A at *
    generalize picks c.claims.length 2 = L at *
    refine w27 _ (WP.step ?_)
    simp only [T27, Go, Ends', v27, Tr.sure, SS, ht]
    repeat' with_reducible first | intro _ | apply And.intro
    all_goals first | exact h65 | (simp_all [hf, Go, Ends', v27, -List.getD_eq_getElem?_getD]; done) | skip
    refine WP.run (fun i => .l0 i ((L.take i).filter (clashP A)).reverse) rfl L.length (fun i hi => ?_) ?_
    · have hr : inR .i64 ((i : Int) + 1) = true := inR64 (by omega) (by omega)
      have hn := filterG_take (clashP A) L [] hi
      have hle := filterG_len (clashP A) L i
      have hle2 : ((L.take i).filter (clashP A)).reverse.length + 1 ≤ 4294967296 := by omega
      have hm : L.getD i [] ∈ L := getD_mem [] L i hi
      have hp := hP _ hm
      have hz : (tlist tint).zero = ([] : List Int) := rfl
      have hi' : (i : Int) < L.length := by omega
      rw [hn]
      generalize ((L.take i).filter (clashP A)).reverse = B at *
      generalize hl : L.getD i [] = l at *
      have hl2 := hp.len
      have h6 : ∀ n ∈ l, 0 ≤ n ∧ n ≤ 5 := fun n hn => by have := hp.lo n hn; have := hp.hi n hn; omega
      have e1 : (l.drop 0).take 1 = l.take 1 := rfl
      have e2 : (l.drop 1).take (l.length - 1) = l.drop 1 := List.take_of_length_le (by simp)
      have e3 : (1 : Int) ≤ l.length := by omega
      refine WP.once ?_
      simp only [T27, Tr.sure, SS, hi', eL, ht, hz, hl]
      repeat' with_reducible first | intro _ | apply And.intro
      all_goals first | exact (c74s A l 0 1 hin h6 (by omega)) | exact (c74s A l 1 (l.length - 1) hin h6 (by omega)) | exact (c74 _ _ hin h6) | (simp [hr, hle2, clashP, e1, e2, e3, Go, Ends', v27, -List.getD_eq_getElem?_getD, *]; done) | (simp_all [hr, hle2, clashP, e1, e2, e3, Go, Ends', v27, -List.getD_eq_getElem?_getD]; done)
    · rw [List.take_length]
      refine WP.step ?_
      simp only [T27, Go, Ends', v27, Tr.sure, SS, ht, eL, Int.lt_irrefl, List.reverse_reverse]
      repeat' with_reducible first | intro _ | apply And.intro
      all_goals simp [hf, Go, Ends', v27, -List.getD_eq_getElem?_getD, *]
  · have hf : clashR c = ([], e) := by unfold clashR; rw [ht, if_pos he]
    rw [ht] at h65
    refine w27 _ (WP.step ?_)
    simp only [T27, Go, Ends', v27, Tr.sure, SS, ht, he]
    repeat' with_reducible first | intro _ | apply And.intro
    all_goals first | exact h65 | (simp [hf, Go, Ends', v27, -List.getD_eq_getElem?_getD, *]; done)
end
noncomputable section
inductive P4
  | e
inductive R4
  | r0 (r0 : Bool)
noncomputable def T4 (x : Case) (l : List Int) : P4 → Tr P4 R4
  | .e => let c1 := followR x l; let c2 := togetherR x l; let c3 := (clashR x).1; let c4 : Tr P4 R4 := .out (.r0 false); let c5 : List V := [.agg (cC x), tint.lst l]; let c6 : V := .tuple [(tlist tint).lst c3, iI ((clashR x).2)]; let c7 : V := .tuple [tint.lst (c1.1), iI (c1.2)]; let c8 : V := .tuple [.bool (c2.1), iI (c2.2)]; (.call 24 c5 c8 true true (.call 25 c5 c8 true true (.br (!(c2.1 == c2.1)) (.lit true c4) (.br (c2.2 != c2.2) c4 (.call 26 [.agg (cC x)] c6 true true (.call 27 [.agg (cC x)] c6 true true (.call 28 [(tlist tint).lst c3, (tlist tint).lst c3] (.bool (sameL c3 c3)) true true (.br (!(sameL c3 c3)) (.lit true c4) (.br ((clashR x).2 != (clashR x).2) c4 (.call 29 c5 c7 true true (.call 30 c5 c7 true true (.call 20 [tint.lst (c1.1), tint.lst (c1.1)] (.bool (sameI (c1.1) (c1.1))) true true (.br (sameI (c1.1) (c1.1)) (.br (c1.2 == c1.2) (.call 23 [] (.bool true) true true (.out (.r0 true))) c4) (.lit false c4))))))))))))))
noncomputable def g4 (x : Case) (l : List Int) : P4 → List Item × St
  | .e => bd Tryz.f4 [.agg (cC x), tint.lst l] 73
noncomputable def n4 : R4 → Exit × St
  | .r0 r0 => (.ret, ⟨mk 75 [(4, .bool r0)], [], []⟩)
noncomputable def v4 : R4 → V
  | .r0 r0 => .bool r0
theorem s4 (x : Case) (l : List Int) : Sm 0 (g4 x l) (T4 x l) (n4)
  | .e => ⟨400, by kernel_rfl⟩
theorem q4 : ∀ r, bodyQ Tryz.prog Tryz.f4 (· = v4 r) (n4 r).1 (n4 r).2
  | .r0 r0 => bq (.bool r0) (by kernel_rfl)
theorem w4 (x : Case) (l : List Int) {post : V → Prop} (h : WQ (T4 x l) v4 post .e) : PC 4 [.agg (cC x), tint.lst l] post :=
  PCalls.wq Tryz.func4 (s4 x l) q4 h
theorem sameI_self (l : List Int) : sameI l l = true := by simp [sameI]
theorem sameL_self (l : List (List Int)) : sameL l l = true := by simp [sameL]
theorem c4 (x : Case) (l : List Int) : PC 4 [.agg (tCase.cells x), tint.lst l] (· = .bool true) := by
  refine w4 x l (WP.step ?_)
  simp only [T4, Go, Ends', v4, Tr.sure, SS]
  repeat' with_reducible first | intro _ | apply And.intro
  all_goals first | exact (c24 x l) | exact (c25 x l) | exact (c26 x) | exact (c27 x) | exact (c28 _ _) | exact (c29 x l) | exact (c30 x l) | exact (c20 _ _) | exact c23 | (simp_all [sameI_self, sameL_self, Go, Ends', v4, -List.getD_eq_getElem?_getD]; done)
end
end Go.Proofs.YtdamoemndifpmaaGreat
