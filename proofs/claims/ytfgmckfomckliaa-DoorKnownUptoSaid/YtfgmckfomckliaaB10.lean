/-
  Part of the proof of the law DoorKnown. Conditions: those that stand in each theorem.
-/
import Derived.Test.YtfgmckfomckliaaB09
set_option linter.unusedSimpArgs false
set_option linter.unusedVariables false
set_option maxRecDepth 100000
namespace Go.Proofs.Ytfgmckfomckliaa
open Ab Go
noncomputable section
inductive P19a
  | e
inductive R19a
  | r0 (r0 : Int) (r1 : List Room) (r2 : List Day) (r3 : Int) (r4 : Int) (r5 : Int) (r6 : Int) (r7 : Int) (r8 : Int) (r9 : Nat → Int) (r10 : Int)
noncomputable def T19a (b : Book) (d : Int) (s : Sp) (fe : Int) (own : Int) (L : List Int) : P19a → Tr P19a R19a
  | .e => (.out (.r0 b.price b.rooms b.days 0 0 s.lo s.hi s.met fe (fnL L) own))
noncomputable def g19a (b : Book) (d : Int) (s : Sp) (fe : Int) (own : Int) (L : List Int) : P19a → List Item × St
  | .e => ([.code (asgOf (rangeOf Try.f7))], ⟨[uU, uU, .ref 0 0 0, uU, .ref 1 0 0, uU, .ref 2 0 0, uU, .ref 3 0 0, .ref 4 0 0, uU, uU, uU, uU, uU, uU, uU, uU, uU, uU, uU, uU, uU, uU, uU, uU, uU, uU, uU, uU, uU, iI own, .arr 1 3 (rowsFn tint (fnL L)), uU, uU, uU, uU, uU, uU, uU, uU, uU, uU, uU, uU, uU, uU, uU, uU, uU, uU, uU, uU, uU, uU, uU, uU, uU], [.cells (cC b), .cells [iI 0, iI 0], .cells [lk (lookOf b d)], .cells [iI s.lo, iI s.hi, iI s.met], .cells [iI fe]], []⟩)
noncomputable def n19a (b : Book) (d : Int) (s : Sp) (fe : Int) (own : Int) (L : List Int) : R19a → Exit × St
  | .r0 r0 r1 r2 r3 r4 r5 r6 r7 r8 r9 r10 => (.normal, ⟨mk 58 [(2, .ref 0 0 0), (4, .ref 1 0 0), (6, .ref 2 0 0), (8, .ref 3 0 0), (9, .ref 4 0 0), (11, iI r10), (12, .ref 5 0 0)], [.cells [iI r0, tRoom.lst r1, tDay.lst r2], .cells [iI r3, iI r4], .cells [lk (lookOf b d)], .cells [iI r5, iI r6, iI r7], .cells [iI r8], .rows 71 1 3 (rowsFn tint r9)], []⟩)
theorem s19a (b : Book) (d : Int) (s : Sp) (fe : Int) (own : Int) (L : List Int) : Sm 5 (g19a b d s fe own L) (T19a b d s fe own L) (n19a b d s fe own L)
  | .e => ⟨400, by kernel_rfl⟩
inductive P19b
  | e
inductive R19b
  | r0 (r0 : Int) (r1 : List Room) (r2 : List Day) (r3 : Int) (r4 : Int) (r5 : Int) (r6 : Int) (r7 : Int) (r8 : Int)
noncomputable def T19b (b : Book) (d : Int) (s : Sp) (fe : Int) (own : Int) (L : List Int) : P19b → Tr P19b R19b
  | .e => let c5 := rowsFn tint (fnL L); let c6 := lookOf b d; let c7 := own * b.price; let c1 := (c7.tdiv (2 : Int)) + (fe + (extraR c6.b L)); let c2 := c7 + (fe + (extraR c6.b L)); let c3 : List Blk := [.cells (cC b), .cells [iI 0, iI 0], .cells [lk c6], .cells [iI ((addS s c1).lo), iI ((addS s c1).hi), iI ((addS s c1).met)], .cells [iI fe], .rows 71 1 3 c5]; let c4 := addS (addS s c1) c2; (.front [(3, 19, [lk c6, .arr 1 3 c5], iI (extraR c6.b L))] [] ((true && (true && (true && (true && true)))) && true) true (.need (inR .i64 (fe + (extraR c6.b L))) (.need (inR .i64 c7) (.need (decide ((2 : Int) ≠ 0) && inR .i64 (c7.tdiv (2 : Int))) (.need (inR .i64 c1) (.hcall 20 [.ref 3 0 0, iI c1] (.tuple []) [.cells (cC b), .cells [iI 0, iI 0], .cells [lk c6], .cells [iI s.lo, iI s.hi, iI s.met], .cells [iI fe], .rows 71 1 3 c5] c3 true (.need (inR .i64 c7) (.need (inR .i64 c2) (.hcall 20 [.ref 3 0 0, iI c2] (.tuple []) c3 [.cells (cC b), .cells [iI 0, iI 0], .cells [lk c6], .cells [iI (c4.lo), iI (c4.hi), iI (c4.met)], .cells [iI fe], .rows 71 1 3 c5] true (.out (.r0 b.price b.rooms b.days 0 0 (c4.lo) (c4.hi) (c4.met) fe)))))))))))
noncomputable def g19b (b : Book) (d : Int) (s : Sp) (fe : Int) (own : Int) (L : List Int) : P19b → List Item × St
  | .e => ([.code (bdyOf (rangeOf Try.f7))], ⟨[uU, uU, .ref 0 0 0, uU, .ref 1 0 0, uU, .ref 2 0 0, uU, .ref 3 0 0, .ref 4 0 0, uU, iI own, .ref 5 0 0, uU, uU, uU, uU, uU, uU, uU, uU, uU, uU, uU, uU, uU, uU, uU, uU, uU, uU, uU, uU, uU, uU, uU, uU, uU, uU, uU, uU, uU, uU, uU, uU, uU, uU, uU, uU, uU, uU, uU, uU, uU, uU, uU, uU, uU], [.cells (cC b), .cells [iI 0, iI 0], .cells [lk (lookOf b d)], .cells [iI s.lo, iI s.hi, iI s.met], .cells [iI fe], .rows 71 1 3 (rowsFn tint (fnL L))], []⟩)
noncomputable def n19b (b : Book) (d : Int) (s : Sp) (fe : Int) (own : Int) (L : List Int) : R19b → Exit × St
  | .r0 r0 r1 r2 r3 r4 r5 r6 r7 r8 => (.normal, ⟨mk 58 [], [.cells [iI r0, tRoom.lst r1, tDay.lst r2], .cells [iI r3, iI r4], .cells [lk (lookOf b d)], .cells [iI r5, iI r6, iI r7], .cells [iI r8]], []⟩)
theorem s19b (b : Book) (d : Int) (s : Sp) (fe : Int) (own : Int) (L : List Int) : Sm 5 (g19b b d s fe own L) (T19b b d s fe own L) (n19b b d s fe own L)
  | .e => ⟨400, by kernel_rfl⟩
theorem stopT : ∀ n k, stopK (fun _ => true) k n = k + n
  | 0, k => rfl
  | n + 1, k => by
    show (bif true then stopK (fun _ => true) (k + 1) n else k) = _
    rw [cond_true, stopT n (k + 1)]; omega
theorem AWP.rangeT {P : Program} {m : Nat} {S : St} {g : Operand} {ps : Array Tmp} {assign body : Code} {f : FuncId} {caps ys : List V} {H : Nat → List Blk}
    (hg : S.eval g = .func (.func f) [] caps) (hcaps : underL 0 caps = true) (hcf : ∀ xs w, (callFunc f xs).run P w = .ok (.enter f xs) w) (hit : Iter P f caps ys) (hH0 : H 0 = S.h) (hlen : ∀ k, (H k).length = S.h.length) (hne : ∀ k, noExt (H k) = true) (hd : S.d = [])
    (hround : ∀ (l : Nat) (k : Nat) (us : List V), ys[k]? = some (.tuple us) → us.length = ps.size ∧
      AWP P ⟨some l, S.h.length⟩ assign ⟨setPs ps.toList us S.t, H k, []⟩ fun e S1 => e = .normal ∧ noExt S1.h = true ∧
        AWP P ⟨some l, S.h.length⟩ body S1 fun e S2 => e = .normal ∧ S2.h = H (k + 1)) :
    AWP P ⟨none, m⟩ (.rangeFunc g ps assign body) S fun e T => e = .normal ∧ T = ⟨S.t, H ys.length ++ [.obj (.deferred (some []))], [S.h.length]⟩ := by
  refine AWP.range (go := fun _ => true) (jx := .ret) (jc := .ret) hg hcaps hcf hit hH0 hlen (fun k => .of_no (hne k)) (fun k j hj => by rw [hd] at hj; cases hj) rfl rfl (fun l k us h1 _ => ?_) ?_
  · obtain ⟨p1, p2⟩ := hround l k us h1
    exact ⟨p1, p2.mono fun e S1 ⟨q1, q2, q3⟩ => ⟨q1, .of_no q2, q3⟩⟩
  · refine ⟨by cases stopK (fun _ => true) 0 ys.length <;> rfl, ?_⟩
    rw [stopT, Nat.zero_add, hd]
def moreD (b : Book) (d : Int) (L : List Int) : Int := feesD b d + extraR b L
def couldG (b : Book) (d : Int) (s : Sp) (p : Int × List Int) : Sp := addS (addS s ((p.1 * b.price).tdiv 2 + moreD b d p.2)) (p.1 * b.price + moreD b d p.2)
def couldK (b : Book) (d : Int) (k : Nat) : Sp := ((stoodL b d).take k).foldl (couldG b d) ⟨0, 0, 0⟩
def couldS (b : Book) (d : Int) : Sp := (stoodL b d).foldl (couldG b d) ⟨0, 0, 0⟩
theorem addS_met (s : Sp) (n : Int) (h : 0 ≤ s.met) : 0 ≤ (addS s n).met ∧ (addS s n).met = s.met + 1 := by
  unfold addS
  by_cases h0 : s.met = 0
  · rw [if_pos h0]; exact ⟨(show (0 : Int) ≤ 1 by decide), by show (1 : Int) = s.met + 1; omega⟩
  · rw [if_neg h0]; exact ⟨by simp only; omega, rfl⟩
theorem couldG_met (b : Book) (d : Int) (s : Sp) (p : Int × List Int) (h : 0 ≤ s.met) : (couldG b d s p).met = s.met + 2 := by
  unfold couldG
  have h1 := addS_met s ((p.1 * b.price).tdiv 2 + moreD b d p.2) h
  have h2 := addS_met _ (p.1 * b.price + moreD b d p.2) h1.1
  omega
theorem could_met (b : Book) (d : Int) : ∀ (l : List (Int × List Int)) (s : Sp), 0 ≤ s.met → (l.foldl (couldG b d) s).met = s.met + 2 * (l.length : Int)
  | [], s, _ => by simp
  | p :: l, s, h => by
    have h1 := couldG_met b d s p h
    rw [List.foldl_cons, could_met b d l _ (by omega), h1, List.length_cons]; omega
theorem stood_len {b : Book} {d : Int} (h : OkBook b) (hd : OkDay b (dayOf b d)) : (stoodL b d).length ≤ 14000000 := by
  have h1 := flat_le (l := rangeI (firstN b d) (doorS b d).hi) (f := fun n => (inRoomsR b d n []).map fun L => (n - pupilsD b d, L)) (b := 226981) fun n _ => by rw [List.length_map]; exact inRooms_len h hd n []
  have h2 := doorS_in hd
  have h3 := pupils_in hd
  have h4 : pupilsD b d ≤ firstN b d := by unfold firstN; omega
  rw [rangeI_len] at h1
  unfold stoodL; omega
theorem couldK_succ {b : Book} {d : Int} {k : Nat} {p : Int × List Int} (hk : (stoodL b d)[k]? = some p) : couldK b d (k + 1) = couldG b d (couldK b d k) p := by
  obtain ⟨hl, he⟩ := List.getElem?_eq_some_iff.1 hk
  unfold couldK
  rw [take_snoc (0, []) _ k hl, List.foldl_append, List.getD_eq_getElem?_getD, hk]; rfl
abbrev HC (b : Book) (d : Int) (s : Sp) : List Blk := [.cells (tBook.cells b), .cells [iI 0, iI 0], .cells [lk (lookOf b d)], .cells (tSp.cells s), .cells [iI (feesD b d)]]
set_option maxHeartbeats 4000000 in
theorem body19 (b : Book) (d : Int) (ha : askedR b d = 0) (lid k : Nat) (p : Int × List Int) (hk : (stoodL b d)[k]? = some p) :
    AWP Try.prog ⟨some lid, 5⟩ (bdyOf (rangeOf Try.f7)) (g19b b d (couldK b d k) (feesD b d) p.1 p.2 .e).2 fun e S2 => e = .normal ∧ S2.h = HC b d (couldK b d (k + 1)) := by
  obtain ⟨own, L⟩ := p
  obtain ⟨h, hd1, hd2, hday⟩ := asked_ok ha
  obtain ⟨hown, hLl, hLn⟩ := stood_in h hday _ (List.mem_of_getElem? hk)
  simp only at hown hLl hLn
  have hsu := couldK_succ hk
  have hkl := (List.getElem?_eq_some_iff.1 hk).1
  have hsl := stood_len h hday
  have hmet : 0 ≤ (couldK b d k).met ∧ (couldK b d k).met ≤ 30000000 := by
    have := could_met b d ((stoodL b d).take k) ⟨0, 0, 0⟩ (Int.le_refl _)
    rw [List.length_take] at this
    unfold couldK; simp only at this; omega
  rw [hsu]
  generalize couldK b d k = s at *
  have hp := half_in h
  have k68 := c68 (lookOf b d) L h hLn hLl
  have hex := extraR_in h hLl hLn
  have hfe := feesD_in h hday
  have hmul := half_mul h hown
  have hcm : own * b.price = b.price * own := Int.mul_comm _ _
  have hbk : (lookOf b d).b = b := rfl
  have hmo : feesD b d + extraR b L = moreD b d L := rfl
  have hmi : 0 ≤ moreD b d L ∧ moreD b d L ≤ 7000000 := by unfold moreD; omega
  have hhf : 0 ≤ (own * b.price).tdiv 2 ∧ (own * b.price).tdiv 2 ≤ 3600 := by
    rw [Int.tdiv_eq_ediv_of_nonneg (by omega)]; omega
  have q1 : inR .i64 (moreD b d L) = true := inR64 (by omega) (by omega)
  have q2 : inR .i64 (own * b.price) = true := inR64 (by omega) (by omega)
  have q3 : inR .i64 ((own * b.price).tdiv 2) = true := inR64 (by omega) (by omega)
  have q4 : inR .i64 ((own * b.price).tdiv 2 + moreD b d L) = true := inR64 (by omega) (by omega)
  have q5 : inR .i64 (own * b.price + moreD b d L) = true := inR64 (by omega) (by omega)
  have hG : couldG b d s (own, L) = addS (addS s ((own * b.price).tdiv 2 + moreD b d L)) (own * b.price + moreD b d L) := rfl
  have a1 := fun {hh : List Blk} {i : Nat} (hi : hh[i]? = some (.cells (tSp.cells s))) => addAt (c69 s ((own * b.price).tdiv 2 + moreD b d L) ⟨hmet.1, by omega⟩) hi
  have m1 := addS_met s ((own * b.price).tdiv 2 + moreD b d L) hmet.1
  have a2 := fun {hh : List Blk} {i : Nat} (hi : hh[i]? = some (.cells (tSp.cells (addS s ((own * b.price).tdiv 2 + moreD b d L))))) => addAt (c69 (addS s ((own * b.price).tdiv 2 + moreD b d L)) (own * b.price + moreD b d L) ⟨m1.1, by omega⟩) hi
  rw [hG]
  refine AWP.wp mx (T19b b d s (feesD b d) own L) (g19b b d s (feesD b d) own L) (n19b b d s (feesD b d) own L) .e rfl (s19b b d s (feesD b d) own L)
    (post := fun r => (n19b b d s (feesD b d) own L r).1 = .normal ∧ (n19b b d s (feesD b d) own L r).2.h = HC b d (addS (addS s ((own * b.price).tdiv 2 + moreD b d L)) (own * b.price + moreD b d L))) ?_ (fun r hr => hr)
  refine WP.step ?_
  simp only [T19b, Go, Ends', Tr.sure, SS, hbk, hmo]
  repeat' with_reducible first | intro _ | apply And.intro
  all_goals first | exact k68 | exact (a1 rfl) | exact (a2 rfl) | (simp [q1, q2, q3, q4, q5, Go, Ends', -List.getD_eq_getElem?_getD, *]; done) | (simp_all [q1, q2, q3, q4, q5, Go, Ends', -List.getD_eq_getElem?_getD]; done) | skip
  all_goals exact rfl
abbrev t19 (b : Book) (d : Int) : List V := [uU, uU, .ref 0 0 0, uU, .ref 1 0 0, uU, .ref 2 0 0, uU, .ref 3 0 0, .ref 4 0 0] ++ List.replicate 20 uU ++ [fG 36 [rR (lk (lookOf b d))]] ++ List.replicate 27 uU
theorem range19 (b : Book) (d : Int) (ha : askedR b d = 0) :
    AWP Try.prog ⟨none, 0⟩ (rangeOf Try.f7) ⟨t19 b d, HC b d ⟨0, 0, 0⟩, []⟩ (fun e T => e = .normal ∧ T = ⟨t19 b d, HC b d (couldS b d) ++ [.obj (.deferred (some []))], [5]⟩) := by
  have e : rangeOf Try.f7 = .rangeFunc (.tmp 30) #[31, 32] (asgOf (rangeOf Try.f7)) (bdyOf (rangeOf Try.f7)) := by kernel_rfl
  have hlen : (ysX (lookOf b d)).length = (stoodL b d).length := by rw [ysX_look, List.length_map]
  have hend : couldK b d (stoodL b d).length = couldS b d := by unfold couldK couldS; rw [List.take_length]
  rw [e]
  refine (AWP.rangeT (H := fun k => HC b d (couldK b d k)) (f := 36) (ys := ysX (lookOf b d)) (caps := [rR (lk (lookOf b d))])
    rfl rfl (PCalls.enters Try.func36 (c := Try.f36.body.getD .skip) (by kernel_rfl) (by kernel_rfl)) (c104 (lookOf b d) (okX_look ha)) rfl (fun _ => rfl) (fun _ => rfl) rfl (fun lid k us hk => ?_)).mono fun e T ⟨h1, h2⟩ => ⟨h1, by rw [h2, hlen, hend]; rfl⟩
  obtain ⟨p, hp, hy⟩ : ∃ p, (stoodL b d)[k]? = some p ∧ yV p.1 (fnL p.2) = .tuple us := by
    rw [ysX_look, List.getElem?_map] at hk
    cases hf : (stoodL b d)[k]? with
    | none => rw [hf] at hk; cases hk
    | some f => rw [hf] at hk; exact ⟨f, rfl, Option.some.inj hk⟩
  obtain rfl : us = [iI p.1, .arr 1 3 (rowsFn tint (fnL p.2))] := by unfold yV at hy; cases hy; rfl
  refine ⟨rfl, ?_⟩
  refine AWP.forget (t := (setPs [31, 32] [iI p.1, .arr 1 3 (rowsFn tint (fnL p.2))] (t19 b d)).set 30 uU) (by simp) (forget_set _ 30) ?_
  refine AWP.wp mx (T19a b d (couldK b d k) (feesD b d) p.1 p.2) (g19a b d (couldK b d k) (feesD b d) p.1 p.2) (n19a b d (couldK b d k) (feesD b d) p.1 p.2) .e rfl (s19a b d (couldK b d k) (feesD b d) p.1 p.2)
    (post := fun r => (n19a b d (couldK b d k) (feesD b d) p.1 p.2 r).1 = .normal ∧ (n19a b d (couldK b d k) (feesD b d) p.1 p.2 r).2 = (g19b b d (couldK b d k) (feesD b d) p.1 p.2 .e).2) ?_ (fun r hr => ?_)
  · refine WP.step ?_
    simp only [T19a, Go, Ends', Tr.sure, SS]
    repeat' with_reducible first | intro _ | apply And.intro
    all_goals exact rfl
  · rw [hr.2]
    exact ⟨hr.1, rfl, body19 b d ha lid k p hp⟩
inductive P19_o
  | e
inductive R19_o
  | r0 (r0_0 : Int) (r0_1 : Int) (r1 : Int)
noncomputable def T19_o (b : Book) (d : Int) : P19_o → Tr P19_o R19_o
  | .e => let c2 := lookOf b d; let c1 : List V := [uU, uU, .ref 0 0 0, uU, .ref 1 0 0, uU, .ref 2 0 0, uU, .ref 3 0 0, .ref 4 0 0, uU, uU, uU, uU, uU, uU, uU, uU, uU, uU, uU, uU, uU, uU, uU, uU, uU, uU, uU, uU, fG 36 [rR (lk c2)], uU, uU, uU, uU, uU, uU, uU, uU, uU, uU, uU, uU, uU, uU, uU, uU, uU, uU, uU, uU, uU, uU, uU, uU, uU, uU, uU]; let c3 := couldS b d; let c4 : List V := [iI (c3.lo), iI (c3.hi), iI (c3.met)]; let c5 := feesR c2.b c2.day; (.call 16 [.agg (cC b), iI d] (.tuple [lk c2, iI 0]) true true (.lit false (.call 17 [lk c2] (.tuple [iI c5, iI (pupilsR c2.day)]) true true (.call 18 [lk c2] (fG 36 [rR (lk c2)]) true true (.wait 1 (.drop ⟨[uU, uU, .nil, uU, .nil, uU, .nil, uU, .nil, .nil, uU, uU, uU, uU, uU, uU, uU, uU, uU, uU, uU, uU, uU, uU, uU, uU, uU, uU, uU, uU, .nil, uU, uU, uU, uU, uU, uU, uU, uU, uU, uU, uU, uU, uU, uU, uU, uU, uU, uU, uU, uU, uU, uU, uU, uU, uU, uU, uU], [.void, .void, .void, .void, .void], []⟩ (.over (rangeOf Try.f7) ⟨c1, [.cells (cC b), .cells [iI 0, iI 0], .cells [lk c2], .cells [iI 0, iI 0, iI 0], .cells [iI c5]], []⟩ .normal ⟨c1, [.cells (cC b), .cells [iI 0, iI 0], .cells [lk c2], .cells c4, .cells [iI c5], .obj (.deferred (some []))], [5]⟩ true (.br (c3.met == (0 : Int)) (.out (.r0 0 0 8)) (.call 21 [.cref 3 fun q => (c4 : List V).getD q uU] (.agg [iI (c3.lo), iI (c3.hi)]) true true (.out (.r0 (c3.lo) (c3.hi) 0)))))))))))
noncomputable def g19_o (b : Book) (d : Int) : P19_o → List Item × St
  | .e => bd Try.f7 [.agg (cC b), iI d] 56
noncomputable def n19_o : R19_o → Exit × St
  | .r0 r0_0 r0_1 r1 => (.ret, ⟨mk 58 [(4, .ref 1 0 0), (5, iI r1)], [.gone, .cells [iI r0_0, iI r0_1], .gone, .gone, .gone, .obj (.deferred (some []))], [5]⟩)
noncomputable def v19_o : R19_o → V
  | .r0 r0_0 r0_1 r1 => .tuple [.agg [iI r0_0, iI r0_1], iI r1]
theorem s19_o (b : Book) (d : Int) : Sm 0 (g19_o b d) (T19_o b d) (n19_o)
  | .e => ⟨400, by kernel_rfl⟩
theorem q19_o : ∀ r, bodyQ Try.prog Try.f7 (· = v19_o r) (n19_o r).1 (n19_o r).2
  | .r0 r0_0 r0_1 r1 => ⟨.inr rfl, by simp [n19_o], (.tuple [.agg [iI r0_0, iI r0_1], iI r1]), (.tuple [.agg [iI r0_0, iI r0_1], iI r1]), by kernel_rfl, (.imm rfl), rfl⟩
theorem w19_o (b : Book) (d : Int) {post : V → Prop} (h : WQ (T19_o b d) v19_o post .e) : PC 7 [.agg (cC b), iI d] post :=
  PCalls.wq Try.func7 (s19_o b d) q19_o h
inductive P19_e
  | e
inductive R19_e
  | r0 (r0_0 : Int) (r0_1 : Int) (r1 : Int)
noncomputable def T19_e (b : Book) (d : Int) : P19_e → Tr P19_e R19_e
  | .e => (.call 16 [.agg (cC b), iI d] (.tuple [.nil, iI (askedR b d)]) true true (.br ((askedR b d) != (0 : Int)) (.out (.r0 0 0 (askedR b d))) (.wait 2 .never)))
noncomputable def g19_e (b : Book) (d : Int) : P19_e → List Item × St
  | .e => bd Try.f7 [.agg (cC b), iI d] 56
noncomputable def n19_e : R19_e → Exit × St
  | .r0 r0_0 r0_1 r1 => (.ret, ⟨mk 58 [(4, .ref 1 0 0), (5, iI r1)], [.gone, .cells [iI r0_0, iI r0_1]], []⟩)
noncomputable def v19_e : R19_e → V
  | .r0 r0_0 r0_1 r1 => .tuple [.agg [iI r0_0, iI r0_1], iI r1]
theorem s19_e (b : Book) (d : Int) : Sm 0 (g19_e b d) (T19_e b d) (n19_e)
  | .e => ⟨400, by kernel_rfl⟩
theorem q19_e : ∀ r, bodyQ Try.prog Try.f7 (· = v19_e r) (n19_e r).1 (n19_e r).2
  | .r0 r0_0 r0_1 r1 => bq (.tuple [.agg [iI r0_0, iI r0_1], iI r1]) (by kernel_rfl)
theorem w19_e (b : Book) (d : Int) {post : V → Prop} (h : WQ (T19_e b d) v19_e post .e) : PC 7 [.agg (cC b), iI d] post :=
  PCalls.wq Try.func7 (s19_e b d) q19_e h
theorem could_step {b : Book} {d : Int} (h : OkBook b) (hday : OkDay b (dayOf b d)) {own : Int} {L : List Int} (hown : 0 ≤ own ∧ own ≤ 60) (hLl : L.length = b.rooms.length) (hLn : ∀ n ∈ L, 0 ≤ n ∧ n ≤ 60) {s : Sp} {t : Int × Int}
    (hs : (s.met = 0 ∧ t = (-1, 0)) ∨ (0 < s.met ∧ 0 ≤ s.lo ∧ t = (s.lo, s.hi) ∧ s.lo ≤ s.hi)) :
    0 < (couldG b d s (own, L)).met ∧ 0 ≤ (couldG b d s (own, L)).lo ∧ couldF b d (own + pupilsD b d) t L = ((couldG b d s (own, L)).lo, (couldG b d s (own, L)).hi) ∧ (couldG b d s (own, L)).lo ≤ (couldG b d s (own, L)).hi := by
  have hp := half_in h
  have hex := extraR_in h hLl hLn
  have hfe := feesD_in h hday
  have hmul := half_mul h hown
  have hcm : own * b.price = b.price * own := Int.mul_comm _ _
  have hh : (own * b.price).tdiv 2 = b.price.tdiv 2 * own := by
    have e : own * b.price = 2 * (b.price.tdiv 2 * own) := by
      rw [hcm]
      calc b.price * own = (2 * b.price.tdiv 2) * own := by rw [hp.2.2]
        _ = _ := Int.mul_assoc _ _ _
    rw [e, Int.tdiv_eq_ediv_of_nonneg (by omega)]; omega
  have hle : b.price.tdiv 2 * own ≤ b.price * own := by rw [← hcm] at hmul ⊢; rw [← hh, Int.tdiv_eq_ediv_of_nonneg (by omega)]; omega
  have hm0 : 0 ≤ s.met := by rcases hs with q | q <;> omega
  have hmt := couldG_met b d s (own, L) hm0
  unfold couldF couldG
  rw [Int.add_sub_cancel]
  show 0 < (addS (addS s ((own * b.price).tdiv 2 + moreD b d L)) (own * b.price + moreD b d L)).met ∧ _
  unfold moreD
  rw [hh, hcm]
  have hM : 0 ≤ b.price.tdiv 2 * own + (feesD b d + extraR b L) := by omega
  generalize b.price.tdiv 2 * own = A at *
  generalize b.price * own = B at *
  generalize feesD b d + extraR b L = M at *
  rcases hs with ⟨q1, q2⟩ | ⟨q1, q2, q3, q4⟩
  · subst q2
    have e1 : addS s (A + M) = ⟨A + M, A + M, 1⟩ := by unfold addS; rw [if_pos q1]
    rw [e1]
    have e2 : addS ⟨A + M, A + M, 1⟩ (B + M) = ⟨min (A + M) (B + M), max (A + M) (B + M), 1 + 1⟩ := rfl
    rw [e2]
    simp only
    refine ⟨by omega, by omega, ?_, by omega⟩
    rw [if_pos (.inl (by decide))]
    exact Prod.ext (by simp only; omega) (by simp only; omega)
  · subst q3
    have e1 : addS s (A + M) = ⟨min s.lo (A + M), max s.hi (A + M), s.met + 1⟩ := by unfold addS; rw [if_neg (by omega)]
    rw [e1]
    have e2 : addS ⟨min s.lo (A + M), max s.hi (A + M), s.met + 1⟩ (B + M) = ⟨min (min s.lo (A + M)) (B + M), max (max s.hi (A + M)) (B + M), s.met + 1 + 1⟩ := by unfold addS; rw [if_neg (by simp only; omega)]
    rw [e2]
    simp only
    refine ⟨by omega, by omega, ?_, by omega⟩
    split
    · rename_i hc
      exact Prod.ext (by simp only; omega) (by simp only; omega)
    · rename_i hc
      exact Prod.ext (by simp only; omega) (by simp only; omega)
theorem could_fold {b : Book} {d : Int} (h : OkBook b) (hday : OkDay b (dayOf b d)) : ∀ (l : List (Int × List Int)) (s : Sp) (t : Int × Int), (∀ p ∈ l, (0 ≤ p.1 ∧ p.1 ≤ 60) ∧ p.2.length = b.rooms.length ∧ ∀ n ∈ p.2, 0 ≤ n ∧ n ≤ 60) →
    ((s.met = 0 ∧ t = (-1, 0)) ∨ (0 < s.met ∧ 0 ≤ s.lo ∧ t = (s.lo, s.hi) ∧ s.lo ≤ s.hi)) →
    ((l.foldl (couldG b d) s).met = 0 ∧ l.foldl (fun t p => couldF b d (p.1 + pupilsD b d) t p.2) t = (-1, 0)) ∨ (0 < (l.foldl (couldG b d) s).met ∧ 0 ≤ (l.foldl (couldG b d) s).lo ∧ l.foldl (fun t p => couldF b d (p.1 + pupilsD b d) t p.2) t = ((l.foldl (couldG b d) s).lo, (l.foldl (couldG b d) s).hi) ∧ (l.foldl (couldG b d) s).lo ≤ (l.foldl (couldG b d) s).hi)
  | [], s, t, _, hs => hs
  | (own, L) :: l, s, t, hl, hs => by
    obtain ⟨h1, h2, h3⟩ := hl _ List.mem_cons_self
    obtain ⟨q1, q2, q3, q4⟩ := could_step h hday h1 h2 h3 hs
    exact could_fold h hday l _ _ (fun p hp => hl p (List.mem_cons_of_mem _ hp)) (.inr ⟨q1, q2, q3, q4⟩)
theorem couldD_eq (b : Book) (d : Int) : (stoodL b d).foldl (fun t p => couldF b d (p.1 + pupilsD b d) t p.2) (-1, 0) = couldD b d := by
  unfold stoodL couldD
  rw [List.foldl_flatMap]
  congr 1
  funext t n
  rw [List.foldl_map]
  unfold couldN
  congr 1
  funext t L
  simp only [Int.sub_add_cancel]
theorem couldS_eq {b : Book} {d : Int} (ha : askedR b d = 0) : couldR b d = if (couldS b d).met = 0 then (⟨0, 0⟩, 8) else (⟨(couldS b d).lo, (couldS b d).hi⟩, 0) := by
  obtain ⟨h, hd1, hd2, hday⟩ := asked_ok ha
  have hf := could_fold h hday (stoodL b d) ⟨0, 0, 0⟩ (-1, 0) (stood_in h hday) (.inl ⟨rfl, rfl⟩)
  rw [couldD_eq] at hf
  unfold couldR
  rw [if_neg (fun q => q ha)]
  change (((couldS b d).met = 0 ∧ couldD b d = (-1, 0)) ∨ (0 < (couldS b d).met ∧ 0 ≤ (couldS b d).lo ∧ couldD b d = ((couldS b d).lo, (couldS b d).hi) ∧ (couldS b d).lo ≤ (couldS b d).hi)) at hf
  rcases hf with ⟨h1, h2⟩ | ⟨h1, h2, h3, _⟩
  · rw [h2, if_pos h1]; rfl
  · rw [h3, if_neg (show ¬ (couldS b d).lo < 0 by omega), if_neg (by omega)]
theorem c19 (b : Book) (d : Int) (hs : SmB b) : PC 7 [.agg (tBook.cells b), iI d] (· = .tuple [.agg (tSpan.cells (couldR b d).1), iI (couldR b d).2]) := by
  by_cases h : askedR b d = 0
  · have hk := lookOf_ok h
    have k63 := c63y b d h
    have k64 := c64 (lookOf b d) hk
    have k67 := c67 (lookOf b d)
    have hr := range19 b d h
    have k70 := c70 (couldS b d)
    rw [couldS_eq h]
    by_cases hm : (couldS b d).met = 0
    · rw [if_pos hm]
      have hmb : ((couldS b d).met == 0) = true := by simpa using hm
      refine w19_o b d (WP.step ?_)
      simp only [T19_o, Go, Ends', v19_o, Tr.sure, SS, hmb]
      repeat' with_reducible first | intro _ | apply And.intro
      all_goals first | exact k63 | exact k64 | exact k67 | exact hr | (simp [tSpan, Go, Ends', v19_o, -List.getD_eq_getElem?_getD, *]; done)
    · rw [if_neg hm]
      have hmb : ((couldS b d).met == 0) = false := by simpa using hm
      refine w19_o b d (WP.step ?_)
      simp only [T19_o, Go, Ends', v19_o, Tr.sure, SS, hmb]
      repeat' with_reducible first | intro _ | apply And.intro
      all_goals first | exact k63 | exact k64 | exact k67 | exact hr | exact k70 | (simp [tSpan, Go, Ends', v19_o, -List.getD_eq_getElem?_getD, *]; done)
  · have e : couldR b d = (⟨0, 0⟩, askedR b d) := by unfold couldR; rw [if_pos h]
    have k63 := c63n b d hs h
    rw [e]
    refine w19_e b d (WP.step ?_)
    simp only [T19_e, Go, Ends', v19_e, Tr.sure, SS, h]
    repeat' with_reducible first | intro _ | apply And.intro
    all_goals first | exact k63 | (simp [tSpan, Go, Ends', v19_e, -List.getD_eq_getElem?_getD, *]; done)
end
noncomputable section
inductive P140
  | e
inductive R140
  | r0 (r0 : Bool)
noncomputable def T140 (x : Int) : P140 → Tr P140 R140
  | .e => (.out (.r0 (x != x)))
noncomputable def g140 (x : Int) : P140 → List Item × St
  | .e => bd Try.f92 [iI x] 5
noncomputable def n140 : R140 → Exit × St
  | .r0 r0 => (.ret, ⟨mk 6 [(2, .bool r0)], [], []⟩)
noncomputable def v140 : R140 → V
  | .r0 r0 => .bool r0
theorem s140 (x : Int) : Sm 0 (g140 x) (T140 x) (n140)
  | .e => ⟨400, by kernel_rfl⟩
theorem q140 : ∀ r, bodyQ Try.prog Try.f92 (· = v140 r) (n140 r).1 (n140 r).2
  | .r0 r0 => bq (.bool r0) (by kernel_rfl)
theorem w140 (x : Int) {post : V → Prop} (h : WQ (T140 x) v140 post .e) : PC 92 [iI x] post :=
  PCalls.wq Try.func92 (s140 x) q140 h
theorem c140 (x : Int) : PC 92 [iI x] (· = .bool false) := by
  refine w140 _ (WP.step ?_)
  simp only [T140, Go, Ends', v140, Tr.sure, SS]
  repeat' with_reducible first | intro _ | apply And.intro
  all_goals simp [Go, Ends', v140, -List.getD_eq_getElem?_getD, *]
def cmpI (x y : Int) : Int := if x < y then -1 else if x > y then 1 else 0
inductive P122
  | e
inductive R122
  | r0 (r0 : Int)
noncomputable def T122 (x : Int) (y : Int) : P122 → Tr P122 R122
  | .e => (.call 92 [iI x] (.bool false) true true (.call 92 [iI y] (.bool false) true true (.lit false (.lit false (.br (decide (x < y)) (.out (.r0 (-1))) (.br (decide (x > y)) (.out (.r0 1)) (.out (.r0 0))))))))
noncomputable def g122 (x : Int) (y : Int) : P122 → List Item × St
  | .e => bd Try.f70 [iI x, iI y] 18
noncomputable def n122 : R122 → Exit × St
  | .r0 r0 => (.ret, ⟨mk 20 [(4, iI r0)], [], []⟩)
noncomputable def v122 : R122 → V
  | .r0 r0 => iI r0
theorem s122 (x : Int) (y : Int) : Sm 0 (g122 x y) (T122 x y) (n122)
  | .e => ⟨400, by kernel_rfl⟩
theorem q122 : ∀ r, bodyQ Try.prog Try.f70 (· = v122 r) (n122 r).1 (n122 r).2
  | .r0 r0 => bq (iI r0) (by kernel_rfl)
theorem w122 (x : Int) (y : Int) {post : V → Prop} (h : WQ (T122 x y) v122 post .e) : PC 70 [iI x, iI y] post :=
  PCalls.wq Try.func70 (s122 x y) q122 h
theorem c122 (x y : Int) : PC 70 [iI x, iI y] (· = iI (cmpI x y)) := by
  refine w122 _ _ (WP.step ?_)
  simp only [T122, Go, Ends', v122, Tr.sure, SS]
  repeat' with_reducible first | intro _ | apply And.intro
  all_goals first | exact (c140 _) | (simp [cmpI, Go, Ends', v122, -List.getD_eq_getElem?_getD, *]; done)
def cmpL : List Int → List Int → Int
  | [], [] => 0
  | [], _ :: _ => -1
  | _ :: _, [] => 1
  | x :: a, y :: b => if cmpI x y ≠ 0 then cmpI x y else cmpL a b
theorem cmpL_less : ∀ a b : List Int, decide (cmpL a b < 0) = less a b
  | [], [] => rfl
  | [], _ :: _ => rfl
  | _ :: _, [] => rfl
  | x :: a, y :: b => by
    have ih := cmpL_less a b
    simp only [cmpL, less, cmpI]
    by_cases h : x = y
    · subst h; simp [ih]
    · by_cases h1 : x < y
      · simp [h, h1]
      · have h2 : x > y := by omega
        simp [h, h1, h2]
theorem cmpL_drop (a b : List Int) {i : Nat} (ha : i < a.length) (hb : i < b.length) : cmpL (a.drop i) (b.drop i) = if cmpI (a.getD i 0) (b.getD i 0) ≠ 0 then cmpI (a.getD i 0) (b.getD i 0) else cmpL (a.drop (i + 1)) (b.drop (i + 1)) := by
  rw [drop_cons 0 a i ha, drop_cons 0 b i hb]; rfl
theorem cmpL_more (a b : List Int) {i : Nat} (ha : i < a.length) (hb : b.length ≤ i) : cmpL (a.drop i) (b.drop i) = 1 := by
  rw [drop_cons 0 a i ha, List.drop_eq_nil_of_le hb]; rfl
theorem cmpL_end (a b : List Int) : cmpL (a.drop a.length) (b.drop a.length) = if a.length < b.length then -1 else 0 := by
  rw [List.drop_length]
  by_cases h : a.length < b.length
  · rw [drop_cons 0 b _ h, if_pos h]; rfl
  · rw [List.drop_eq_nil_of_le (by omega), if_neg h]; rfl
inductive P87
  | e
  | l0 (x0_11 : Int)
inductive R87
  | r0 (r0 : Int)
noncomputable def T87 (p0 : List Int) (p1 : List Int) : P87 → Tr P87 R87
  | .e => (.go (.l0 0))
  | .l0 x0_11 => let c1 := cmpI (p0.getD (x0_11).toNat tint.zero) (p1.getD (x0_11).toNat tint.zero); let c2 := (p1.length : Int); let c3 := (p0.length : Int); (.br (decide (x0_11 < c3)) (.need (decide (0 ≤ x0_11) && decide (x0_11 < c3)) (.br (decide (x0_11 ≥ c2)) (.out (.r0 1)) (.need (decide (0 ≤ x0_11) && decide (x0_11 < c2)) (.call 70 [iI (p0.getD (x0_11).toNat tint.zero), iI (p1.getD (x0_11).toNat tint.zero)] (iI c1) true true (.br (c1 != (0 : Int)) (.out (.r0 c1)) (.need (inR .i64 (x0_11 + (1 : Int))) (.go (.l0 (x0_11 + (1 : Int)))))))))) (.br (decide (c3 < c2)) (.out (.r0 (-1))) (.out (.r0 0))))
noncomputable def g87 (p0 : List Int) (p1 : List Int) : P87 → List Item × St
  | .e => bd Try.f50 [tint.lst p0, tint.lst p1] 34
  | .l0 x0_11 => (cutOf Try.f50 0, ⟨mk 36 [(0, tint.lst p0), (1, tint.lst p1), (9, tint.lst p0), (10, iI (p0.length : Int)), (11, iI x0_11)], [], []⟩)
noncomputable def n87 : R87 → Exit × St
  | .r0 r0 => (.ret, ⟨mk 36 [(4, iI r0)], [], []⟩)
noncomputable def v87 : R87 → V
  | .r0 r0 => iI r0
theorem s87 (p0 : List Int) (p1 : List Int) : Sm 0 (g87 p0 p1) (T87 p0 p1) (n87)
  | .e => ⟨400, by kernel_rfl⟩
  | .l0 _ => ⟨400, by kernel_rfl⟩
theorem q87 : ∀ r, bodyQ Try.prog Try.f50 (· = v87 r) (n87 r).1 (n87 r).2
  | .r0 r0 => bq (iI r0) (by kernel_rfl)
theorem w87 (p0 : List Int) (p1 : List Int) {post : V → Prop} (h : WQ (T87 p0 p1) v87 post .e) : PC 50 [tint.lst p0, tint.lst p1] post :=
  PCalls.wq Try.func50 (s87 p0 p1) q87 h
theorem e87 : ∀ xs w, (callFunc 50 xs).run Try.prog w = .ok (.enter 50 xs) w := PCalls.enters Try.func50 (c := Try.f50.body.getD .skip) (by kernel_rfl) (by kernel_rfl)
theorem c87 (a b : List Int) : PC 50 [tint.lst a, tint.lst b] (· = iI (cmpL a b)) := by
  refine PCalls.assume e87 0 (by simp) .list fun hl => ?_
  refine w87 _ _ (WP.step ?_)
  simp only [T87, Go, Ends', v87, Tr.sure, SS]
  repeat' with_reducible first | intro _ | apply And.intro
  refine WP.count (fun i => .l0 (i : Int)) rfl a.length (fun i => cmpL a b = cmpL (a.drop i) (b.drop i)) rfl (fun i hi hI => ?_) fun hI => ?_
  · have hr := inRi hi hl
    have hi' : (i : Int) < a.length := by omega
    by_cases hb : i < b.length
    · have hb' : ¬ (b.length : Int) ≤ (i : Int) := by omega
      have hb2 : (i : Int) < b.length := by omega
      have hd := cmpL_drop a b hi hb
      have hd1 : cmpI (a.getD i 0) (b.getD i 0) = 0 → cmpL a b = cmpL (a.drop (i + 1)) (b.drop (i + 1)) := fun h => by rw [hI, hd, if_neg (by simpa using h)]
      have hd2 : ¬ cmpI (a.getD i 0) (b.getD i 0) = 0 → cmpL a b = cmpI (a.getD i 0) (b.getD i 0) := fun h => by rw [hI, hd, if_pos h]
      clear hI hd
      refine WP.once ?_
      simp only [T87, Tr.sure, SS, hi', hb', hb2, z1]
      repeat' with_reducible first | intro _ | apply And.intro
      all_goals first | exact (c122 _ _) | (simp [hr, Go, Ends', v87, -List.getD_eq_getElem?_getD, *]; done)
      all_goals (right; simp only [Go, Ends', v87]; rw [hd2 (by assumption)])
    · have hb' : (b.length : Int) ≤ (i : Int) := by omega
      have hm : cmpL a b = 1 := by rw [hI]; exact cmpL_more a b hi (by omega)
      clear hI
      refine WP.once ?_
      simp only [T87, Tr.sure, SS, hi', hb', z1]
      repeat' with_reducible first | intro _ | apply And.intro
      all_goals simp [hr, hm, Go, Ends', v87, -List.getD_eq_getElem?_getD, *]
  · have he : cmpL a b = if (a.length : Int) < (b.length : Int) then -1 else 0 := by rw [hI, cmpL_end]; simp only [Int.ofNat_lt]
    refine WP.step ?_
    simp only [T87, Go, Ends', v87, Tr.sure, SS, Int.lt_irrefl]
    repeat' with_reducible first | intro _ | apply And.intro
    all_goals simp [he, Go, Ends', v87, -List.getD_eq_getElem?_getD, *]
theorem span_fold (f : Truth → Int) : ∀ (l : List Truth) (s : Sp), 0 < s.met →
    l.foldl (fun s t => addS s (f t)) s = ⟨(l.foldl (fun (p : Int × Int) t => (min p.1 (f t), max p.2 (f t))) (s.lo, s.hi)).1, (l.foldl (fun (p : Int × Int) t => (min p.1 (f t), max p.2 (f t))) (s.lo, s.hi)).2, s.met + l.length⟩
  | [], s, _ => by simp
  | t :: l, s, h => by
    have e : addS s (f t) = ⟨min s.lo (f t), max s.hi (f t), s.met + 1⟩ := by unfold addS; rw [if_neg (by omega)]
    rw [List.foldl_cons, e, span_fold f l _ (show 0 < s.met + 1 by omega), List.foldl_cons]
    congr 1
    simp only [List.length_cons]; omega
def spT (f : Truth → Int) (l : List Truth) : Sp := l.foldl (fun s t => addS s (f t)) ⟨0, 0, 0⟩
theorem spT_snoc (f : Truth → Int) {l : List Truth} {k : Nat} {t : Truth} (hk : l[k]? = some t) : spT f (l.take (k + 1)) = addS (spT f (l.take k)) (f t) := by
  obtain ⟨hl, he⟩ := List.getElem?_eq_some_iff.1 hk
  unfold spT
  rw [take_snoc zTruth _ k hl, List.foldl_append, List.getD_eq_getElem?_getD, hk]; rfl
theorem spT_met (f : Truth → Int) (l : List Truth) : (spT f l).met = l.length := by
  cases l with
  | nil => rfl
  | cons t l =>
    unfold spT
    rw [List.foldl_cons, show addS ⟨0, 0, 0⟩ (f t) = ⟨f t, f t, 1⟩ from rfl, span_fold f l _ (show (0 : Int) < 1 by decide)]
    simp only [List.length_cons]; omega
theorem spT_span (f : Truth → Int) (at_ : Int) {l : List Truth} (h0 : 0 < l.length) (hf : ∀ t, (keyR t).getD at_.toNat 0 = f t) : (⟨(spT f l).lo, (spT f l).hi⟩ : Span) = spanR l at_ := by
  cases l with
  | nil => simp at h0
  | cons t l =>
    have e : spanF at_ = fun (p : Int × Int) t => (min p.1 (f t), max p.2 (f t)) := by
      funext p t; unfold spanF; rw [hf]
    unfold spT spanR spanS
    rw [List.foldl_cons, show addS ⟨0, 0, 0⟩ (f t) = ⟨f t, f t, 1⟩ from rfl, span_fold f l _ (show (0 : Int) < 1 by decide), e, show (t :: l).getD 0 zTruth = t from rfl, hf, show ((t :: l).drop 1).take ((t :: l).length - 1) = l by simp]
def roomG (r : Nat) (t : Truth) : Int := fnL t.rooms r
theorem roomG_key (r : Nat) (t : Truth) : (keyR t).getD (2 + (r : Int)).toNat 0 = roomG r t := by
  have e : (2 + (r : Int)).toNat = r + 2 := by omega
  rw [e]; unfold keyR roomG fnL
  simp [List.getD_eq_getElem?_getD]
inductive P27a
  | e
inductive R27a
  | r0 (r0 : Int) (r1 : List Room) (r2 : List Day) (r3 : Int) (r4 : Int) (r5 : Int) (r6 : Int) (r7 : Int) (r8 : Int) (r9 : Int) (r10 : Int) (r11 : Int) (r12 : Int) (r13 : Int)
noncomputable def T27a (b : Book) (r : Int) (s : Sp) (x : Who) : P27a → Tr P27a R27a
  | .e => (.out (.r0 b.price b.rooms b.days r 0 0 s.lo s.hi s.met x.adults x.children (x.rooms 0) (x.rooms 1) (x.rooms 2)))
noncomputable def g27a (b : Book) (r : Int) (s : Sp) (x : Who) : P27a → List Item × St
  | .e => ([.code (asgOf (rangeOf Try.f25))], ⟨[uU, uU, uU, .ref 0 0 0, uU, .ref 1 0 0, .ref 2 0 0, uU, uU, uU, .ref 4 0 0, uU, uU, uU, uU, uU, uU, uU, uU, uU, uU, uU, uU, uU, uU, uU, uU, uU, uU, uU, uU, uU, uU, uU, .agg [iI x.adults, iI x.children, iI (x.rooms 0), iI (x.rooms 1), iI (x.rooms 2)], uU, uU, uU, uU, uU, uU, uU, uU, uU, uU], [.cells (cC b), .cells [iI r], .cells [iI 0, iI 0], .rows 3 1 1 (litC 1 1 [iI r]), .cells [iI s.lo, iI s.hi, iI s.met]], []⟩)
noncomputable def n27a (b : Book) (r : Int) (s : Sp) (x : Who) : R27a → Exit × St
  | .r0 r0 r1 r2 r3 r4 r5 r6 r7 r8 r9 r10 r11 r12 r13 => (.normal, ⟨mk 45 [(3, .ref 0 0 0), (5, .ref 1 0 0), (6, .ref 2 0 0), (10, .ref 4 0 0), (11, .ref 5 0 0)], [.cells [iI r0, tRoom.lst r1, tDay.lst r2], .cells [iI r3], .cells [iI r4, iI r5], .rows 3 1 1 (litC 1 1 [iI r]), .cells [iI r6, iI r7, iI r8], .cells [iI r9, iI r10, iI r11, iI r12, iI r13]], []⟩)
theorem s27a (b : Book) (r : Int) (s : Sp) (x : Who) : Sm 5 (g27a b r s x) (T27a b r s x) (n27a b r s x)
  | .e => ⟨400, by kernel_rfl⟩
inductive P27b0
  | e
inductive R27b0
  | r0 (r0 : Int) (r1 : List Room) (r2 : List Day) (r3 : Int) (r4 : Int) (r5 : Int) (r6 : Int) (r7 : Int) (r8 : Int)
noncomputable def T27b0 (b : Book) (s : Sp) (x : Who) : P27b0 → Tr P27b0 R27b0
  | .e => let c1 := addS s (x.rooms 0); let c2 : List V := [iI x.adults, iI x.children, iI (x.rooms 0), iI (x.rooms 1), iI (x.rooms 2)]; (.need ((decide (0 ≤ (0 : Int)) && decide ((0 : Int) < (3 : Int))) && true) (.hcall 45 [.ref 4 0 0, iI (x.rooms 0)] (.tuple []) [.cells (cC b), .cells [iI 0], .cells [iI 0, iI 0], .rows 3 1 1 (litC 1 1 [iI 0]), .cells [iI s.lo, iI s.hi, iI s.met], .cells c2] [.cells (cC b), .cells [iI 0], .cells [iI 0, iI 0], .rows 3 1 1 (litC 1 1 [iI 0]), .cells [iI (c1.lo), iI (c1.hi), iI (c1.met)], .cells c2] true (.out (.r0 b.price b.rooms b.days 0 0 0 (c1.lo) (c1.hi) (c1.met)))))
noncomputable def g27b0 (b : Book) (s : Sp) (x : Who) : P27b0 → List Item × St
  | .e => ([.code (bdyOf (rangeOf Try.f25))], ⟨[uU, uU, uU, .ref 0 0 0, uU, .ref 1 0 0, .ref 2 0 0, uU, uU, uU, .ref 4 0 0, .ref 5 0 0, uU, uU, uU, uU, uU, uU, uU, uU, uU, uU, uU, uU, uU, uU, uU, uU, uU, uU, uU, uU, uU, uU, uU, uU, uU, uU, uU, uU, uU, uU, uU, uU, uU], [.cells (cC b), .cells [iI 0], .cells [iI 0, iI 0], .rows 3 1 1 (litC 1 1 [iI 0]), .cells [iI s.lo, iI s.hi, iI s.met], .cells [iI x.adults, iI x.children, iI (x.rooms 0), iI (x.rooms 1), iI (x.rooms 2)]], []⟩)
noncomputable def n27b0 (b : Book) (s : Sp) (x : Who) : R27b0 → Exit × St
  | .r0 r0 r1 r2 r3 r4 r5 r6 r7 r8 => (.normal, ⟨mk 45 [], [.cells [iI r0, tRoom.lst r1, tDay.lst r2], .cells [iI r3], .cells [iI r4, iI r5], .rows 3 1 1 (litC 1 1 [iI 0]), .cells [iI r6, iI r7, iI r8]], []⟩)
theorem s27b0 (b : Book) (s : Sp) (x : Who) : Sm 5 (g27b0 b s x) (T27b0 b s x) (n27b0 b s x)
  | .e => ⟨400, by kernel_rfl⟩
inductive P27b1
  | e
inductive R27b1
  | r0 (r0 : Int) (r1 : List Room) (r2 : List Day) (r3 : Int) (r4 : Int) (r5 : Int) (r6 : Int) (r7 : Int) (r8 : Int)
noncomputable def T27b1 (b : Book) (s : Sp) (x : Who) : P27b1 → Tr P27b1 R27b1
  | .e => let c1 := addS s (x.rooms 1); let c2 : List V := [iI x.adults, iI x.children, iI (x.rooms 0), iI (x.rooms 1), iI (x.rooms 2)]; (.need ((decide (0 ≤ (1 : Int)) && decide ((1 : Int) < (3 : Int))) && true) (.hcall 45 [.ref 4 0 0, iI (x.rooms 1)] (.tuple []) [.cells (cC b), .cells [iI 1], .cells [iI 0, iI 0], .rows 3 1 1 (litC 1 1 [iI 1]), .cells [iI s.lo, iI s.hi, iI s.met], .cells c2] [.cells (cC b), .cells [iI 1], .cells [iI 0, iI 0], .rows 3 1 1 (litC 1 1 [iI 1]), .cells [iI (c1.lo), iI (c1.hi), iI (c1.met)], .cells c2] true (.out (.r0 b.price b.rooms b.days 1 0 0 (c1.lo) (c1.hi) (c1.met)))))
noncomputable def g27b1 (b : Book) (s : Sp) (x : Who) : P27b1 → List Item × St
  | .e => ([.code (bdyOf (rangeOf Try.f25))], ⟨[uU, uU, uU, .ref 0 0 0, uU, .ref 1 0 0, .ref 2 0 0, uU, uU, uU, .ref 4 0 0, .ref 5 0 0, uU, uU, uU, uU, uU, uU, uU, uU, uU, uU, uU, uU, uU, uU, uU, uU, uU, uU, uU, uU, uU, uU, uU, uU, uU, uU, uU, uU, uU, uU, uU, uU, uU], [.cells (cC b), .cells [iI 1], .cells [iI 0, iI 0], .rows 3 1 1 (litC 1 1 [iI 1]), .cells [iI s.lo, iI s.hi, iI s.met], .cells [iI x.adults, iI x.children, iI (x.rooms 0), iI (x.rooms 1), iI (x.rooms 2)]], []⟩)
noncomputable def n27b1 (b : Book) (s : Sp) (x : Who) : R27b1 → Exit × St
  | .r0 r0 r1 r2 r3 r4 r5 r6 r7 r8 => (.normal, ⟨mk 45 [], [.cells [iI r0, tRoom.lst r1, tDay.lst r2], .cells [iI r3], .cells [iI r4, iI r5], .rows 3 1 1 (litC 1 1 [iI 1]), .cells [iI r6, iI r7, iI r8]], []⟩)
theorem s27b1 (b : Book) (s : Sp) (x : Who) : Sm 5 (g27b1 b s x) (T27b1 b s x) (n27b1 b s x)
  | .e => ⟨400, by kernel_rfl⟩
inductive P27b2
  | e
inductive R27b2
  | r0 (r0 : Int) (r1 : List Room) (r2 : List Day) (r3 : Int) (r4 : Int) (r5 : Int) (r6 : Int) (r7 : Int) (r8 : Int)
noncomputable def T27b2 (b : Book) (s : Sp) (x : Who) : P27b2 → Tr P27b2 R27b2
  | .e => let c1 := addS s (x.rooms 2); let c2 : List V := [iI x.adults, iI x.children, iI (x.rooms 0), iI (x.rooms 1), iI (x.rooms 2)]; (.need ((decide (0 ≤ (2 : Int)) && decide ((2 : Int) < (3 : Int))) && true) (.hcall 45 [.ref 4 0 0, iI (x.rooms 2)] (.tuple []) [.cells (cC b), .cells [iI 2], .cells [iI 0, iI 0], .rows 3 1 1 (litC 1 1 [iI 2]), .cells [iI s.lo, iI s.hi, iI s.met], .cells c2] [.cells (cC b), .cells [iI 2], .cells [iI 0, iI 0], .rows 3 1 1 (litC 1 1 [iI 2]), .cells [iI (c1.lo), iI (c1.hi), iI (c1.met)], .cells c2] true (.out (.r0 b.price b.rooms b.days 2 0 0 (c1.lo) (c1.hi) (c1.met)))))
noncomputable def g27b2 (b : Book) (s : Sp) (x : Who) : P27b2 → List Item × St
  | .e => ([.code (bdyOf (rangeOf Try.f25))], ⟨[uU, uU, uU, .ref 0 0 0, uU, .ref 1 0 0, .ref 2 0 0, uU, uU, uU, .ref 4 0 0, .ref 5 0 0, uU, uU, uU, uU, uU, uU, uU, uU, uU, uU, uU, uU, uU, uU, uU, uU, uU, uU, uU, uU, uU, uU, uU, uU, uU, uU, uU, uU, uU, uU, uU, uU, uU], [.cells (cC b), .cells [iI 2], .cells [iI 0, iI 0], .rows 3 1 1 (litC 1 1 [iI 2]), .cells [iI s.lo, iI s.hi, iI s.met], .cells [iI x.adults, iI x.children, iI (x.rooms 0), iI (x.rooms 1), iI (x.rooms 2)]], []⟩)
noncomputable def n27b2 (b : Book) (s : Sp) (x : Who) : R27b2 → Exit × St
  | .r0 r0 r1 r2 r3 r4 r5 r6 r7 r8 => (.normal, ⟨mk 45 [], [.cells [iI r0, tRoom.lst r1, tDay.lst r2], .cells [iI r3], .cells [iI r4, iI r5], .rows 3 1 1 (litC 1 1 [iI 2]), .cells [iI r6, iI r7, iI r8]], []⟩)
theorem s27b2 (b : Book) (s : Sp) (x : Who) : Sm 5 (g27b2 b s x) (T27b2 b s x) (n27b2 b s x)
  | .e => ⟨400, by kernel_rfl⟩
abbrev HR (b : Book) (r : Int) (s : Sp) : List Blk := [.cells (tBook.cells b), .cells [iI r], .cells [iI 0, iI 0], .rows 3 1 1 (litC 1 1 [iI r]), .cells (tSp.cells s)]
abbrev fE (b : Book) (d : Int) : V := fG 64 [rR (lk (lookOf b d))]
abbrev t27 (b : Book) (d : Int) : List V := [uU, uU, uU, .ref 0 0 0, uU, .ref 1 0 0, .ref 2 0 0, uU, uU, uU, .ref 4 0 0] ++ List.replicate 22 uU ++ [fE b d] ++ List.replicate 11 uU
theorem round27 (b : Book) (d : Int) (r : Nat) (hr : r < 3) (lid : Nat) (s : Sp) (hs : 0 ≤ s.met ∧ s.met ≤ 100000000000) (x : Who) :
    AWP Try.prog ⟨some lid, 5⟩ (asgOf (rangeOf Try.f25)) ⟨setPs [34] [.agg (tWho.cells x)] (t27 b d), HR b r s, []⟩ fun e S1 => e = .normal ∧ noExt S1.h = true ∧
      AWP Try.prog ⟨some lid, 5⟩ (bdyOf (rangeOf Try.f25)) S1 fun e S2 => e = .normal ∧ S2.h = HR b r (addS s (x.rooms r)) := by
  have a1 := fun {hh : List Blk} {i : Nat} (n : Int) (hi : hh[i]? = some (.cells (tSp.cells s))) => addAt (c79 s n hs) hi
  refine AWP.forget (t := (setPs [34] [.agg (tWho.cells x)] (t27 b d)).set 33 uU) (by simp) (forget_set _ 33) ?_
  obtain rfl | rfl | rfl : r = 0 ∨ r = 1 ∨ r = 2 := by omega
  · refine AWP.wp mx (T27a b 0 s x) (g27a b 0 s x) (n27a b 0 s x) .e rfl (s27a b 0 s x)
      (post := fun r => (n27a b 0 s x r).1 = .normal ∧ (n27a b 0 s x r).2 = (g27b0 b s x .e).2) ?_ (fun q hq => ?_)
    · refine WP.step ?_
      simp only [T27a, Go, Ends', Tr.sure, SS]
      repeat' with_reducible first | intro _ | apply And.intro
      all_goals exact rfl
    · rw [hq.2]
      refine ⟨hq.1, rfl, ?_⟩
      refine AWP.wp mx (T27b0 b s x) (g27b0 b s x) (n27b0 b s x) .e rfl (s27b0 b s x)
        (post := fun r => (n27b0 b s x r).1 = .normal ∧ (n27b0 b s x r).2.h = HR b 0 (addS s (x.rooms 0))) ?_ (fun r hr => hr)
      refine WP.step ?_
      simp only [T27b0, Go, Ends', Tr.sure, SS]
      repeat' with_reducible first | intro _ | apply And.intro
      all_goals first | exact (a1 _ rfl) | (simp [Go, Ends', -List.getD_eq_getElem?_getD, *]; done) | skip
      all_goals exact rfl
  · refine AWP.wp mx (T27a b 1 s x) (g27a b 1 s x) (n27a b 1 s x) .e rfl (s27a b 1 s x)
      (post := fun r => (n27a b 1 s x r).1 = .normal ∧ (n27a b 1 s x r).2 = (g27b1 b s x .e).2) ?_ (fun q hq => ?_)
    · refine WP.step ?_
      simp only [T27a, Go, Ends', Tr.sure, SS]
      repeat' with_reducible first | intro _ | apply And.intro
      all_goals exact rfl
    · rw [hq.2]
      refine ⟨hq.1, rfl, ?_⟩
      refine AWP.wp mx (T27b1 b s x) (g27b1 b s x) (n27b1 b s x) .e rfl (s27b1 b s x)
        (post := fun r => (n27b1 b s x r).1 = .normal ∧ (n27b1 b s x r).2.h = HR b 1 (addS s (x.rooms 1))) ?_ (fun r hr => hr)
      refine WP.step ?_
      simp only [T27b1, Go, Ends', Tr.sure, SS]
      repeat' with_reducible first | intro _ | apply And.intro
      all_goals first | exact (a1 _ rfl) | (simp [Go, Ends', -List.getD_eq_getElem?_getD, *]; done) | skip
      all_goals exact rfl
  · refine AWP.wp mx (T27a b 2 s x) (g27a b 2 s x) (n27a b 2 s x) .e rfl (s27a b 2 s x)
      (post := fun r => (n27a b 2 s x r).1 = .normal ∧ (n27a b 2 s x r).2 = (g27b2 b s x .e).2) ?_ (fun q hq => ?_)
    · refine WP.step ?_
      simp only [T27a, Go, Ends', Tr.sure, SS]
      repeat' with_reducible first | intro _ | apply And.intro
      all_goals exact rfl
    · rw [hq.2]
      refine ⟨hq.1, rfl, ?_⟩
      refine AWP.wp mx (T27b2 b s x) (g27b2 b s x) (n27b2 b s x) .e rfl (s27b2 b s x)
        (post := fun r => (n27b2 b s x r).1 = .normal ∧ (n27b2 b s x r).2.h = HR b 2 (addS s (x.rooms 2))) ?_ (fun r hr => hr)
      refine WP.step ?_
      simp only [T27b2, Go, Ends', Tr.sure, SS]
      repeat' with_reducible first | intro _ | apply And.intro
      all_goals first | exact (a1 _ rfl) | (simp [Go, Ends', -List.getD_eq_getElem?_getD, *]; done) | skip
      all_goals exact rfl
theorem range27 (b : Book) (d : Int) (ha : askedR b d = 0) (r : Nat) (hr : r < 3) :
    AWP Try.prog ⟨none, 0⟩ (rangeOf Try.f25) ⟨t27 b d, HR b r ⟨0, 0, 0⟩, []⟩ (fun e T => e = .normal ∧ T = ⟨t27 b d, HR b r (spT (roomG r) (agreeD b d)) ++ [.obj (.deferred (some []))], [5]⟩) := by
  obtain ⟨h, hd1, hd2, hday⟩ := asked_ok ha
  have e : rangeOf Try.f25 = .rangeFunc (.tmp 33) #[34] (asgOf (rangeOf Try.f25)) (bdyOf (rangeOf Try.f25)) := by kernel_rfl
  have hlen : (ysE b d).length = (agreeD b d).length := by unfold ysE; rw [List.length_map]
  have hend : (agreeD b d).take (agreeD b d).length = agreeD b d := List.take_length
  rw [e]
  refine (AWP.rangeT (H := fun k => HR b r (spT (roomG r) ((agreeD b d).take k))) (f := 64) (ys := ysE b d) (caps := [rR (lk (lookOf b d))])
    rfl rfl (PCalls.enters Try.func64 (c := Try.f64.body.getD .skip) (by kernel_rfl) (by kernel_rfl)) (c110 b d ha) rfl (fun _ => rfl) (fun _ => rfl) rfl (fun lid k us hk => ?_)).mono fun e T ⟨h1, h2⟩ => ⟨h1, by rw [h2, hlen, hend]; rfl⟩
  obtain ⟨t, ht, hy⟩ : ∃ t, (agreeD b d)[k]? = some t ∧ yT t = .tuple us := by
    unfold ysE at hk
    rw [List.getElem?_map] at hk
    cases hf : (agreeD b d)[k]? with
    | none => rw [hf] at hk; cases hk
    | some f => rw [hf] at hk; exact ⟨f, rfl, Option.some.inj hk⟩
  obtain rfl : us = [.agg (tWho.cells (whoT t))] := by unfold yT at hy; cases hy; rfl
  have hkl := (List.getElem?_eq_some_iff.1 ht).1
  have hal := agreeD_len h hday
  have hm : (spT (roomG r) ((agreeD b d).take k)).met = ((agreeD b d).take k).length := spT_met _ _
  rw [List.length_take] at hm
  refine ⟨rfl, ?_⟩
  have := round27 b d r hr lid (spT (roomG r) ((agreeD b d).take k)) ⟨by omega, by omega⟩ (whoT t)
  rw [spT_snoc (roomG r) ht]
  exact this
inductive P27_o
  | e
inductive R27_o
  | r0 (r0_0 : Int) (r0_1 : Int) (r1 : Int)
  | r1 (r0_0 : Int) (r0_1 : Int) (r1 : Int)
noncomputable def T27_o (b : Book) (d : Int) (r : Int) : P27_o → Tr P27_o R27_o
  | .e => let c1 := spT (roomG r.toNat) (agreeD b d); let c2 : List V := [uU, uU, uU, .ref 0 0 0, uU, .ref 1 0 0, .ref 2 0 0, uU, uU, uU, .ref 4 0 0, uU, uU, uU, uU, uU, uU, uU, uU, uU, uU, uU, uU, uU, uU, uU, uU, uU, uU, uU, uU, uU, uU, fG 64 [rR (lk (lookOf b d))], uU, uU, uU, uU, uU, uU, uU, uU, uU, uU, uU]; let c3 := (b.rooms.length : Int) - (1 : Int); let c4 : List V := [iI (c1.lo), iI (c1.hi), iI (c1.met)]; let c5 := litC 1 1 [iI r]; (.call 16 [.agg (cC b), iI d] (.tuple [lk (lookOf b d), iI 0]) true true (.lit false (.need (inR .i64 c3) (.call 14 [iI 0, iI c3, .list 1 1 c5] (.bool (!within r 0 c3)) ((decide (1 ≤ 1)) && true) true (.br (!within r 0 c3) (.out (.r0 0 0 4)) (.call 40 [lk (lookOf b d)] (fG 64 [rR (lk (lookOf b d))]) true true (.wait 1 (.drop ⟨[uU, uU, uU, .nil, uU, .nil, .nil, uU, uU, uU, .nil, uU, uU, uU, uU, uU, uU, uU, uU, uU, uU, uU, uU, uU, uU, uU, uU, uU, uU, uU, uU, uU, uU, .nil, uU, uU, uU, uU, uU, uU, uU, uU, uU, uU, uU], [.void, .void, .void, .void, .void], []⟩ (.over (rangeOf Try.f25) ⟨c2, [.cells (cC b), .cells [iI r], .cells [iI 0, iI 0], .rows 3 1 1 c5, .cells [iI 0, iI 0, iI 0]], []⟩ .normal ⟨c2, [.cells (cC b), .cells [iI r], .cells [iI 0, iI 0], .rows 3 1 1 c5, .cells c4, .obj (.deferred (some []))], [5]⟩ true (.br (c1.met == (0 : Int)) (.out (.r1 0 0 8)) (.call 46 [.cref 3 fun q => (c4 : List V).getD q uU] (.agg [iI (c1.lo), iI (c1.hi)]) true true (.out (.r1 (c1.lo) (c1.hi) 0)))))))))))))
noncomputable def g27_o (b : Book) (d : Int) (r : Int) : P27_o → List Item × St
  | .e => bd Try.f25 [.agg (cC b), iI d, iI r] 42
noncomputable def n27_o : R27_o → Exit × St
  | .r0 r0_0 r0_1 r1 => (.ret, ⟨mk 45 [(6, .ref 2 0 0), (7, iI r1)], [.gone, .gone, .cells [iI r0_0, iI r0_1]], []⟩)
  | .r1 r0_0 r0_1 r1 => (.ret, ⟨mk 45 [(6, .ref 2 0 0), (7, iI r1)], [.gone, .gone, .cells [iI r0_0, iI r0_1], .gone, .gone, .obj (.deferred (some []))], [5]⟩)
noncomputable def v27_o : R27_o → V
  | .r0 r0_0 r0_1 r1 => .tuple [.agg [iI r0_0, iI r0_1], iI r1]
  | .r1 r0_0 r0_1 r1 => .tuple [.agg [iI r0_0, iI r0_1], iI r1]
theorem s27_o (b : Book) (d : Int) (r : Int) : Sm 0 (g27_o b d r) (T27_o b d r) (n27_o)
  | .e => ⟨400, by kernel_rfl⟩
theorem q27_o : ∀ r, bodyQ Try.prog Try.f25 (· = v27_o r) (n27_o r).1 (n27_o r).2
  | .r0 r0_0 r0_1 r1 => bq (.tuple [.agg [iI r0_0, iI r0_1], iI r1]) (by kernel_rfl)
  | .r1 r0_0 r0_1 r1 => ⟨.inr rfl, by simp [n27_o], (.tuple [.agg [iI r0_0, iI r0_1], iI r1]), (.tuple [.agg [iI r0_0, iI r0_1], iI r1]), by kernel_rfl, (.imm rfl), rfl⟩
theorem w27_o (b : Book) (d : Int) (r : Int) {post : V → Prop} (h : WQ (T27_o b d r) v27_o post .e) : PC 25 [.agg (cC b), iI d, iI r] post :=
  PCalls.wq Try.func25 (s27_o b d r) q27_o h
inductive P27_n
  | e
inductive R27_n
  | r0 (r0_0 : Int) (r0_1 : Int) (r1 : Int)
noncomputable def T27_n (b : Book) (d : Int) (r : Int) : P27_n → Tr P27_n R27_n
  | .e => let c1 := (b.rooms.length : Int) - (1 : Int); (.call 16 [.agg (cC b), iI d] (.tuple [lk (lookOf b d), iI 0]) true true (.br ((0 : Int) != (0 : Int)) (.out (.r0 0 0 0)) (.need (inR .i64 c1) (.call 14 [iI 0, iI c1, .list 1 1 (litC 1 1 [iI r])] (.bool (!within r 0 c1)) ((decide (1 ≤ 1)) && true) true (.br (!within r 0 c1) (.out (.r0 0 0 4)) (.wait 3 .never))))))
noncomputable def g27_n (b : Book) (d : Int) (r : Int) : P27_n → List Item × St
  | .e => bd Try.f25 [.agg (cC b), iI d, iI r] 42
noncomputable def n27_n : R27_n → Exit × St
  | .r0 r0_0 r0_1 r1 => (.ret, ⟨mk 45 [(6, .ref 2 0 0), (7, iI r1)], [.gone, .gone, .cells [iI r0_0, iI r0_1]], []⟩)
noncomputable def v27_n : R27_n → V
  | .r0 r0_0 r0_1 r1 => .tuple [.agg [iI r0_0, iI r0_1], iI r1]
theorem s27_n (b : Book) (d : Int) (r : Int) : Sm 0 (g27_n b d r) (T27_n b d r) (n27_n)
  | .e => ⟨400, by kernel_rfl⟩
theorem q27_n : ∀ r, bodyQ Try.prog Try.f25 (· = v27_n r) (n27_n r).1 (n27_n r).2
  | .r0 r0_0 r0_1 r1 => bq (.tuple [.agg [iI r0_0, iI r0_1], iI r1]) (by kernel_rfl)
theorem w27_n (b : Book) (d : Int) (r : Int) {post : V → Prop} (h : WQ (T27_n b d r) v27_n post .e) : PC 25 [.agg (cC b), iI d, iI r] post :=
  PCalls.wq Try.func25 (s27_n b d r) q27_n h
inductive P27_e
  | e
inductive R27_e
  | r0 (r0_0 : Int) (r0_1 : Int) (r1 : Int)
noncomputable def T27_e (b : Book) (d : Int) (r : Int) : P27_e → Tr P27_e R27_e
  | .e => (.call 16 [.agg (cC b), iI d] (.tuple [.nil, iI (askedR b d)]) true true (.br ((askedR b d) != (0 : Int)) (.out (.r0 0 0 (askedR b d))) (.wait 1 .never)))
noncomputable def g27_e (b : Book) (d : Int) (r : Int) : P27_e → List Item × St
  | .e => bd Try.f25 [.agg (cC b), iI d, iI r] 42
noncomputable def n27_e : R27_e → Exit × St
  | .r0 r0_0 r0_1 r1 => (.ret, ⟨mk 45 [(6, .ref 2 0 0), (7, iI r1)], [.gone, .gone, .cells [iI r0_0, iI r0_1]], []⟩)
noncomputable def v27_e : R27_e → V
  | .r0 r0_0 r0_1 r1 => .tuple [.agg [iI r0_0, iI r0_1], iI r1]
theorem s27_e (b : Book) (d : Int) (r : Int) : Sm 0 (g27_e b d r) (T27_e b d r) (n27_e)
  | .e => ⟨400, by kernel_rfl⟩
theorem q27_e : ∀ r, bodyQ Try.prog Try.f25 (· = v27_e r) (n27_e r).1 (n27_e r).2
  | .r0 r0_0 r0_1 r1 => bq (.tuple [.agg [iI r0_0, iI r0_1], iI r1]) (by kernel_rfl)
theorem w27_e (b : Book) (d : Int) (r : Int) {post : V → Prop} (h : WQ (T27_e b d r) v27_e post .e) : PC 25 [.agg (cC b), iI d, iI r] post :=
  PCalls.wq Try.func25 (s27_e b d r) q27_e h
theorem c27 (b : Book) (d r : Int) (hs : SmB b) : PC 25 [.agg (tBook.cells b), iI d, iI r] (· = .tuple [.agg (tSpan.cells (roomR b d r).1), iI (roomR b d r).2]) := by
  by_cases ha : askedR b d = 0
  · obtain ⟨h, hd1, hd2, hday⟩ := asked_ok ha
    have hnr := h.nr
    have k63 := c63y b d ha
    have k53 := c53l 0 ((b.rooms.length : Int) - 1) r (c := litC 1 1 [iI r]) rfl
    have q1 : inR .i64 ((b.rooms.length : Int) - 1) = true := inR64 (by omega) (by omega)
    by_cases hw : within r 0 ((b.rooms.length : Int) - 1) = true
    · have he : roomE b d r = 0 := by unfold roomE; rw [if_neg (fun q => q ha), if_pos hw]
      have hw' := within_iff.1 hw
      have k78 := c78 b d
      have hr := range27 b d ha r.toNat (by omega)
      have hrn : ((r.toNat : Nat) : Int) = r := by omega
      rw [hrn] at hr
      have k80 := c80 (spT (roomG r.toNat) (agreeD b d))
      have hm : (spT (roomG r.toNat) (agreeD b d)).met = (agreeD b d).length := spT_met _ _
      rcases explained_cases b d (askedR b d) with ⟨f, hf, hf0⟩ | ⟨-, hf, h0⟩
      · have h0 : (agreeD b d).length = 0 := by
          unfold explainedR at hf
          rw [if_neg (fun q => q ha)] at hf
          by_cases hz : (agreeD b d).length = 0
          · exact hz
          · rw [if_neg hz] at hf; exact absurd (congrArg Prod.snd hf).symm hf0
        have e : roomR b d r = (⟨0, 0⟩, 8) := by
          have hx0 : explainedR b d 0 = ([], 8) := by unfold explainedR; rw [if_neg (fun q => q rfl), if_pos h0]
          unfold roomR; rw [he, hx0]; rfl
        have hmb : ((spT (roomG r.toNat) (agreeD b d)).met == 0) = true := by rw [hm, h0]; rfl
        refine w27_o b d r (WP.step ?_)
        simp only [T27_o, Go, Ends', v27_o, Tr.sure, SS]
        repeat' with_reducible first | intro _ | apply And.intro
        all_goals first | exact k63 | exact k53 | exact k78 | exact hr | exact k80 | (simp [e, tSpan, q1, hw, hmb, Go, Ends', v27_o, -List.getD_eq_getElem?_getD, *]; done) | (simp_all [e, tSpan, q1, hw, hmb, Go, Ends', v27_o, -List.getD_eq_getElem?_getD]; done)
      · have e : roomR b d r = (spanR (agreeD b d) (2 + r), 0) := by rw [ha] at hf; unfold roomR; rw [he, hf, if_neg (fun q => q rfl)]
        have hmb : ((spT (roomG r.toNat) (agreeD b d)).met == 0) = false := beq_eq_false_iff_ne.2 (by rw [hm]; omega)
        have hsp := spT_span (roomG r.toNat) (2 + r) h0 (fun t => by rw [← roomG_key, hrn])
        rw [← hsp] at e; clear hsp
        refine w27_o b d r (WP.step ?_)
        simp only [T27_o, Go, Ends', v27_o, Tr.sure, SS]
        repeat' with_reducible first | intro _ | apply And.intro
        all_goals first | exact k63 | exact k53 | exact k78 | exact hr | exact k80 | (simp [e, tSpan, q1, hw, hmb, Go, Ends', v27_o, -List.getD_eq_getElem?_getD, *]; done) | (simp_all [e, tSpan, q1, hw, hmb, Go, Ends', v27_o, -List.getD_eq_getElem?_getD]; done)
    · have he : roomE b d r = 4 := by unfold roomE; rw [if_neg (fun q => q ha), if_neg hw]
      have hx : explainedR b d 4 = ([], 4) := rfl
      have e : roomR b d r = (⟨0, 0⟩, 4) := by unfold roomR; rw [he, hx]; rfl
      have hw' := Bool.eq_false_iff.2 hw
      refine w27_n b d r (WP.step ?_)
      simp only [T27_n, Go, Ends', v27_n, Tr.sure, SS]
      repeat' with_reducible first | intro _ | apply And.intro
      all_goals first | exact k63 | exact k53 | (simp [e, tSpan, q1, hw', Go, Ends', v27_n, -List.getD_eq_getElem?_getD, *]; done) | (simp_all [e, tSpan, q1, hw', Go, Ends', v27_n, -List.getD_eq_getElem?_getD]; done)
  · have he : roomE b d r = askedR b d := by unfold roomE; rw [if_pos ha]
    have hx : explainedR b d (askedR b d) = ([], askedR b d) := by unfold explainedR; rw [if_pos ha]
    have k63 := c63n b d hs ha
    have e : roomR b d r = (⟨0, 0⟩, askedR b d) := by unfold roomR; rw [he, hx, if_pos ha]
    refine w27_e b d r (WP.step ?_)
    simp only [T27_e, Go, Ends', v27_e, Tr.sure, SS, ha]
    repeat' with_reducible first | intro _ | apply And.intro
    all_goals first | exact k63 | (simp [e, tSpan, Go, Ends', v27_e, -List.getD_eq_getElem?_getD, *]; done)
end
noncomputable section
abbrev l3 (f : Nat → Int) : List Int := [f 0, f 1, f 2]
theorem c87l (f g : Nat → Int) : PC 50 [.list 1 3 (litC 1 3 [iI (f 0), iI (f 1), iI (f 2)]), .list 1 3 (litC 1 3 [iI (g 0), iI (g 1), iI (g 2)])] (· = iI (cmpL (l3 f) (l3 g))) := by
  have hv : ∀ f : Nat → Int, VLe (.list 1 3 (litC 1 3 [iI (f 0), iI (f 1), iI (f 2)])) (tint.lst (l3 f)) := fun f => VLe.list fun i j hi hj => by
    obtain rfl : j = 0 := by omega
    obtain rfl | rfl | rfl : i = 0 ∨ i = 1 ∨ i = 2 := by omega
    all_goals rfl
  exact PCalls.arg (pre := []) (PCalls.arg (pre := [tint.lst (l3 f)]) (c87 (l3 f) (l3 g)) (hv g)) (hv f)
def befW (x y : Who) : Bool :=
  if x.adults ≠ y.adults then decide (x.adults < y.adults) else if x.children ≠ y.children then decide (x.children < y.children) else decide (cmpL (l3 x.rooms) (l3 y.rooms) < 0)
inductive P108
  | e
inductive R108
  | r0 (r0 : Bool)
noncomputable def T108 (x : Who) (y : Who) : P108 → Tr P108 R108
  | .e => let c1 := cmpL ([x.rooms 0, x.rooms 1, x.rooms 2] : List Int) ([y.rooms 0, y.rooms 1, y.rooms 2] : List Int); (.br (x.adults != y.adults) (.out (.r0 (decide (x.adults < y.adults)))) (.br (x.children != y.children) (.out (.r0 (decide (x.children < y.children)))) (.wait 2 (.frz 0 (underL 0 [iI x.adults, iI x.children, iI (x.rooms 0), iI (x.rooms 1), iI (x.rooms 2)]) (.frz 1 (underL 0 [iI y.adults, iI y.children, iI (y.rooms 0), iI (y.rooms 1), iI (y.rooms 2)]) (.front [] [] true true (.call 50 [.list 1 3 (litC 1 3 [iI (x.rooms 0), iI (x.rooms 1), iI (x.rooms 2)]), .list 1 3 (litC 1 3 [iI (y.rooms 0), iI (y.rooms 1), iI (y.rooms 2)])] (iI c1) true true (.out (.r0 (decide (c1 < (0 : Int))))))))))))
noncomputable def g108 (x : Who) (y : Who) : P108 → List Item × St
  | .e => bd Try.f41 [.agg [iI x.adults, iI x.children, iI (x.rooms 0), iI (x.rooms 1), iI (x.rooms 2)], .agg [iI y.adults, iI y.children, iI (y.rooms 0), iI (y.rooms 1), iI (y.rooms 2)]] 29
noncomputable def n108 : R108 → Exit × St
  | .r0 r0 => (.ret, ⟨mk 31 [(4, .bool r0)], [], []⟩)
noncomputable def v108 : R108 → V
  | .r0 r0 => .bool r0
theorem s108 (x : Who) (y : Who) : Sm 0 (g108 x y) (T108 x y) (n108)
  | .e => ⟨400, by kernel_rfl⟩
theorem q108 : ∀ r, bodyQ Try.prog Try.f41 (· = v108 r) (n108 r).1 (n108 r).2
  | .r0 r0 => bq (.bool r0) (by kernel_rfl)
theorem w108 (x : Who) (y : Who) {post : V → Prop} (h : WQ (T108 x y) v108 post .e) : PC 41 [.agg [iI x.adults, iI x.children, iI (x.rooms 0), iI (x.rooms 1), iI (x.rooms 2)], .agg [iI y.adults, iI y.children, iI (y.rooms 0), iI (y.rooms 1), iI (y.rooms 2)]] post :=
  PCalls.wq Try.func41 (s108 x y) q108 h
theorem c108 (x y : Who) : PC 41 [.agg (tWho.cells x), .agg (tWho.cells y)] (· = .bool (befW x y)) := by
  refine w108 x y (WP.step ?_)
  simp only [T108, Go, Ends', v108, Tr.sure, SS]
  repeat' with_reducible first | intro _ | apply And.intro
  all_goals first | exact (c87l _ _) | exact rfl | (simp [befW, Go, Ends', v108, -List.getD_eq_getElem?_getD, *]; done)
def eqW (x w : Who) : Bool := (x.adults == w.adults) && ((x.children == w.children) && (((x.rooms 0 == w.rooms 0) && ((x.rooms 1 == w.rooms 1) && ((x.rooms 2 == w.rooms 2) && true))) && true))
theorem eqW_bef {x w : Who} (h : eqW x w = true) : befW x w = false := by
  unfold eqW at h
  simp only [Bool.and_eq_true, beq_iff_eq, and_true] at h
  obtain ⟨h1, h2, h3, h4, h5⟩ := h
  unfold befW
  rw [if_neg (fun q => q h1), if_neg (fun q => q h2)]
  unfold l3
  rw [h3, h4, h5, cmpL_less]
  simp [less]
def firstG (s : Who × Int) (x : Who) : Who × Int := (if s.2 + 1 = 1 then x else if eqW x s.1 = true then s.1 else if befW x s.1 = true then x else s.1, s.2 + 1)
def zWho : Who := ⟨0, 0, fun _ => 0⟩
def firstK (b : Book) (d : Int) (k : Nat) : Who × Int := (((agreeD b d).take k).map whoT).foldl firstG (zWho, 0)
def firstS (b : Book) (d : Int) : Who × Int := ((agreeD b d).map whoT).foldl firstG (zWho, 0)
theorem firstK_succ {b : Book} {d : Int} {k : Nat} {t : Truth} (hk : (agreeD b d)[k]? = some t) : firstK b d (k + 1) = firstG (firstK b d k) (whoT t) := by
  obtain ⟨hl, he⟩ := List.getElem?_eq_some_iff.1 hk
  unfold firstK
  rw [take_snoc zTruth _ k hl, List.map_append, List.foldl_append, List.getD_eq_getElem?_getD, hk]; rfl
theorem firstG_snd : ∀ (l : List Who) (s : Who × Int), (l.foldl firstG s).2 = s.2 + l.length
  | [], s => by simp
  | x :: l, s => by
    rw [List.foldl_cons, firstG_snd l, List.length_cons]
    show s.2 + 1 + _ = _
    omega
theorem less_pad {a b : List Int} {n : Nat} (ha : a.length = n) (hb : b.length = n) (hn : n ≤ 3) : less (l3 (fnL a)) (l3 (fnL b)) = less a b := by
  obtain rfl | rfl | rfl | rfl : n = 0 ∨ n = 1 ∨ n = 2 ∨ n = 3 := by omega
  · obtain rfl := List.length_eq_zero_iff.1 ha
    obtain rfl := List.length_eq_zero_iff.1 hb
    rfl
  · obtain ⟨x, rfl⟩ := List.length_eq_one_iff.1 ha
    obtain ⟨y, rfl⟩ := List.length_eq_one_iff.1 hb
    simp [l3, fnL, less]
  · match a, b, ha, hb with
    | [x, x'], [y, y'], _, _ => simp [l3, fnL, less]
  · match a, b, ha, hb with
    | [x, x', x''], [y, y', y''], _, _ => simp [l3, fnL, less]
theorem bef_less {t u : Truth} {n : Nat} (ht : t.rooms.length = n) (hu : u.rooms.length = n) (hn : n ≤ 3) : befW (whoT t) (whoT u) = less (keyR t) (keyR u) := by
  unfold befW keyR
  rw [cmpL_less]
  show (if t.adults ≠ u.adults then _ else if t.children ≠ u.children then _ else less (l3 (fnL t.rooms)) (l3 (fnL u.rooms))) = less (t.adults :: t.children :: t.rooms) (u.adults :: u.children :: u.rooms)
  rw [less_pad ht hu hn]
  have hc : ∀ (a b : Int) (l l' : List Int), less (a :: l) (b :: l') = if a = b then less l l' else decide (a < b) := fun _ _ _ _ => rfl
  rw [hc]
  by_cases h1 : t.adults = u.adults
  · rw [if_neg (fun q => q h1), if_pos h1, hc]
    by_cases h2 : t.children = u.children
    · rw [if_neg (fun q => q h2), if_pos h2]
    · rw [if_pos h2, if_neg h2]; rfl
  · rw [if_pos h1, if_neg h1]; rfl
theorem first_fold {n : Nat} (hn : n ≤ 3) : ∀ (l : List Truth) (t : Truth) (m : Int), 1 ≤ m → t.rooms.length = n → (∀ u ∈ l, u.rooms.length = n) → ((l.map whoT).foldl firstG (whoT t, m)).1 = whoT (l.foldl bestF t)
  | [], _, _, _, _, _ => rfl
  | u :: l, t, m, hm, ht, hl => by
    have hu := hl u List.mem_cons_self
    have hb := bef_less hu ht hn
    rw [List.map_cons, List.foldl_cons, List.foldl_cons]
    have e : firstG (whoT t, m) (whoT u) = (whoT (bestF t u), m + 1) := by
      unfold firstG bestF
      simp only
      rw [if_neg (by omega), hb]
      by_cases hx : eqW (whoT u) (whoT t) = true
      · rw [if_pos hx]
        have hlf : less (keyR u) (keyR t) = false := by rw [← hb]; exact eqW_bef hx
        rw [if_neg (by rw [hlf]; decide)]
      · rw [if_neg hx]
        split <;> rfl
    have hbl : (bestF t u).rooms.length = n := by unfold bestF; split <;> assumption
    rw [e, first_fold hn l _ _ (by omega) hbl (fun v hv => hl v (List.mem_cons_of_mem _ hv))]
theorem firstS_eq {b : Book} {d : Int} (h : OkBook b) (hd : OkDay b (dayOf b d)) (h0 : 0 < (agreeD b d).length) : firstS b d = (whoT (bestD (agreeD b d)), ((agreeD b d).length : Int)) := by
  have hin := agreeD_in h hd
  have hnr := h.nr
  have e2 : (firstS b d).2 = (agreeD b d).length := by
    unfold firstS; rw [firstG_snd, List.length_map]; omega
  refine Prod.ext ?_ e2
  unfold firstS bestD bestS
  cases hl : agreeD b d with
  | nil => rw [hl] at h0; simp at h0
  | cons t l =>
    rw [hl] at hin
    rw [List.map_cons, List.foldl_cons]
    have e : firstG (zWho, 0) (whoT t) = (whoT t, 1) := rfl
    rw [e, first_fold hnr l t 1 (by omega) ((hin t List.mem_cons_self).1) (fun u hu => (hin u (List.mem_cons_of_mem _ hu)).1)]
    show whoT (l.foldl bestF t) = whoT ((((t :: l).drop 1).take ((t :: l).length - 1)).foldl bestF t)
    rw [show ((t :: l).drop 1).take ((t :: l).length - 1) = l by simp]
theorem firstS_none {b : Book} {d : Int} (h0 : (agreeD b d).length = 0) : firstS b d = (zWho, 0) := by
  unfold firstS; rw [List.length_eq_zero_iff.1 h0]; rfl
inductive P75a
  | e
inductive R75a
  | r0 (r0 : Int) (r1 : Int) (r2 : Int) (r3 : Int) (r4 : Int) (r5 : Int) (r6 : Int) (r7 : Int) (r8 : Int) (r9 : Int) (r10 : Int)
noncomputable def T75a (w : Who) (m : Int) (x : Who) : P75a → Tr P75a R75a
  | .e => (.out (.r0 w.adults w.children (w.rooms 0) (w.rooms 1) (w.rooms 2) m x.adults x.children (x.rooms 0) (x.rooms 1) (x.rooms 2)))
noncomputable def g75a (w : Who) (m : Int) (x : Who) : P75a → List Item × St
  | .e => ([.code (asgOf (rangeOf Try.f22))], ⟨[uU, uU, .ref 0 0 0, .ref 1 0 0, uU, uU, uU, .agg [iI x.adults, iI x.children, iI (x.rooms 0), iI (x.rooms 1), iI (x.rooms 2)], uU, uU, uU, uU, uU, uU, uU, uU, uU, uU, uU, uU, uU, uU, uU, uU, uU], [.cells [iI w.adults, iI w.children, iI (w.rooms 0), iI (w.rooms 1), iI (w.rooms 2)], .cells [iI m]], []⟩)
noncomputable def n75a (w : Who) (m : Int) (x : Who) : R75a → Exit × St
  | .r0 r0 r1 r2 r3 r4 r5 r6 r7 r8 r9 r10 => (.normal, ⟨mk 25 [(2, .ref 0 0 0), (3, .ref 1 0 0), (4, .ref 2 0 0)], [.cells [iI r0, iI r1, iI r2, iI r3, iI r4], .cells [iI r5], .cells [iI r6, iI r7, iI r8, iI r9, iI r10]], []⟩)
theorem s75a (w : Who) (m : Int) (x : Who) : Sm 2 (g75a w m x) (T75a w m x) (n75a w m x)
  | .e => ⟨400, by kernel_rfl⟩
inductive P75b
  | e
inductive R75b
  | r0 (r0 : Int) (r1 : Int) (r2 : Int) (r3 : Int) (r4 : Int) (r5 : Int)
noncomputable def T75b (w : Who) (m : Int) (x : Who) : P75b → Tr P75b R75b
  | .e => let c1 : Tr P75b R75b := .out (.r0 x.adults x.children (x.rooms 0) (x.rooms 1) (x.rooms 2) (m + (1 : Int))); let c2 : Tr P75b R75b := .out (.r0 w.adults w.children (w.rooms 0) (w.rooms 1) (w.rooms 2) (m + (1 : Int))); (.need (inR .i64 (m + (1 : Int))) (.br ((m + (1 : Int)) == (1 : Int)) (.lit true (.lit true c1)) (.br (!((x.adults == w.adults) && ((x.children == w.children) && (((x.rooms 0 == w.rooms 0) && ((x.rooms 1 == w.rooms 1) && ((x.rooms 2 == w.rooms 2) && true))) && true)))) (.call 41 [.agg [iI x.adults, iI x.children, iI (x.rooms 0), iI (x.rooms 1), iI (x.rooms 2)], .agg [iI w.adults, iI w.children, iI (w.rooms 0), iI (w.rooms 1), iI (w.rooms 2)]] (.bool (befW x w)) true true (.lit false (.br (befW x w) c1 c2))) (.lit false (.lit false c2)))))
noncomputable def g75b (w : Who) (m : Int) (x : Who) : P75b → List Item × St
  | .e => ([.code (bdyOf (rangeOf Try.f22))], ⟨[uU, uU, .ref 0 0 0, .ref 1 0 0, .ref 2 0 0, uU, uU, uU, uU, uU, uU, uU, uU, uU, uU, uU, uU, uU, uU, uU, uU, uU, uU, uU, uU], [.cells [iI w.adults, iI w.children, iI (w.rooms 0), iI (w.rooms 1), iI (w.rooms 2)], .cells [iI m], .cells [iI x.adults, iI x.children, iI (x.rooms 0), iI (x.rooms 1), iI (x.rooms 2)]], []⟩)
noncomputable def n75b (w : Who) (m : Int) (x : Who) : R75b → Exit × St
  | .r0 r0 r1 r2 r3 r4 r5 => (.normal, ⟨mk 25 [], [.cells [iI r0, iI r1, iI r2, iI r3, iI r4], .cells [iI r5]], []⟩)
theorem s75b (w : Who) (m : Int) (x : Who) : Sm 2 (g75b w m x) (T75b w m x) (n75b w m x)
  | .e => ⟨400, by kernel_rfl⟩
def o75 : Array Oper := (regOf 6 (Try.f22.body.getD .skip)).getD #[]
abbrev st75 (w : Who) (m : Int) (c0 c1 c2 : Bool) : St := ⟨[uU, uU, .ref 0 0 0, .ref 1 0 0, uU, uU, uU, uU, uU, uU, uU, uU, uU, uU, uU, uU, uU, uU, uU, uU, uU, uU, uU, bif c0 then .agg [iI w.adults, iI w.children, iI (w.rooms 0), iI (w.rooms 1), iI (w.rooms 2)] else uU, bif c1 then iI m else uU], [.cells [(bif c2 then iI w.adults else iI w.adults), (bif c2 then iI w.children else iI w.children), (bif c2 then iI (w.rooms 0) else iI (w.rooms 0)), (bif c2 then iI (w.rooms 1) else iI (w.rooms 1)), (bif c2 then iI (w.rooms 2) else iI (w.rooms 2))], .cells [iI m], .obj (.deferred (some []))], [2]⟩
abbrev fin75 (w : Who) (m : Int) : St := ⟨[uU, uU, .ref 0 0 0, .ref 1 0 0, uU, uU, uU, uU, uU, uU, uU, uU, uU, uU, uU, uU, uU, uU, uU, uU, uU, uU, uU, .agg [iI w.adults, iI w.children, iI (w.rooms 0), iI (w.rooms 1), iI (w.rooms 2)], iI m], [.cells [iI w.adults, iI w.children, iI (w.rooms 0), iI (w.rooms 1), iI (w.rooms 2)], .cells [iI m], .obj (.deferred (some []))], [2]⟩
theorem sp75_0 (w : Who) (m : Int) (c1 : Bool) : AStep Try.prog ⟨none, 0⟩ o75 0 (st75 w m false c1 false) (st75 w m true c1 false) :=
  AStep.of_ops (AOps.run [0] [] _ (st75 w m true c1 false) true (by kernel_rfl) (fun j hj => by have e : j = 2 := (by simpa using hj); subst e; exact ⟨_, rfl⟩) (AOps.nil ⟨rfl, rfl⟩))
theorem sp75_1 (w : Who) (m : Int) (c0 c2 : Bool) : AStep Try.prog ⟨none, 0⟩ o75 1 (st75 w m c0 false c2) (st75 w m c0 true c2) :=
  AStep.of_ops (AOps.run [1] [] _ (st75 w m c0 true c2) true (by kernel_rfl) (fun j hj => by have e : j = 2 := (by simpa using hj); subst e; exact ⟨_, rfl⟩) (AOps.nil ⟨rfl, rfl⟩))
theorem sp75_2 (w : Who) (m : Int) (c1 : Bool) : AStep Try.prog ⟨none, 0⟩ o75 2 (st75 w m true c1 false) (st75 w m true c1 true) :=
  AStep.of_ops (AOps.run [2] [] _ (st75 w m true c1 true) true (by kernel_rfl) (fun j hj => by have e : j = 2 := (by simpa using hj); subst e; exact ⟨_, rfl⟩) (AOps.nil ⟨rfl, rfl⟩))
theorem ov75 (w : Who) (m : Int) : AWP Try.prog ⟨none, 0⟩ (regionOf Try.f22 6) (st75 w m false false false) (fun e T => e = .normal ∧ T = fin75 w m) := by
  have z_sz : o75.size = 4 := by kernel_rfl
  refine AWP.region_anyC (ops := o75) 3 mx (by kernel_rfl) (by omega) (fun j_ z_1 z_2 => ?_) (fun l_ => st75 w m (l_.getD 0 false) (l_.getD 1 false) (l_.getD 2 false)) (fun β_ G_ K_ a_ w_ r_ => ⟨β_, Homes.le_refl _, ?_⟩) (fun l_ i_ z_l z_i z_li z_j z_c z_r => ?_) (fun l_ z_l z_1 z_2 => ?_)
  · obtain rfl : j_ = 3 := by omega
    kernel_rfl
  · rw [z_sz]; exact r_
  · have z_lt : i_ < l_.size := by omega
    simp only [gset z_lt]
    rcases show i_ = 0 ∨ i_ = 1 ∨ i_ = 2 by omega with rfl | rfl | rfl
    · have z_g2 := dep_not (ops := o75) (i := 2) (j := 0) (by kernel_rfl) z_c z_li
      simp only [Nat.reduceEqDiff, if_true, if_false, reduceIte, z_li, z_g2]
      exact sp75_0 w m _
    · simp only [Nat.reduceEqDiff, if_true, if_false, reduceIte, z_li]
      exact sp75_1 w m _ _
    · have z_g0 := dep_ready (ops := o75) (i := 2) (j := 0) (by kernel_rfl) z_r
      simp only [Nat.reduceEqDiff, if_true, if_false, reduceIte, z_li, z_g0]
      exact sp75_2 w m _
  · simp only [z_1 0 (by omega), z_1 1 (by omega), z_1 2 (by omega)]
    rw [z_sz]
    exact AOps.run [3] [] _ (fin75 w m) true (by kernel_rfl) (fun j hj => by have e : j = 2 := (by simpa using hj); subst e; exact ⟨_, rfl⟩) (AOps.nil ⟨rfl, rfl⟩)
inductive P75
  | e
inductive R75
  | r0 (r0_0 : Int) (r0_1 : Int) (r0_2 : Int) (r0_3 : Int) (r0_4 : Int) (r1_0 : Int)
noncomputable def T75 (b : Book) (d : Int) : P75 → Tr P75 R75
  | .e => let c2 : List V := [uU, uU, .ref 0 0 0, .ref 1 0 0, uU, uU, fG 64 [rR (lk (lookOf b d))], uU, uU, uU, uU, uU, uU, uU, uU, uU, uU, uU, uU, uU, uU, uU, uU, uU, uU]; let c4 := firstS b d; let c1 : List V := [iI (c4.1.adults), iI (c4.1.children), iI (c4.1.rooms 0), iI (c4.1.rooms 1), iI (c4.1.rooms 2)]; let c3 : List Blk := [.cells c1, .cells [iI (c4.2)], .obj (.deferred (some []))]; (.call 40 [lk (lookOf b d)] (fG 64 [rR (lk (lookOf b d))]) true true (.wait 1 (.drop ⟨[uU, uU, .nil, .nil, uU, uU, .nil, uU, uU, uU, uU, uU, uU, uU, uU, uU, uU, uU, uU, uU, uU, uU, uU, uU, uU], [.void, .void], []⟩ (.over (rangeOf Try.f22) ⟨c2, [.cells [iI 0, iI 0, iI 0, iI 0, iI 0], .cells [iI 0]], []⟩ .normal ⟨c2, c3, [2]⟩ true (.wait 2 (.drop ⟨[uU, uU, .nil, .nil, uU, uU, uU, uU, uU, uU, uU, uU, uU, uU, uU, uU, uU, uU, uU, uU, uU, uU, uU, uU, uU], [.void, .void, .void], []⟩ (.over (regionOf Try.f22 6) ⟨[uU, uU, .ref 0 0 0, .ref 1 0 0, uU, uU, uU, uU, uU, uU, uU, uU, uU, uU, uU, uU, uU, uU, uU, uU, uU, uU, uU, uU, uU], c3, [2]⟩ .normal ⟨[uU, uU, .ref 0 0 0, .ref 1 0 0, uU, uU, uU, uU, uU, uU, uU, uU, uU, uU, uU, uU, uU, uU, uU, uU, uU, uU, uU, .agg c1, iI (c4.2)], c3, [2]⟩ true (.out (.r0 (c4.1.adults) (c4.1.children) (c4.1.rooms 0) (c4.1.rooms 1) (c4.1.rooms 2) (c4.2))))))))))
noncomputable def g75 (b : Book) (d : Int) : P75 → List Item × St
  | .e => bd Try.f22 [lk (lookOf b d)] 24
noncomputable def n75 : R75 → Exit × St
  | .r0 r0_0 r0_1 r0_2 r0_3 r0_4 r1_0 => (.ret, ⟨mk 25 [(2, .ref 0 0 0), (3, .ref 1 0 0)], [.cells [iI r0_0, iI r0_1, iI r0_2, iI r0_3, iI r0_4], .cells [iI r1_0], .obj (.deferred (some []))], [2]⟩)
noncomputable def v75 : R75 → V
  | .r0 r0_0 r0_1 r0_2 r0_3 r0_4 r1_0 => .tuple [.agg [iI r0_0, iI r0_1, iI r0_2, iI r0_3, iI r0_4], iI r1_0]
theorem s75 (b : Book) (d : Int) : Sm 0 (g75 b d) (T75 b d) (n75)
  | .e => ⟨400, by kernel_rfl⟩
theorem q75 : ∀ r, bodyQ Try.prog Try.f22 (· = v75 r) (n75 r).1 (n75 r).2
  | .r0 r0_0 r0_1 r0_2 r0_3 r0_4 r1_0 => ⟨.inr rfl, by simp [n75], (.tuple [.agg [iI r0_0, iI r0_1, iI r0_2, iI r0_3, iI r0_4], iI r1_0]), (.tuple [.agg [iI r0_0, iI r0_1, iI r0_2, iI r0_3, iI r0_4], iI r1_0]), by kernel_rfl, (.imm rfl), rfl⟩
theorem w75 (b : Book) (d : Int) {post : V → Prop} (h : WQ (T75 b d) v75 post .e) : PC 22 [lk (lookOf b d)] post :=
  PCalls.wq Try.func22 (s75 b d) q75 h
abbrev HF75 (s : Who × Int) : List Blk := [.cells (tWho.cells s.1), .cells [iI s.2]]
abbrev t75 (b : Book) (d : Int) : List V := [uU, uU, .ref 0 0 0, .ref 1 0 0, uU, uU, fE b d] ++ List.replicate 18 uU
theorem rnd75 (b : Book) (d : Int) (lid : Nat) (w : Who) (m : Int) (hm : 0 ≤ m ∧ m ≤ 100000000000) (x : Who) :
    AWP Try.prog ⟨some lid, 2⟩ (asgOf (rangeOf Try.f22)) ⟨setPs [7] [.agg (tWho.cells x)] (t75 b d), HF75 (w, m), []⟩ fun e S1 => e = .normal ∧ noExt S1.h = true ∧
      AWP Try.prog ⟨some lid, 2⟩ (bdyOf (rangeOf Try.f22)) S1 fun e S2 => e = .normal ∧ S2.h = HF75 (firstG (w, m) x) := by
  refine AWP.forget (t := (setPs [7] [.agg (tWho.cells x)] (t75 b d)).set 6 uU) (by simp) (forget_set _ 6) ?_
  refine AWP.wp mx (T75a w m x) (g75a w m x) (n75a w m x) .e rfl (s75a w m x)
    (post := fun r => (n75a w m x r).1 = .normal ∧ (n75a w m x r).2 = (g75b w m x .e).2) ?_ (fun q hq => ?_)
  · refine WP.step ?_
    simp only [T75a, Go, Ends', Tr.sure, SS]
    repeat' with_reducible first | intro _ | apply And.intro
    all_goals exact rfl
  · rw [hq.2]
    refine ⟨hq.1, rfl, ?_⟩
    have q1 : inR .i64 (m + 1) = true := inR64 (by omega) (by omega)
    have k108 := c108 x w
    refine AWP.wp mx (T75b w m x) (g75b w m x) (n75b w m x) .e rfl (s75b w m x)
      (post := fun r => (n75b w m x r).1 = .normal ∧ (n75b w m x r).2.h = HF75 (firstG (w, m) x)) ?_ (fun r hr => hr)
    have hG : firstG (w, m) x = (if m + 1 = 1 then x else if eqW x w = true then w else if befW x w = true then x else w, m + 1) := rfl
    rw [hG]
    by_cases h1 : m + 1 = 1
    · rw [if_pos h1]
      refine WP.step ?_
      simp only [T75b, Go, Ends', Tr.sure, SS]
      repeat' with_reducible first | intro _ | apply And.intro
      all_goals first | exact k108 | (simp_all [q1, h1, Go, Ends', -List.getD_eq_getElem?_getD]; done) | skip
      all_goals exact rfl
    · rw [if_neg h1]
      cases h2 : eqW x w with
      | true =>
        rw [if_pos rfl]
        unfold eqW at h2
        refine WP.step ?_
        simp only [T75b, Go, Ends', Tr.sure, SS]
        repeat' with_reducible first | intro _ | apply And.intro
        all_goals first | exact k108 | (simp [q1, h1, h2, Go, Ends', -List.getD_eq_getElem?_getD, *]; done) | (simp_all [q1, h1, h2, Go, Ends', -List.getD_eq_getElem?_getD]; done) | skip
        all_goals exact rfl
      | false =>
        rw [if_neg (by decide)]
        unfold eqW at h2
        cases h3 : befW x w with
        | true =>
          rw [if_pos rfl]
          refine WP.step ?_
          simp only [T75b, Go, Ends', Tr.sure, SS]
          repeat' with_reducible first | intro _ | apply And.intro
          all_goals first | exact k108 | (simp [q1, h1, h2, h3, Go, Ends', -List.getD_eq_getElem?_getD, *]; done) | (simp_all [q1, h1, h2, h3, Go, Ends', -List.getD_eq_getElem?_getD]; done) | skip
          all_goals exact rfl
        | false =>
          rw [if_neg (by decide)]
          refine WP.step ?_
          simp only [T75b, Go, Ends', Tr.sure, SS]
          repeat' with_reducible first | intro _ | apply And.intro
          all_goals first | exact k108 | (simp [q1, h1, h2, h3, Go, Ends', -List.getD_eq_getElem?_getD, *]; done) | (simp_all [q1, h1, h2, h3, Go, Ends', -List.getD_eq_getElem?_getD]; done) | skip
          all_goals exact rfl
theorem range75 (b : Book) (d : Int) (ha : askedR b d = 0) :
    AWP Try.prog ⟨none, 0⟩ (rangeOf Try.f22) ⟨t75 b d, HF75 (zWho, 0), []⟩ (fun e T => e = .normal ∧ T = ⟨t75 b d, HF75 (firstS b d) ++ [.obj (.deferred (some []))], [2]⟩) := by
  obtain ⟨h, hd1, hd2, hday⟩ := asked_ok ha
  have e : rangeOf Try.f22 = .rangeFunc (.tmp 6) #[7] (asgOf (rangeOf Try.f22)) (bdyOf (rangeOf Try.f22)) := by kernel_rfl
  have hlen : (ysE b d).length = (agreeD b d).length := by unfold ysE; rw [List.length_map]
  have hend : firstK b d (agreeD b d).length = firstS b d := by unfold firstK firstS; rw [List.take_length]
  rw [e]
  refine (AWP.rangeT (H := fun k => HF75 (firstK b d k)) (f := 64) (ys := ysE b d) (caps := [rR (lk (lookOf b d))])
    rfl rfl (PCalls.enters Try.func64 (c := Try.f64.body.getD .skip) (by kernel_rfl) (by kernel_rfl)) (c110 b d ha) rfl (fun _ => rfl) (fun _ => rfl) rfl (fun lid k us hk => ?_)).mono fun e T ⟨h1, h2⟩ => ⟨h1, by rw [h2, hlen, hend]; rfl⟩
  obtain ⟨t, ht, hy⟩ : ∃ t, (agreeD b d)[k]? = some t ∧ yT t = .tuple us := by
    unfold ysE at hk
    rw [List.getElem?_map] at hk
    cases hf : (agreeD b d)[k]? with
    | none => rw [hf] at hk; cases hk
    | some f => rw [hf] at hk; exact ⟨f, rfl, Option.some.inj hk⟩
  obtain rfl : us = [.agg (tWho.cells (whoT t))] := by unfold yT at hy; cases hy; rfl
  have hkl := (List.getElem?_eq_some_iff.1 ht).1
  have hal := agreeD_len h hday
  have hm : (firstK b d k).2 = ((agreeD b d).take k).length := by
    unfold firstK; rw [firstG_snd, List.length_map]; omega
  rw [List.length_take] at hm
  refine ⟨rfl, ?_⟩
  have := rnd75 b d lid (firstK b d k).1 (firstK b d k).2 ⟨by omega, by omega⟩ (whoT t)
  rw [firstK_succ ht]
  exact this
theorem c75 (b : Book) (d : Int) (ha : askedR b d = 0) : PC 22 [lk (lookOf b d)] (· = .tuple [.agg (tWho.cells (firstS b d).1), iI (firstS b d).2]) := by
  have k78 := c78 b d
  have hr := range75 b d ha
  refine w75 b d (WP.step ?_)
  simp only [T75, Go, Ends', v75, Tr.sure, SS]
  repeat' with_reducible first | intro _ | apply And.intro
  all_goals first | exact k78 | exact hr | exact (ov75 _ _) | (simp [tWho, Go, Ends', v75, -List.getD_eq_getElem?_getD, *]; done)
end
noncomputable section
def o22 : Array Oper := (regOf 7 (Try.f8.body.getD .skip)).getD #[]
abbrev st22 (b : Book) (w : Who) (m : Int) (c0 c1 c2 c3 c4 c5 c6 c7 : Bool) : St := ⟨[uU, uU, .ref 0 0 0, uU, .ref 1 0 0, iI m, uU, uU, .ref 2 0 0, uU, uU, uU, uU, uU, uU, uU, uU, uU, uU, uU, uU, uU, uU, uU, uU, uU, uU, bif c0 then .ref 2 0 0 else uU, bif c1 then iI w.adults else uU, bif c2 then .ref 2 0 1 else uU, bif c3 then iI w.children else uU, bif c4 then .ref 0 0 1 else uU, bif c5 then tRoom.lst b.rooms else uU, bif c6 then iI (b.rooms.length : Int) else uU, bif c7 then .row 3 (((b.rooms.length : Int)).toNat) else uU, uU, uU, uU, uU, uU, uU, uU, uU], [.cells (cC b), .cells [iI 0, iI 0, .nils], .cells [iI w.adults, iI w.children, iI (w.rooms 0), iI (w.rooms 1), iI (w.rooms 2)]] ++ (bif c7 then [.rows 3 1 (((b.rooms.length : Int)).toNat) (fun _ j => ([iI 0] : List V).getD j uU)] else []), []⟩
abbrev fin22 (b : Book) (w : Who) (m : Int) : St := ⟨[uU, uU, .ref 0 0 0, uU, .ref 1 0 0, iI m, uU, uU, .ref 2 0 0, uU, uU, uU, uU, uU, uU, uU, uU, uU, uU, uU, uU, uU, uU, uU, uU, uU, uU, .ref 2 0 0, iI w.adults, .ref 2 0 1, iI w.children, .ref 0 0 1, tRoom.lst b.rooms, iI (b.rooms.length : Int), .row 3 (((b.rooms.length : Int)).toNat), .agg [iI w.adults, iI w.children, .row 3 (((b.rooms.length : Int)).toNat)], uU, uU, uU, uU, uU, uU, uU], [.cells (cC b), .cells [iI w.adults, iI w.children, .row 3 (((b.rooms.length : Int)).toNat)], .cells [iI w.adults, iI w.children, iI (w.rooms 0), iI (w.rooms 1), iI (w.rooms 2)], .rows 3 1 (((b.rooms.length : Int)).toNat) (fun _ j => ([iI 0] : List V).getD j uU)], []⟩
theorem sp22_0 (b : Book) (w : Who) (m : Int) (c1 c2 c3 c4 c5 c6 c7 : Bool) : AStep Try.prog ⟨none, 0⟩ o22 0 (st22 b w m false c1 c2 c3 c4 c5 c6 c7) (st22 b w m true c1 c2 c3 c4 c5 c6 c7) :=
  AStep.of_ops (AOps.run [0] [] _ (st22 b w m true c1 c2 c3 c4 c5 c6 c7) true (by kernel_rfl) (fun j hj => absurd hj (List.not_mem_nil)) (AOps.nil ⟨rfl, rfl⟩))
theorem sp22_1 (b : Book) (w : Who) (m : Int) (c2 c3 c4 c5 c6 c7 : Bool) : AStep Try.prog ⟨none, 0⟩ o22 1 (st22 b w m true false c2 c3 c4 c5 c6 c7) (st22 b w m true true c2 c3 c4 c5 c6 c7) :=
  AStep.of_ops (AOps.run [1] [] _ (st22 b w m true true c2 c3 c4 c5 c6 c7) true (by kernel_rfl) (fun j hj => absurd hj (List.not_mem_nil)) (AOps.nil ⟨rfl, rfl⟩))
theorem sp22_2 (b : Book) (w : Who) (m : Int) (c0 c1 c3 c4 c5 c6 c7 : Bool) : AStep Try.prog ⟨none, 0⟩ o22 2 (st22 b w m c0 c1 false c3 c4 c5 c6 c7) (st22 b w m c0 c1 true c3 c4 c5 c6 c7) :=
  AStep.of_ops (AOps.run [2] [] _ (st22 b w m c0 c1 true c3 c4 c5 c6 c7) true (by kernel_rfl) (fun j hj => absurd hj (List.not_mem_nil)) (AOps.nil ⟨rfl, rfl⟩))
theorem sp22_3 (b : Book) (w : Who) (m : Int) (c0 c1 c4 c5 c6 c7 : Bool) : AStep Try.prog ⟨none, 0⟩ o22 3 (st22 b w m c0 c1 true false c4 c5 c6 c7) (st22 b w m c0 c1 true true c4 c5 c6 c7) :=
  AStep.of_ops (AOps.run [3] [] _ (st22 b w m c0 c1 true true c4 c5 c6 c7) true (by kernel_rfl) (fun j hj => absurd hj (List.not_mem_nil)) (AOps.nil ⟨rfl, rfl⟩))
theorem sp22_4 (b : Book) (w : Who) (m : Int) (c0 c1 c2 c3 c5 c6 c7 : Bool) : AStep Try.prog ⟨none, 0⟩ o22 4 (st22 b w m c0 c1 c2 c3 false c5 c6 c7) (st22 b w m c0 c1 c2 c3 true c5 c6 c7) :=
  AStep.of_ops (AOps.run [4] [] _ (st22 b w m c0 c1 c2 c3 true c5 c6 c7) true (by kernel_rfl) (fun j hj => absurd hj (List.not_mem_nil)) (AOps.nil ⟨rfl, rfl⟩))
theorem sp22_5 (b : Book) (w : Who) (m : Int) (c0 c1 c2 c3 c6 c7 : Bool) : AStep Try.prog ⟨none, 0⟩ o22 5 (st22 b w m c0 c1 c2 c3 true false c6 c7) (st22 b w m c0 c1 c2 c3 true true c6 c7) :=
  AStep.of_ops (AOps.run [5] [] _ (st22 b w m c0 c1 c2 c3 true true c6 c7) true (by kernel_rfl) (fun j hj => absurd hj (List.not_mem_nil)) (AOps.nil ⟨rfl, rfl⟩))
theorem sp22_6 (b : Book) (w : Who) (m : Int) (c0 c1 c2 c3 c4 c7 : Bool) : AStep Try.prog ⟨none, 0⟩ o22 6 (st22 b w m c0 c1 c2 c3 c4 true false c7) (st22 b w m c0 c1 c2 c3 c4 true true c7) :=
  AStep.of_ops (AOps.run [6] [] _ (st22 b w m c0 c1 c2 c3 c4 true true c7) true (by kernel_rfl) (fun j hj => absurd hj (List.not_mem_nil)) (AOps.nil ⟨rfl, rfl⟩))
theorem sp22_7 (b : Book) (w : Who) (m : Int) (hc7 : ((decide (0 ≤ (b.rooms.length : Int)) && decide ((b.rooms.length : Int) = (b.rooms.length : Int))) && decide ((b.rooms.length : Int) ≤ 4294967296)) = true) (c0 c1 c2 c3 c4 c5 : Bool) : AStep Try.prog ⟨none, 0⟩ o22 7 (st22 b w m c0 c1 c2 c3 c4 c5 true false) (st22 b w m c0 c1 c2 c3 c4 c5 true true) :=
  AStep.of_ops (AOps.run0 (is := [7]) (is2 := []) (S := st22 b w m c0 c1 c2 c3 c4 c5 true false) (S' := st22 b w m c0 c1 c2 c3 c4 c5 true true) rfl (ob := ((decide (0 ≤ (b.rooms.length : Int)) && decide ((b.rooms.length : Int) = (b.rooms.length : Int))) && decide ((b.rooms.length : Int) ≤ 4294967296))) (by kernel_rfl) hc7 (AOps.nil ⟨rfl, rfl⟩))
theorem ov22 (b : Book) (w : Who) (m : Int) (hc7 : ((decide (0 ≤ (b.rooms.length : Int)) && decide ((b.rooms.length : Int) = (b.rooms.length : Int))) && decide ((b.rooms.length : Int) ≤ 4294967296)) = true) : AWP Try.prog ⟨none, 0⟩ (regionOf Try.f8 7) (st22 b w m false false false false false false false false) (fun e T => e = .normal ∧ T = fin22 b w m) := by
  have z_sz : o22.size = 10 := by kernel_rfl
  refine AWP.region_anyC (ops := o22) 8 mx (by kernel_rfl) (by omega) (fun j_ z_1 z_2 => ?_) (fun l_ => st22 b w m (l_.getD 0 false) (l_.getD 1 false) (l_.getD 2 false) (l_.getD 3 false) (l_.getD 4 false) (l_.getD 5 false) (l_.getD 6 false) (l_.getD 7 false)) (fun β_ G_ K_ a_ w_ r_ => ⟨β_, Homes.le_refl _, ?_⟩) (fun l_ i_ z_l z_i z_li z_j z_c z_r => ?_) (fun l_ z_l z_1 z_2 => ?_)
  · rcases show j_ = 8 ∨ j_ = 9 by omega with rfl | rfl
    all_goals kernel_rfl
  · rw [z_sz]; exact r_
  · have z_lt : i_ < l_.size := by omega
    simp only [gset z_lt]
    rcases show i_ = 0 ∨ i_ = 1 ∨ i_ = 2 ∨ i_ = 3 ∨ i_ = 4 ∨ i_ = 5 ∨ i_ = 6 ∨ i_ = 7 by omega with rfl | rfl | rfl | rfl | rfl | rfl | rfl | rfl
    · simp only [Nat.reduceEqDiff, if_true, if_false, reduceIte, z_li]
      exact sp22_0 b w m _ _ _ _ _ _ _
    · have z_g0 := dep_ready (ops := o22) (i := 1) (j := 0) (by kernel_rfl) z_r
      simp only [Nat.reduceEqDiff, if_true, if_false, reduceIte, z_li, z_g0]
      exact sp22_1 b w m _ _ _ _ _ _
    · simp only [Nat.reduceEqDiff, if_true, if_false, reduceIte, z_li]
      exact sp22_2 b w m _ _ _ _ _ _ _
    · have z_g2 := dep_ready (ops := o22) (i := 3) (j := 2) (by kernel_rfl) z_r
      simp only [Nat.reduceEqDiff, if_true, if_false, reduceIte, z_li, z_g2]
      exact sp22_3 b w m _ _ _ _ _ _
    · simp only [Nat.reduceEqDiff, if_true, if_false, reduceIte, z_li]
      exact sp22_4 b w m _ _ _ _ _ _ _
    · have z_g4 := dep_ready (ops := o22) (i := 5) (j := 4) (by kernel_rfl) z_r
      simp only [Nat.reduceEqDiff, if_true, if_false, reduceIte, z_li, z_g4]
      exact sp22_5 b w m _ _ _ _ _ _
    · have z_g5 := dep_ready (ops := o22) (i := 6) (j := 5) (by kernel_rfl) z_r
      simp only [Nat.reduceEqDiff, if_true, if_false, reduceIte, z_li, z_g5]
      exact sp22_6 b w m _ _ _ _ _ _
    · have z_g6 := dep_ready (ops := o22) (i := 7) (j := 6) (by kernel_rfl) z_r
      simp only [Nat.reduceEqDiff, if_true, if_false, reduceIte, z_li, z_g6]
      exact sp22_7 b w m hc7 _ _ _ _ _ _
  · simp only [z_1 0 (by omega), z_1 1 (by omega), z_1 2 (by omega), z_1 3 (by omega), z_1 4 (by omega), z_1 5 (by omega), z_1 6 (by omega), z_1 7 (by omega)]
    rw [z_sz]
    exact AOps.run [8, 9] [] _ (fin22 b w m) true (by kernel_rfl) (fun j hj => absurd hj (List.not_mem_nil)) (AOps.nil ⟨rfl, rfl⟩)
inductive P22_o
  | e
inductive R22_o
  | r0 (r0_0 : Int) (r0_1 : Int) (r1 : Int) (r2 : Int)
  | r1 (r0_0 : Int) (r0_1 : Int) (r0_2 : List Int) (r1 : Int) (r2 : Int)
noncomputable def T22_o (b : Book) (d : Int) : P22_o → Tr P22_o R22_o
  | .e => let c1 := (b.rooms.length : Int); let c4 := firstS b d; let c5 := (firstT b d).1.rooms; let c6 := decide (c1.toNat ≤ c1.toNat); let c7 := rowsOf tint (List.replicate (c1.toNat) 0); let c8 := rowsOf tint c5; let c9 := c4.1.children; let c10 := c4.1.adults; let c2 : List V := [iI c10, iI c9, iI (c4.1.rooms 0), iI (c4.1.rooms 1), iI (c4.1.rooms 2)]; let c3 : List V := [iI c10, iI c9, .row 3 (c1.toNat)]; (.call 16 [.agg (cC b), iI d] (.tuple [lk (lookOf b d), iI 0]) true true (.br ((0 : Int) != (0 : Int)) (.out (.r0 0 0 0 0)) (.call 22 [lk (lookOf b d)] (.tuple [.agg c2, iI (c4.2)]) true true (.br (c4.2 == (0 : Int)) (.out (.r0 0 0 0 8)) (.wait 2 (.drop ⟨[uU, uU, .nil, uU, .nil, .nil, uU, uU, .nil, uU, uU, uU, uU, uU, uU, uU, uU, uU, uU, uU, uU, uU, uU, uU, uU, uU, uU, uU, uU, uU, uU, uU, uU, uU, uU, uU, uU, uU, uU, uU, uU, uU, uU], [.void, .void, .void], []⟩ (.over (regionOf Try.f8 7) ⟨[uU, uU, .ref 0 0 0, uU, .ref 1 0 0, iI (c4.2), uU, uU, .ref 2 0 0, uU, uU, uU, uU, uU, uU, uU, uU, uU, uU, uU, uU, uU, uU, uU, uU, uU, uU, uU, uU, uU, uU, uU, uU, uU, uU, uU, uU, uU, uU, uU, uU, uU, uU], [.cells (cC b), .cells [iI 0, iI 0, .nils], .cells c2], []⟩ .normal ⟨[uU, uU, .ref 0 0 0, uU, .ref 1 0 0, iI (c4.2), uU, uU, .ref 2 0 0, uU, uU, uU, uU, uU, uU, uU, uU, uU, uU, uU, uU, uU, uU, uU, uU, uU, uU, .ref 2 0 0, iI c10, .ref 2 0 1, iI c9, .ref 0 0 1, tRoom.lst b.rooms, iI (b.rooms.length : Int), .row 3 (c1.toNat), .agg c3, uU, uU, uU, uU, uU, uU, uU], [.cells (cC b), .cells c3, .cells c2, .rows 3 1 (c1.toNat) (fun _ j => ([iI 0] : List V).getD j uU)], []⟩ true (.telb 3 1 (c1.toNat) (fun _ j => ([iI 0] : List V).getD j uU) c7 (.wait 1 (.frz 2 (underL 0 c2) (.front [] [] ((true && (true && (true && (true && true)))) && true) true (.sem (opAt Try.f8 8 4) [(.tmp 37, .row 3 (c1.toNat)), (.tmp 39, .list 1 3 (litC 1 3 [iI (c4.1.rooms 0), iI (c4.1.rooms 1), iI (c4.1.rooms 2)]))] [.cells (cC b), .cells c3, .gone, .rows 3 1 (c1.toNat) c7] (iI (c1.toNat : Int)) [.cells (cC b), .cells c3, .gone, .rows 3 1 (c1.toNat) c8] true (.wait 1 (.frz 3 ((c6 && (c6 && true)) && ((c6 && true) && true)) (.vle 34 (.list 1 (c1.toNat) c8) (tint.lst c5) (.vle 37 (.list 1 (c1.toNat) c8) (tint.lst c5) (.telc 1 [iI c10, iI c9, .list 1 (c1.toNat) c8] [iI c10, iI c9, tint.lst c5] (.out (.r1 c10 c9 c5 (c4.2) 0)))))))))))))))))))
noncomputable def g22_o (b : Book) (d : Int) : P22_o → List Item × St
  | .e => bd Try.f8 [.agg (cC b), iI d] 41
noncomputable def n22_o : R22_o → Exit × St
  | .r0 r0_0 r0_1 r1 r2 => (.ret, ⟨mk 43 [(4, .ref 1 0 0), (5, iI r1), (6, iI r2)], [.gone, .cells [iI r0_0, iI r0_1, .nils]], []⟩)
  | .r1 r0_0 r0_1 r0_2 r1 r2 => (.ret, ⟨mk 43 [(4, .ref 1 0 0), (5, iI r1), (6, iI r2)], [.gone, .cells [iI r0_0, iI r0_1, tint.lst r0_2]], []⟩)
noncomputable def v22_o : R22_o → V
  | .r0 r0_0 r0_1 r1 r2 => .tuple [.agg [iI r0_0, iI r0_1, tint.lst ([] : List Int)], iI r1, iI r2]
  | .r1 r0_0 r0_1 r0_2 r1 r2 => .tuple [.agg [iI r0_0, iI r0_1, tint.lst r0_2], iI r1, iI r2]
theorem s22_o (b : Book) (d : Int) : Sm 0 (g22_o b d) (T22_o b d) (n22_o)
  | .e => ⟨400, by kernel_rfl⟩
theorem q22_o : ∀ r, bodyQ Try.prog Try.f8 (· = v22_o r) (n22_o r).1 (n22_o r).2
  | .r0 r0_0 r0_1 r1 r2 => ⟨.inr rfl, by simp [n22_o], (.tuple [.agg [iI r0_0, iI r0_1, .nils], iI r1, iI r2]), (.tuple [.agg [iI r0_0, iI r0_1, tint.lst ([] : List Int)], iI r1, iI r2]), by kernel_rfl, (.tuple rfl fun j hj => match j, hj with | 0, _ => .agg rfl (by intro j hj; match j, hj with | 0, _ => exact .imm rfl | 1, _ => exact .imm rfl | 2, _ => exact .weak (.imm rfl) VLe.nils) | 1, _ => .imm rfl | 2, _ => .imm rfl), rfl⟩
  | .r1 r0_0 r0_1 r0_2 r1 r2 => bq (.tuple [.agg [iI r0_0, iI r0_1, tint.lst r0_2], iI r1, iI r2]) (by kernel_rfl)
theorem w22_o (b : Book) (d : Int) {post : V → Prop} (h : WQ (T22_o b d) v22_o post .e) : PC 8 [.agg (cC b), iI d] post :=
  PCalls.wq Try.func8 (s22_o b d) q22_o h
inductive P22_e
  | e
inductive R22_e
  | r0 (r0_0 : Int) (r0_1 : Int) (r1 : Int) (r2 : Int)
noncomputable def T22_e (b : Book) (d : Int) : P22_e → Tr P22_e R22_e
  | .e => (.call 16 [.agg (cC b), iI d] (.tuple [.nil, iI (askedR b d)]) true true (.br ((askedR b d) != (0 : Int)) (.out (.r0 0 0 0 (askedR b d))) (.wait 2 .never)))
noncomputable def g22_e (b : Book) (d : Int) : P22_e → List Item × St
  | .e => bd Try.f8 [.agg (cC b), iI d] 41
noncomputable def n22_e : R22_e → Exit × St
  | .r0 r0_0 r0_1 r1 r2 => (.ret, ⟨mk 43 [(4, .ref 1 0 0), (5, iI r1), (6, iI r2)], [.gone, .cells [iI r0_0, iI r0_1, .nils]], []⟩)
noncomputable def v22_e : R22_e → V
  | .r0 r0_0 r0_1 r1 r2 => .tuple [.agg [iI r0_0, iI r0_1, tint.lst ([] : List Int)], iI r1, iI r2]
theorem s22_e (b : Book) (d : Int) : Sm 0 (g22_e b d) (T22_e b d) (n22_e)
  | .e => ⟨400, by kernel_rfl⟩
theorem q22_e : ∀ r, bodyQ Try.prog Try.f8 (· = v22_e r) (n22_e r).1 (n22_e r).2
  | .r0 r0_0 r0_1 r1 r2 => ⟨.inr rfl, by simp [n22_e], (.tuple [.agg [iI r0_0, iI r0_1, .nils], iI r1, iI r2]), (.tuple [.agg [iI r0_0, iI r0_1, tint.lst ([] : List Int)], iI r1, iI r2]), by kernel_rfl, (.tuple rfl fun j hj => match j, hj with | 0, _ => .agg rfl (by intro j hj; match j, hj with | 0, _ => exact .imm rfl | 1, _ => exact .imm rfl | 2, _ => exact .weak (.imm rfl) VLe.nils) | 1, _ => .imm rfl | 2, _ => .imm rfl), rfl⟩
theorem w22_e (b : Book) (d : Int) {post : V → Prop} (h : WQ (T22_e b d) v22_e post .e) : PC 8 [.agg (cC b), iI d] post :=
  PCalls.wq Try.func8 (s22_e b d) q22_e h
theorem sem22 {h : List Blk} {i n : Nat} {c0 : Nat → Nat → V} (f : Nat → Int) (R : List Int) (hi : h[i]? = some (.rows 3 1 n c0)) (hn : n ≤ 3) (hR : ∀ r, r < n → R.getD r 0 = f r) :
    SemOK Try.prog (opAt Try.f8 8 4) [(.tmp 37, .row i n), (.tmp 39, .list 1 3 (litC 1 3 [iI (f 0), iI (f 1), iI (f 2)]))] h (iI n) (h.set i (.rows 3 1 n (rowsOf tint R))) := by
  have e : opAt Try.f8 8 4 = .call { callee := .builtin .copy, args := #[.tmp 37, .tmp 39], argTypes := #[36, 36] } := by kernel_rfl
  rw [e]
  refine sem_copyK (e := 3) hn (by kernel_rfl) (by kernel_rfl) hi (fun r hr => ?_) (fun r hr => ?_)
  · obtain rfl | rfl | rfl : r = 0 ∨ r = 1 ∨ r = 2 := by omega
    all_goals rfl
  · show V.int .i64 (R.getD r 0) = _
    rw [hR r hr]
    obtain rfl | rfl | rfl : r = 0 ∨ r = 1 ∨ r = 2 := by omega
    all_goals rfl
theorem vmk0 {r n j : Nat} (hr : r < n) (hj : j < 1) : VLe (([iI 0] : List V).getD j uU) (rowsOf tint (List.replicate n 0) r j) := by
  obtain rfl : j = 0 := by omega
  have : rowsOf tint (List.replicate n 0) r 0 = iI 0 := by
    show V.int .i64 ((List.replicate n 0).getD r 0) = _
    simp [List.getD_eq_getElem?_getD, List.getElem?_replicate, hr]
  rw [this]; exact VLe.refl _
theorem vlen {l : List Int} {n : Nat} (h : l.length = n) : VLe (.list 1 n (rowsOf tint l)) (tint.lst l) := by subst h; exact VLe.refl _
theorem vtel {a b x y : V} (h : VLe x y) (j : Nat) : VLe (([a, b, x] : List V).getD j uU) (([a, b, y] : List V).getD j uU) :=
  match j with
  | 0 => VLe.refl _
  | 1 => VLe.refl _
  | 2 => h
  | _ + 3 => VLe.refl _
theorem c22 (b : Book) (d : Int) (hs : SmB b) : PC 8 [.agg (tBook.cells b), iI d] (· = .tuple [.agg (tTruth.cells (firstT b d).1), iI (firstT b d).2.1, iI (firstT b d).2.2]) := by
  by_cases ha : askedR b d = 0
  · obtain ⟨h, hd1, hd2, hday⟩ := asked_ok ha
    have hnr := h.nr
    have k63 := c63y b d ha
    have k75 := c75 b d ha
    by_cases h0 : (agreeD b d).length = 0
    · have e : firstT b d = (⟨0, 0, []⟩, 0, 8) := by
        have hx : explainedR b d 0 = ([], 8) := by unfold explainedR; rw [if_neg (fun q => q rfl), if_pos h0]
        unfold firstT; rw [ha, hx]; rfl
      have e2 := firstS_none h0
      rw [e2] at k75
      refine w22_o b d (WP.step ?_)
      simp only [T22_o, Go, Ends', v22_o, Tr.sure, SS, e2]
      repeat' with_reducible first | intro _ | apply And.intro
      all_goals first | exact k63 | exact k75 | (simp [e, tTruth, Go, Ends', v22_o, -List.getD_eq_getElem?_getD, *]; done)
    · have h1 : 0 < (agreeD b d).length := by omega
      have e : firstT b d = (bestD (agreeD b d), ((agreeD b d).length : Int), 0) := by
        have hx : explainedR b d 0 = (agreeD b d, 0) := by unfold explainedR; rw [if_neg (fun q => q rfl), if_neg h0]
        unfold firstT; rw [ha, hx]; rfl
      have e2 := firstS_eq h hday h1
      have hal := agreeD_len h hday
      have hbl := (agreeD_in h hday _ (bestD_mem h1)).1
      rw [e2] at k75
      have q0 : ¬ (((agreeD b d).length : Nat) : Int) = 0 := by omega
      have q1 : ((b.rooms.length : Nat) : Int) ≤ 4294967296 := by omega
      generalize bestD (agreeD b d) = t at *
      have ks := fun {hh : List Blk} {i : Nat} {c0 : Nat → Nat → V} (hi : hh[i]? = some (.rows 3 1 b.rooms.length c0)) => sem22 (fnL t.rooms) t.rooms hi hnr (fun r hr => rfl)
      refine w22_o b d (WP.step ?_)
      simp only [T22_o, Go, Ends', v22_o, Tr.sure, SS, e2, e, q0]
      repeat' with_reducible first | intro _ | apply And.intro
      all_goals first | exact k63 | exact k75 | exact (ov22 _ _ _ (by simp [q1])) | exact (ks rfl) | exact (vmk0 (by assumption) (by assumption)) | exact (vlen hbl) | exact (vtel (vlen hbl) _) | exact rfl | (simp [e, tTruth, q1, Go, Ends', v22_o, -List.getD_eq_getElem?_getD, *]; done)
  · have e : firstT b d = (⟨0, 0, []⟩, 0, askedR b d) := by
      have hx : explainedR b d (askedR b d) = ([], askedR b d) := by unfold explainedR; rw [if_pos ha]
      unfold firstT; rw [hx, if_pos ha]
    have k63 := c63n b d hs ha
    refine w22_e b d (WP.step ?_)
    simp only [T22_e, Go, Ends', v22_e, Tr.sure, SS, ha]
    repeat' with_reducible first | intro _ | apply And.intro
    all_goals first | exact k63 | (simp [e, tTruth, Go, Ends', v22_e, -List.getD_eq_getElem?_getD, *]; done)
inductive P29_o
  | e
inductive R29_o
  | r0 (r0 : Nat → Int) (r1 : Int)
  | r1 (r0_0 : Int) (r0_1 : Int) (r0_2 : Int) (r0_3 : Int) (r1 : Int)
noncomputable def T29_o (b : Book) (d : Int) : P29_o → Tr P29_o R29_o
  | .e => let c1 := firstS b d; let c2 := lookOf b d; let c3 := c1.1.children * b.price; let c4 := extraR b (firstT b d).1.rooms; (.wait 2 (.telb 1 1 4 (fun _ j => ([iI 0] : List V).getD j uU) (rowsFn tint (fun _ => tint.zero)) (.call 16 [.agg (cC b), iI d] (.tuple [lk c2, iI 0]) true true (.br ((0 : Int) != (0 : Int)) (.out (.r0 (fun _ => tint.zero) 0)) (.call 22 [lk c2] (.tuple [.agg [iI (c1.1.adults), iI (c1.1.children), iI (c1.1.rooms 0), iI (c1.1.rooms 1), iI (c1.1.rooms 2)], iI (c1.2)]) true true (.br (c1.2 == (0 : Int)) (.out (.r0 (fun _ => tint.zero) 8)) (.call 17 [lk c2] (.tuple [iI (feesR c2.b c2.day), iI (pupilsR c2.day)]) true true (.front [(15, 19, [lk c2, .agg [iI (c1.1.rooms 0), iI (c1.1.rooms 1), iI (c1.1.rooms 2)]], iI c4)] [] ((true && (true && (true && (true && ((inR .i64 (c1.1.adults * b.price)) && (true && (true && (true && (true && ((inR .i64 c3) && ((decide ((2 : Int) ≠ 0) && inR .i64 (c3.tdiv (2 : Int))) && (true && (true && (true && (true && (true && true)))))))))))))))) && true) true (.out (.r1 (c1.1.adults * b.price) (c3.tdiv (2 : Int)) (feesR c2.b c2.day) c4 0))))))))))
noncomputable def g29_o (b : Book) (d : Int) : P29_o → List Item × St
  | .e => bd Try.f26 [.agg (cC b), iI d] 49
noncomputable def n29_o : R29_o → Exit × St
  | .r0 r0 r1 => (.ret, ⟨mk 51 [(4, .ref 1 0 0), (5, iI r1)], [.gone, .rows 82 1 4 (rowsFn tint r0)], []⟩)
  | .r1 r0_0 r0_1 r0_2 r0_3 r1 => (.ret, ⟨mk 51 [(4, .ref 1 0 0), (5, iI r1)], [.gone, .rows 82 1 4 (fun r j => ([iI r0_0, iI r0_1, iI r0_2, iI r0_3] : List V).getD (r * 1 + j) uU)], []⟩)
noncomputable def v29_o : R29_o → V
  | .r0 r0 r1 => .tuple [.arr 1 4 (rowsFn tint r0), iI r1]
  | .r1 r0_0 r0_1 r0_2 r0_3 r1 => .tuple [.arr 1 4 (rowsFn tint (fn4 r0_0 r0_1 r0_2 r0_3)), iI r1]
theorem s29_o (b : Book) (d : Int) : Sm 0 (g29_o b d) (T29_o b d) (n29_o)
  | .e => ⟨400, by kernel_rfl⟩
theorem q29_o : ∀ r, bodyQ Try.prog Try.f26 (· = v29_o r) (n29_o r).1 (n29_o r).2
  | .r0 r0 r1 => bq (.tuple [.arr 1 4 (rowsFn tint r0), iI r1]) (by kernel_rfl)
  | .r1 r0_0 r0_1 r0_2 r0_3 r1 => ⟨.inr rfl, by simp [n29_o], (.tuple [.arr 1 4 (fun r j => ([iI r0_0, iI r0_1, iI r0_2, iI r0_3] : List V).getD (r * 1 + j) uU), iI r1]), (.tuple [.arr 1 4 (rowsFn tint (fn4 r0_0 r0_1 r0_2 r0_3)), iI r1]), by kernel_rfl, (.tuple rfl fun j hj => match j, hj with | 0, _ => .weak (.imm rfl) (arr4 _ _ _ _) | 1, _ => .imm rfl), rfl⟩
theorem w29_o (b : Book) (d : Int) {post : V → Prop} (h : WQ (T29_o b d) v29_o post .e) : PC 26 [.agg (cC b), iI d] post :=
  PCalls.wq Try.func26 (s29_o b d) q29_o h
inductive P29_e
  | e
inductive R29_e
  | r0 (r0 : Nat → Int) (r1 : Int)
noncomputable def T29_e (b : Book) (d : Int) : P29_e → Tr P29_e R29_e
  | .e => (.wait 2 (.telb 1 1 4 (fun _ j => ([iI 0] : List V).getD j uU) (rowsFn tint (fun _ => tint.zero)) (.call 16 [.agg (cC b), iI d] (.tuple [.nil, iI (askedR b d)]) true true (.br ((askedR b d) != (0 : Int)) (.out (.r0 (fun _ => tint.zero) (askedR b d))) (.wait 2 .never)))))
noncomputable def g29_e (b : Book) (d : Int) : P29_e → List Item × St
  | .e => bd Try.f26 [.agg (cC b), iI d] 49
noncomputable def n29_e : R29_e → Exit × St
  | .r0 r0 r1 => (.ret, ⟨mk 51 [(4, .ref 1 0 0), (5, iI r1)], [.gone, .rows 82 1 4 (rowsFn tint r0)], []⟩)
noncomputable def v29_e : R29_e → V
  | .r0 r0 r1 => .tuple [.arr 1 4 (rowsFn tint r0), iI r1]
theorem s29_e (b : Book) (d : Int) : Sm 0 (g29_e b d) (T29_e b d) (n29_e)
  | .e => ⟨400, by kernel_rfl⟩
theorem q29_e : ∀ r, bodyQ Try.prog Try.f26 (· = v29_e r) (n29_e r).1 (n29_e r).2
  | .r0 r0 r1 => bq (.tuple [.arr 1 4 (rowsFn tint r0), iI r1]) (by kernel_rfl)
theorem w29_e (b : Book) (d : Int) {post : V → Prop} (h : WQ (T29_e b d) v29_e post .e) : PC 26 [.agg (cC b), iI d] post :=
  PCalls.wq Try.func26 (s29_e b d) q29_e h
theorem fn4_zero : fn4 0 0 0 0 = fun _ => tint.zero := by
  funext i
  match i with
  | 0 => rfl
  | 1 => rfl
  | 2 => rfl
  | 3 => rfl
  | _ + 4 => rfl
theorem vagg (f : Nat → Int) : VLe (.agg [iI (f 0), iI (f 1), iI (f 2)]) (.arr 1 3 (rowsFn tint f)) := fun β G x h => by
  cases h with
  | agg hs hj =>
    refine .arr (by simpa using hs.symm) fun r j hr hj' => ?_
    obtain rfl : j = 0 := by omega
    have := hj r (by simpa using hr)
    rw [Nat.mul_one, Nat.add_zero]
    obtain rfl | rfl | rfl : r = 0 ∨ r = 1 ∨ r = 2 := by omega
    all_goals exact this.low rfl
theorem c68g (x : Look) (L : List Int) (h : OkBook x.b) (hL : ∀ n ∈ L, 0 ≤ n ∧ n ≤ 60) (hl : L.length = x.b.rooms.length) : PC 19 [lk x, .agg [iI (fnL L 0), iI (fnL L 1), iI (fnL L 2)]] (· = iI (extraR x.b L)) :=
  PCalls.arg (pre := [lk x]) (c68 x L h hL hl) (vagg (fnL L))
theorem c29 (b : Book) (d : Int) (hs : SmB b) : PC 26 [.agg (tBook.cells b), iI d] (· = .tuple [.arr 1 4 (rowsFn tint (splitR b d).1), iI (splitR b d).2]) := by
  have hz : ∀ r j, VLe (([iI 0] : List V).getD j uU) (rowsFn tint (fun _ => tint.zero) r j) := fun r j => VLe.refl _
  have hz' : ∀ r j, VLe (([iI 0] : List V).getD j uU) (rowsFn tint (fun _ => 0) r j) := fun r j => VLe.refl _
  have hzz : (fun _ : Nat => tint.zero) = fun _ => (0 : Int) := rfl
  by_cases ha : askedR b d = 0
  · obtain ⟨h, hd1, hd2, hday⟩ := asked_ok ha
    have hnr := h.nr
    have k63 := c63y b d ha
    have k75 := c75 b d ha
    have hk := lookOf_ok ha
    have k64 := c64 (lookOf b d) hk
    by_cases h0 : (agreeD b d).length = 0
    · have e : splitR b d = (fun _ => tint.zero, 8) := by
        have hx : explainedR b d 0 = ([], 8) := by unfold explainedR; rw [if_neg (fun q => q rfl), if_pos h0]
        have e1 : firstT b d = (⟨0, 0, []⟩, 0, 8) := by unfold firstT; rw [ha, hx]; rfl
        unfold splitR; rw [e1, fn4_zero]; rfl
      have e2 := firstS_none h0
      rw [e2] at k75
      refine w29_o b d (WP.step ?_)
      simp only [T29_o, Go, Ends', v29_o, Tr.sure, SS, e2]
      repeat' with_reducible first | intro _ | apply And.intro
      all_goals first | exact k63 | exact k75 | exact (by with_reducible exact hz _ _) | (simp [e, Go, Ends', v29_o, -List.getD_eq_getElem?_getD, *]; done)
    · have h1 : 0 < (agreeD b d).length := by omega
      have e1 : firstT b d = (bestD (agreeD b d), ((agreeD b d).length : Int), 0) := by
        have hx : explainedR b d 0 = (agreeD b d, 0) := by unfold explainedR; rw [if_neg (fun q => q rfl), if_neg h0]
        unfold firstT; rw [ha, hx]; rfl
      have e : splitR b d = (fn4 (b.price * (bestD (agreeD b d)).adults) (b.price.tdiv 2 * (bestD (agreeD b d)).children) (feesD b d) (extraR b (bestD (agreeD b d)).rooms), 0) := by unfold splitR; rw [e1]; rfl
      have e2 := firstS_eq h hday h1
      obtain ⟨m1, m2, m3, m4⟩ := agreeD_in h hday _ (bestD_mem h1)
      rw [e2] at k75
      have q0 : ¬ (((agreeD b d).length : Nat) : Int) = 0 := by omega
      generalize bestD (agreeD b d) = t at *
      have k68 := c68g (lookOf b d) t.rooms h m2 m1
      have hp := half_in h
      have hm1 := half_mul h m3
      have hm2 := half_mul h m4
      have e3 : t.adults * b.price = b.price * t.adults := Int.mul_comm _ _
      have e4 : (t.children * b.price).tdiv 2 = b.price.tdiv 2 * t.children := by
        have e : t.children * b.price = 2 * (b.price.tdiv 2 * t.children) := by
          rw [Int.mul_comm]
          calc b.price * t.children = (2 * b.price.tdiv 2) * t.children := by rw [hp.2.2]
            _ = _ := Int.mul_assoc _ _ _
        rw [e, Int.tdiv_eq_ediv_of_nonneg (by omega)]; omega
      have e5 : t.children * b.price = b.price * t.children := Int.mul_comm _ _
      have q1 : inR .i64 (t.adults * b.price) = true := inR64 (by omega) (by omega)
      have q2 : inR .i64 (t.children * b.price) = true := inR64 (by omega) (by omega)
      have q3 : inR .i64 (b.price.tdiv 2 * t.children) = true := inR64 (by omega) (by omega)
      have q4 : inR .i64 ((t.children * b.price).tdiv 2) = true := by rw [e4]; exact q3
      have hfe : feesR (lookOf b d).b (lookOf b d).day = feesD b d := rfl
      refine w29_o b d (WP.step ?_)
      simp only [T29_o, Go, Ends', v29_o, Tr.sure, SS, e2, q0, e1]
      repeat' with_reducible first | intro _ | apply And.intro
      all_goals first | exact k63 | exact k75 | exact k64 | exact k68 | exact (by with_reducible exact hz _ _) | (simp [e, q1, q2, q3, q4, hfe, whoT, Go, Ends', v29_o, -List.getD_eq_getElem?_getD, *]; done) | (simp_all [e, q1, q2, q3, q4, hfe, whoT, Go, Ends', v29_o, -List.getD_eq_getElem?_getD]; done)
  · have e : splitR b d = (fun _ => tint.zero, askedR b d) := by
      have hx : explainedR b d (askedR b d) = ([], askedR b d) := by unfold explainedR; rw [if_pos ha]
      have e1 : firstT b d = (⟨0, 0, []⟩, 0, askedR b d) := by unfold firstT; rw [hx, if_pos ha]
      unfold splitR; rw [e1, if_pos ha, fn4_zero]
    have k63 := c63n b d hs ha
    refine w29_e b d (WP.step ?_)
    simp only [T29_e, Go, Ends', v29_e, Tr.sure, SS, ha]
    repeat' with_reducible first | intro _ | apply And.intro
    all_goals first | exact k63 | exact (by with_reducible exact hz _ _) | (simp [e, Go, Ends', v29_e, -List.getD_eq_getElem?_getD, *]; done)
end
end Go.Proofs.Ytfgmckfomckliaa
