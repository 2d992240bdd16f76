/-
  Part of the proof of the law DoorKnown. Conditions: those that stand in each theorem.
-/
import Derived.MapKept
import Derived.Maps.RangeRun
import Derived.Laws.CopyRow
import Derived.Laws.IdiomCopy
import Derived.Lib.OthersKept
import Derived.Sort.Grow
import Derived.Lib.SlicesCompact
import Derived.WideLaws
import Derived.Lib.SliceRun
import Derived.Test.YtfgmckfomckliaaB05
set_option linter.unusedSimpArgs false
set_option linter.unusedVariables false
namespace Ab
open Go
theorem dOK_spec {S : St} (h : dOK S = true) : ∀ j, j ∈ S.d → ∃ x, S.h[j]? = some (.obj x) := fun j hj => by
  have := List.all_eq_true.1 h j hj
  unfold isObj at this
  split at this
  · rename_i x hx; exact ⟨x, hx⟩
  · cases this
theorem marksOK_spec {h : List Blk} {d : List Nat} (hm : marksOK h d = true) : ∀ j, j ∈ d → h[j]? = some (.obj (.deferred (some []))) := fun j hj => by
  have := List.all_eq_true.1 hm j hj
  split at this
  · rename_i ds hd
    cases ds with
    | nil => exact hd
    | cons a l => cases this
  · cases this
section
variable {P : Program} {ro : Env} {ops : Array Oper} {Q : Exit → St → Prop} {Q1 : Exit → St → Prop} {L : List Item → St → Prop}
theorem map_some_eq {α β : Type} {f : α → β} {x : Option α} {y : β} (h : x.map f = some y) : ∃ a, x = some a ∧ f a = y := by
  cases x with
  | none => cases h
  | some a => exact ⟨a, rfl, by simpa using h⟩
theorem opG_ok {i : Nat} {is : List Nat} {o : Oper} {S : St} {g : DT} {k : KT} (hi : ops[i]? = some o) (hw : wantedV ops S o = some true) (h : opG P o S g k = some g) (hg : g.holds P ro Q L)
    (hk : ∀ S' g', k S' g' = some g' → g'.holds P ro Q L → AOps P ro ops is S' Q1) : AOps P ro ops (i :: is) S Q1 := by
  unfold opG at h
  split at h
  case h_2 => cases h
  rename_i ob v h' he
  split at h
  case isFalse => cases h
  rename_i hd
  have hdd : ∀ j, j ∈ S.d → h'[j]? = S.h[j]? := fun j hj => by
    obtain ⟨x, hx⟩ := dOK_spec hd j hj
    rw [hx]; exact evalOp_keeps_obj he j x hx
  split at h
  · split at h
    · obtain ⟨r, hr, e⟩ := map_some_eq h
      cases e
      obtain ⟨hb, hg'⟩ := hg
      subst hb
      exact AOps.step hi hw he hdd (hk _ _ hr hg')
    · cases h
  · split at h
    · rename_i hob
      subst hob
      exact AOps.step hi hw he hdd (hk _ _ h hg)
    · cases h
theorem exec1_ok {i : Nat} {is : List Nat} {o : Oper} {S : St} {g : DT} {k : KT} (hi : ops[i]? = some o) (hw : wantedV ops S o = some true) (h : exec1 P ro.m o S g k = some g) (hg : g.holds P ro Q L)
    (hk : ∀ S' g', k S' g' = some g' → g'.holds P ro Q L → AOps P ro ops is S' Q1) : AOps P ro ops (i :: is) S Q1 := by
  unfold exec1 at h
  split at h
  · rename_i f args ts hop
    split at h
    · rename_i f0 us0 v ob0 g'
      split at h
      · rename_i fid first caps hfn
        split at h
        · rename_i ob us hs
          obtain ⟨r, hr, e⟩ := map_some_eq h
          cases e
          obtain ⟨hob, hc, hg'⟩ := hg
          subst hob
          obtain ⟨h1, h2, h3⟩ := snapArgs_ok hs
          refine AOps.call_snap (post := (· = v)) hi hw hop hfn h1 h2 hc ?_ fun u hu => by subst hu; exact hk _ _ hr hg'
          rcases h3 with h3 | h3
          · exact .inl h3
          · exact .inr fun u hu => by subst hu; exact h3
        · cases h
      · cases h
    · rename_i f0 us0 v h0 h' g'
      split at h
      · rename_i fid first caps hfn
        split at h
        · rename_i hm
          obtain ⟨r, hr, e⟩ := map_some_eq h
          cases e
          obtain ⟨hc, hg'⟩ := hg
          exact AOps.hcall hi hw hop hfn hc (marksOK_spec hm) (hk _ _ hr hg')
        · cases h
      · cases h
    · rename_i X0 tr0 us0 us' g'
      split at h
      · rename_i q hf
        split at h
        · rename_i X tr hq
          split at h
          · rename_i hc
            obtain ⟨r, hr, e⟩ := map_some_eq h
            cases e
            obtain ⟨h1, h2, h3, h4⟩ := hc
            obtain ⟨hgo, hY, hpre, hv, hg'⟩ := hg
            exact AOps.yield hi hw hop hf hq h1 hv h2 hgo hpre hY h3 (dOK_spec h4) (hk _ _ hr hg')
          · cases h
        · cases h
      · cases h
    · cases h
  · rename_i args ts hop
    split at h
    · rename_i s x t t'
      split at h
      · rename_i htt
        subst htt
        split at h
        · rename_i ob p v S1 he
          split at h
          · rename_i b p' g'
            obtain ⟨r, hr, e⟩ := map_some_eq h
            cases e
            obtain ⟨hb, hp, hg'⟩ := hg
            exact AOps.append hi hw hop he hb hp (hk _ _ hr hg')
          · cases h
        · cases h
      · cases h
    · cases h
  · exact opG_ok hi hw h hg hk
theorem execG0_ok {i : Nat} {is : List Nat} {o : Oper} {S : St} {g : DT} {k : KT} (hi : ops[i]? = some o) (hw : wantedV ops S o = some true) (h : execG0 P ro.m o S g k = some g) (hg : g.holds P ro Q L)
    (hk : ∀ S' g', k S' g' = some g' → g'.holds P ro Q L → AOps P ro ops is S' Q1) : AOps P ro ops (i :: is) S Q1 := by
  unfold execG0 at h
  split at h
  · rename_i o0 us h0 v h' g'
    split at h
    · exact exec1_ok hi hw h hg hk
    split at h
    · rename_i hc
      obtain ⟨r, hr, e⟩ := map_some_eq h
      simp only [DT.sem.injEq, true_and] at e
      obtain ⟨rfl, e2, rfl, rfl⟩ := e
      obtain ⟨hs, hg'⟩ := hg
      rw [← e2] at hs
      exact AOps.sem hi hw hc.1 hs (marksOK_spec hc.2) (hk _ _ hr hg')
    · cases h
  · rename_i o0 us h0 n vs hs f
    split at h
    · exact exec1_ok hi hw h hg hk
    split at h
    · rename_i hc
      simp only [Option.some.injEq, DT.semn.injEq, true_and] at h
      obtain ⟨rfl, e2, rfl, hf⟩ := h
      obtain ⟨hs', hg'⟩ := hg
      rw [← e2] at hs'
      refine AOps.semn hi hw hc hs' fun j hj => ?_
      have hfj := congrFun hf j
      have hhj := hg' j hj
      split at hfj
      · rename_i hm
        refine ⟨marksOK_spec hm, ?_⟩
        cases hkj : k (St.put { S with h := hs j } o.dst (vs j)) (f j) with
        | none => rw [hkj] at hfj; rw [← hfj] at hhj; exact hhj.elim
        | some d =>
          rw [hkj] at hfj
          have : d = f j := hfj
          subst this
          exact hk _ _ hkj hhj
      · rw [← hfj] at hhj; exact hhj.elim
    · cases h
  · exact exec1_ok hi hw h hg hk
theorem AOps.frz {S S' : St} {Q1 : Exit → St → Prop} {i : Nat} {is : List Nat} (hf : frzS S i = some (true, S')) (rest : AOps P ro ops is S' Q1) : AOps P ro ops is S Q1 := fun β G K a w r => by
  obtain ⟨G', hG, K', hK, r'⟩ := r.frz hf
  exact mono_ops (fun e a w hp => hp.up (Homes.low_refl _ _) hG hK) (rest β G' K' a w r')
theorem AOps.vle {S : St} {Q1 : Exit → St → Prop} {j : Nat} {v : V} {is : List Nat} (hv : VLe (S.t.getD j .undef) v) (rest : AOps P ro ops is { S with t := S.t.set j v } Q1) : AOps P ro ops is S Q1 := fun β G K a w r =>
  rest β G K a w (r.retell (hv _ _ _ (r.tmp j)))
theorem wantedV_keep {S S' : St} {o : Oper} (hb : ∀ d c, S.t.getD d .undef = .bool c → S'.t.getD d .undef = .bool c) (h : wantedV ops S o = some true) : wantedV ops S' o = some true := by
  unfold wantedV at h ⊢
  cases hq : o.guard with
  | none => rfl
  | some q =>
    obtain ⟨j, want⟩ := q
    rw [hq] at h
    simp only at h ⊢
    cases hd : (ops[j]?).bind (·.dst) with
    | none => rw [hd] at h; simp at h
    | some d =>
      rw [hd] at h
      simp only at h ⊢
      cases hv : S.t.getD d .undef with
      | bool c => rw [hv] at h; rw [hb d c hv]; exact h
      | _ => rw [hv] at h; simp at h
theorem getD_map_bool {t : List V} {f : V → V} (hf : ∀ c, f (.bool c) = .bool c) {d : Nat} {c : Bool} (h : t.getD d .undef = .bool c) : (t.map f).getD d .undef = .bool c := by
  rw [List.getD_eq_getElem?_getD] at h ⊢
  rw [List.getElem?_map]
  cases hq : t[d]? with
  | none => rw [hq] at h; cases h
  | some v => rw [hq] at h; simp only [Option.getD_some] at h; subst h; simp [hf]
theorem getD_set_bool {t : List V} {j d : Nat} {v : V} {c : Bool} (hj : notBool (t.getD j .undef) = true) (hd : t.getD d .undef = .bool c) : (t.set j v).getD d .undef = .bool c := by
  by_cases e : d = j
  · subst e; rw [hd] at hj; cases hj
  · rw [List.getD_eq_getElem?_getD] at hd ⊢
    rw [List.getElem?_set_ne (Ne.symm e)]; exact hd
theorem frzS_bool {S S' : St} {i : Nat} {b : Bool} (h : frzS S i = some (b, S')) : ∀ d c, S.t.getD d .undef = .bool c → S'.t.getD d .undef = .bool c := fun d c hd => by
  unfold frzS at h
  split at h
  · unfold frzR at h
    simp only [Option.some.injEq, Prod.mk.injEq] at h
    obtain ⟨_, rfl⟩ := h
    exact getD_map_bool (fun _ => rfl) hd
  · simp only [Option.some.injEq, Prod.mk.injEq] at h
    obtain ⟨_, rfl⟩ := h
    exact getD_map_bool (fun _ => rfl) hd
  · cases h
theorem execG_ok' {i : Nat} {is : List Nat} {o : Oper} {k : KT} (hi : ops[i]? = some o) (hk : ∀ S' g', k S' g' = some g' → g'.holds P ro Q L → AOps P ro ops is S' Q1) :
    ∀ (n : Nat) (g : DT) (S : St), sizeOf g ≤ n → wantedV ops S o = some true → execG P ro.m o S g k = some g → g.holds P ro Q L → AOps P ro ops (i :: is) S Q1 := by
  intro n
  induction n with
  | zero => intro g S hs; cases g <;> simp at hs
  | succ n ih =>
    intro g S hs hw h hg
    unfold execG at h
    split at h
    · split at h
      · rename_i b S' hf
        obtain ⟨r, hr, e⟩ := map_some_eq h
        simp only [DT.wait.injEq, true_and, DT.frz.injEq] at e
        obtain ⟨rfl, rfl⟩ := e
        obtain ⟨rfl, hg'⟩ := hg
        exact AOps.frz hf (ih _ S' (by simp at hs ⊢; omega) (wantedV_keep (frzS_bool hf) hw) hr hg')
      · exact execG0_ok hi hw h hg hk
    · split at h
      · rename_i hgd
        obtain ⟨r, hr, e⟩ := map_some_eq h
        simp only [DT.wait.injEq, true_and, DT.vle.injEq] at e
        obtain ⟨e1, rfl⟩ := e
        obtain ⟨hv, hg'⟩ := hg
        rw [← e1] at hv
        refine AOps.vle hv (ih _ _ (by simp at hs ⊢; omega) ?_ hr hg')
        rcases hgd with hgd | hgd
        · cases hq : o.guard with | none => simp [wantedV, hq] | some q => simp [hq] at hgd
        · exact wantedV_keep (fun d c hd => getD_set_bool hgd hd) hw
      · cases h
    · exact execG0_ok hi hw h hg hk
theorem execG_ok {i : Nat} {is : List Nat} {o : Oper} {S : St} {g : DT} {k : KT} (hi : ops[i]? = some o) (hw : wantedV ops S o = some true) (h : execG P ro.m o S g k = some g) (hg : g.holds P ro Q L)
    (hk : ∀ S' g', k S' g' = some g' → g'.holds P ro Q L → AOps P ro ops is S' Q1) : AOps P ro ops (i :: is) S Q1 :=
  execG_ok' hi hk _ g S (Nat.le_refl _) hw h hg
theorem runOpsG_ok {k : KT} (hk : ∀ S g, k S g = some g → g.holds P ro Q L → Q1 .normal S) : ∀ (is : List Nat) (prev : Option (Nat × Bool)) (S : St) (g : DT), runOpsG P ro.m ops k is prev S g = some g → g.holds P ro Q L → AOps P ro ops is S Q1 := by
  intro is
  induction is with
  | nil => intro prev S g h hg; exact AOps.nil (hk S g h hg)
  | cons i is ih =>
    intro prev S g h hg
    simp only [runOpsG] at h
    split at h
    · cases h
    rename_i o hi
    split at h
    · rename_i hgd
      exact execG_ok hi (by simp [wantedV, hgd]) h hg fun S' g' h' hg' => ih _ S' g' h' hg'
    · rename_i j want hgd
      split at h
      · split at h
        · rename_i hw; exact execG_ok hi hw h hg fun S' g' h' hg' => ih _ S' g' h' hg'
        · rename_i hw; exact AOps.skip hi hw (ih _ _ _ h hg)
        · cases h
      · split at h
        · cases h
        rename_i d hd
        split at h
        · rename_i b hb
          have wnt : ∀ c, wantedV ops { S with t := S.t.set d (.bool c) } o = some (c == want) := fun c => by
            have hlt : d < S.t.length := by
              rcases Nat.lt_or_ge d S.t.length with q | q
              · exact q
              · rw [List.getD_eq_getElem?_getD, List.getElem?_eq_none q] at hb; cases hb
            unfold wantedV
            rw [hgd]
            simp only [hd, List.getD_eq_getElem?_getD, List.getElem?_set_self hlt, Option.getD_some]
          have go : ∀ (c : Bool) (g2 : DT), (if want = c then execG P ro.m o { S with t := S.t.set d (.bool c) } g2 (runOpsG P ro.m ops k is (some (j, want))) else runOpsG P ro.m ops k is (some (j, want)) (St.put { S with t := S.t.set d (.bool c) } o.dst (.tuple [])) g2) = some g2 → g2.holds P ro Q L →
              AOps P ro ops (i :: is) { S with t := S.t.set d (.bool c) } Q1 := fun c g2 h2 hg2 => by
            split at h2
            · rename_i hwc
              exact execG_ok hi (by rw [wnt, hwc]; simp) h2 hg2 fun S' g' h' hg' => ih _ S' g' h' hg'
            · rename_i hwc
              have : (c == want) = false := by cases c <;> cases want <;> simp_all
              exact AOps.skip hi (by rw [wnt, this]) (ih _ _ _ h2 hg2)
          split at h
          · rename_i b0 gt gf
            split at h
            · rename_i r1 r2 h1 h2
              cases h
              exact AOps.split d hb (fun hb' => go true _ h1 (hg.1 hb')) (fun hb' => go false _ h2 (hg.2 hb'))
            · cases h
          · rename_i c g'
            obtain ⟨r, hr, e⟩ := map_some_eq h
            cases e
            refine AOps.split d hb (fun hb' => ?_) (fun hb' => ?_)
            · subst hb'; exact go true _ hr hg
            · subst hb'; exact go false _ hr hg
          · cases h
        · rename_i vs hv
          refine AOps.skip hi ?_ (ih _ _ _ h hg)
          unfold wantedV
          rw [hgd]
          simp only [hd, hv]
        · cases h
theorem RS.retellB {β : Homes} {G K : Kept} {S : St} {a : Act} {w : World} (r : RS β G K S a w) {i : Nat} {e : TypeId} {wd k : Nat} {c c' : Nat → Nat → V} (hi : S.h[i]? = some (.rows e wd k c)) (hc : ∀ r j, r < k → j < wd → VLe (c r j) (c' r j)) : RS β G K { S with h := S.h.set i (.rows e wd k c') } a w := by
  have hil : i < S.h.length := (List.getElem?_eq_some_iff.1 hi).1
  have look : ∀ {j : Nat} {b : Blk}, (S.h.set i (.rows e wd k c'))[j]? = some b → (j = i ∧ b = .rows e wd k c') ∨ (j ≠ i ∧ S.h[j]? = some b) := fun {j b} hj => by
    by_cases q : j = i
    · subst q; rw [List.getElem?_set_self hil] at hj; cases hj; exact .inl ⟨rfl, rfl⟩
    · rw [List.getElem?_set_ne (Ne.symm q)] at hj; exact .inr ⟨q, hj⟩
  have back : ∀ {j : Nat} {b : Blk}, (S.h.set i (.rows e wd k c'))[j]? = some b → b ≠ .gone → ∃ b', S.h[j]? = some b' ∧ b' ≠ .gone := fun {j b} hj hb => by
    rcases look hj with ⟨rfl, rfl⟩ | ⟨_, h⟩
    · exact ⟨_, hi, by simp⟩
    · exact ⟨_, h, hb⟩
  refine ⟨⟨by simpa using r.h.len, fun j b hj => ?_, fun p q x y b b' hp hq gp gq bp bq hxy => ?_, fun j x b hj hg hb => ?_, r.h.keep, r.h.gk, r.h.amb, fun j X tr hj => ?_⟩, r.size, r.tmp, r.marks, fun j hj => ?_⟩
  · rcases look hj with ⟨rfl, rfl⟩ | ⟨_, h⟩
    · have hB := r.h.blk _ _ hi
      revert hB
      cases β[j]?.getD .void with
      | void => exact id
      | nil => exact id
      | ext l => exact id
      | lie y =>
        rintro ⟨h0, hn, hcm, ca, h1, h2, h3, h4, h5⟩
        exact ⟨h0, hn, hcm, ca, h1, h2, h3, h4, fun q j hq hj => hc q j hq hj _ _ _ (h5 q j hq hj)⟩
    · exact r.h.blk _ _ h
  · obtain ⟨b1, q1, g1⟩ := back hp gp
    obtain ⟨b2, q2, g2⟩ := back hq gq
    exact r.h.inj p q x y b1 b2 q1 q2 g1 g2 bp bq hxy
  · obtain ⟨b1, q1, g1⟩ := back hj hg
    exact r.h.sep j x b1 q1 g1 hb
  · rcases look hj with ⟨_, h⟩ | ⟨_, h⟩
    · cases h
    · obtain ⟨l, E, h1, h2, h3, h4⟩ := r.h.ext j X tr h
      refine ⟨l, E, h1, h2, h3, fun b hE => ⟨(h4 b hE).1, fun q y k1 hq g hbq => ?_⟩⟩
      obtain ⟨b1, q1, g1⟩ := back hq g
      exact (h4 b hE).2 q y b1 q1 g1 hbq
  · obtain ⟨x, h1, h2, h3⟩ := r.mark j hj
    have hne : i ≠ S.d.getD j 0 := by intro e; rw [← e, hi] at h3; cases h3
    refine ⟨x, h1, h2, ?_⟩
    show (S.h.set i _)[S.d.getD j 0]? = _
    rw [List.getElem?_set_ne hne]; exact h3
theorem RH.swap {h : List Blk} {β : Homes} {G K : Kept} {w : World} (r : RH β G K h w) {i : Nat} {k k' : Blk} (hi : h[i]? = some k) (hk : k ≠ .gone) (he : isExt k' = false) (hb : BlkOK G β w k' (β[i]?.getD .void)) : RH β G K (h.set i k') w := by
  have hil : i < h.length := (List.getElem?_eq_some_iff.1 hi).1
  have look : ∀ {j : Nat} {b : Blk}, (h.set i k')[j]? = some b → (j = i ∧ b = k') ∨ (j ≠ i ∧ h[j]? = some b) := fun {j b} hj => by
    by_cases q : j = i
    · subst q; rw [List.getElem?_set_self hil] at hj; cases hj; exact .inl ⟨rfl, rfl⟩
    · rw [List.getElem?_set_ne (Ne.symm q)] at hj; exact .inr ⟨q, hj⟩
  have back : ∀ {j : Nat} {b : Blk}, (h.set i k')[j]? = some b → b ≠ .gone → ∃ b', h[j]? = some b' ∧ b' ≠ .gone := fun {j b} hj hb => by
    rcases look hj with ⟨rfl, rfl⟩ | ⟨_, h⟩
    · exact ⟨_, hi, hk⟩
    · exact ⟨_, h, hb⟩
  refine ⟨by simpa using r.len, fun j b hj => ?_, fun p q x y b b' hp hq gp gq bp bq hxy => ?_, fun j x b hj hg hb => ?_, r.keep, r.gk, r.amb, fun j X tr hj => ?_⟩
  · rcases look hj with ⟨rfl, rfl⟩ | ⟨_, h⟩
    · exact hb
    · exact r.blk _ _ h
  · obtain ⟨b1, q1, g1⟩ := back hp gp
    obtain ⟨b2, q2, g2⟩ := back hq gq
    exact r.inj p q x y b1 b2 q1 q2 g1 g2 bp bq hxy
  · obtain ⟨b1, q1, g1⟩ := back hj hg
    exact r.sep j x b1 q1 g1 hb
  · rcases look hj with ⟨_, h⟩ | ⟨_, h⟩
    · subst h; simp [isExt] at he
    · obtain ⟨l, E, h1, h2, h3, h4⟩ := r.ext j X tr h
      refine ⟨l, E, h1, h2, h3, fun b hE => ⟨(h4 b hE).1, fun q y k1 hq g hbq => ?_⟩⟩
      obtain ⟨b1, q1, g1⟩ := back hq g
      exact (h4 b hE).2 q y b1 q1 g1 hbq
theorem RS.retellL {β : Homes} {G K : Kept} {S : St} {a : Act} {w : World} (r : RS β G K S a w) {i : Nat} {e : TypeId} {wd k r0 j0 : Nat} {c c' : Nat → Nat → V} {v : V} (hi : S.h[i]? = some (.rowsL e wd k c r0 j0 v)) (hv : v.under 0 = true)
    (hc : ∀ r j, r < k → j < wd → VLe (if r = r0 ∧ j = j0 then v else c r j) (c' r j)) : RS β G K { S with h := S.h.set i (.rows e wd k c') } a w := by
  have hB := r.h.blk _ _ hi
  refine ⟨r.h.swap hi (by simp) rfl ?_, r.size, r.tmp, r.marks, fun j hj => ?_⟩
  · revert hB
    generalize β[i]?.getD .void = z
    cases z with
    | void => exact fun h => h.elim
    | nil => exact fun h => h.elim
    | ext l => exact fun h => h.elim
    | lie y =>
      rintro ⟨h0, hn, hcm, ca, h1, h2, h3, h4, h5, h6, h7, h8⟩
      refine ⟨h0, hn, hcm, ca, h1, h2, h3, h4, fun q j hq hj => hc q j hq hj _ _ _ ?_⟩
      by_cases e : q = r0 ∧ j = j0
      · obtain ⟨rfl, rfl⟩ := e
        simp only [and_self, if_true]; exact h8.imm hv
      · simp only [e, if_false]
        exact h5 q j hq hj (by
          by_cases q1 : q = r0
          · exact .inr fun q2 => e ⟨q1, q2⟩
          · exact .inl q1)
  · obtain ⟨x, h1, h2, h3⟩ := r.mark j hj
    have hne : i ≠ S.d.getD j 0 := by intro e; rw [← e, hi] at h3; cases h3
    refine ⟨x, h1, h2, ?_⟩
    show (S.h.set i _)[S.d.getD j 0]? = _
    rw [List.getElem?_set_ne hne]; exact h3
theorem RS.retellC {β : Homes} {G K : Kept} {S : St} {a : Act} {w : World} (r : RS β G K S a w) {i : Nat} {cs cs' : List V} (hi : S.h[i]? = some (.cells cs)) (hl : cs'.length = cs.length) (hc : ∀ j, j < cs.length → VLe (cs.getD j .undef) (cs'.getD j .undef)) : RS β G K { S with h := S.h.set i (.cells cs') } a w := by
  have hil : i < S.h.length := (List.getElem?_eq_some_iff.1 hi).1
  have look : ∀ {j : Nat} {b : Blk}, (S.h.set i (.cells cs'))[j]? = some b → (j = i ∧ b = .cells cs') ∨ (j ≠ i ∧ S.h[j]? = some b) := fun {j b} hj => by
    by_cases q : j = i
    · subst q; rw [List.getElem?_set_self hil] at hj; cases hj; exact .inl ⟨rfl, rfl⟩
    · rw [List.getElem?_set_ne (Ne.symm q)] at hj; exact .inr ⟨q, hj⟩
  have back : ∀ {j : Nat} {b : Blk}, (S.h.set i (.cells cs'))[j]? = some b → b ≠ .gone → ∃ b', S.h[j]? = some b' ∧ b' ≠ .gone := fun {j b} hj hb => by
    rcases look hj with ⟨rfl, rfl⟩ | ⟨_, h⟩
    · exact ⟨_, hi, by simp⟩
    · exact ⟨_, h, hb⟩
  refine ⟨⟨by simpa using r.h.len, fun j b hj => ?_, fun p q x y b b' hp hq gp gq bp bq hxy => ?_, fun j x b hj hg hb => ?_, r.h.keep, r.h.gk, r.h.amb, fun j X tr hj => ?_⟩, r.size, r.tmp, r.marks, fun j hj => ?_⟩
  · rcases look hj with ⟨rfl, rfl⟩ | ⟨_, h⟩
    · have hB := r.h.blk _ _ hi
      revert hB
      cases β[j]?.getD .void with
      | void => exact id
      | nil => exact id
      | ext l => exact id
      | lie y =>
        rintro ⟨ca, e, h1, h2, h3⟩
        exact ⟨ca, e, h1, by rw [h2, hl], fun q hq => hc q (by omega) _ _ _ (h3 q (by omega))⟩
    · exact r.h.blk _ _ h
  · obtain ⟨b1, q1, g1⟩ := back hp gp
    obtain ⟨b2, q2, g2⟩ := back hq gq
    exact r.h.inj p q x y b1 b2 q1 q2 g1 g2 bp bq hxy
  · obtain ⟨b1, q1, g1⟩ := back hj hg
    exact r.h.sep j x b1 q1 g1 hb
  · rcases look hj with ⟨_, h⟩ | ⟨_, h⟩
    · cases h
    · obtain ⟨l, E, h1, h2, h3, h4⟩ := r.h.ext j X tr h
      refine ⟨l, E, h1, h2, h3, fun b hE => ⟨(h4 b hE).1, fun q y k1 hq g hbq => ?_⟩⟩
      obtain ⟨b1, q1, g1⟩ := back hq g
      exact (h4 b hE).2 q y b1 q1 g1 hbq
  · obtain ⟨x, h1, h2, h3⟩ := r.mark j hj
    have hne : i ≠ S.d.getD j 0 := by intro e; rw [← e, hi] at h3; cases h3
    refine ⟨x, h1, h2, ?_⟩
    show (S.h.set i _)[S.d.getD j 0]? = _
    rw [List.getElem?_set_ne hne]; exact h3
theorem frObs_all {rs : List FR} (h : frObs rs = true) : rs.all (·.1) = true := by
  induction rs with
  | nil => rfl
  | cons r rs ih => simp only [frObs, Bool.and_eq_true] at h; simp only [List.all_cons, h.1, ih h.2, Bool.and_self]
theorem frCallsV_spec {h : List Blk} {rs : List FR} {cs : List (Nat × FuncId × List V × V)} : ∀ (is : List Nat) (cs' : List (Nat × FuncId × List V × V)), frCallsV h rs cs is = some (true, cs') → (∀ c ∈ cs', PCalls P c.2.1 c.2.2.1 (· = c.2.2.2)) →
    ∀ i ∈ is, ∀ g args, (rs.getD i fr0).2.2.2 = some (g, args) → ∃ us, args.length = us.length ∧ (∀ j, j < us.length → Snap h (args.getD j .undef) (us.getD j .undef)) ∧ PCalls P g us (· = crOf cs i) ∧ (us = args ∧ underL 0 us = true ∨ (crOf cs i).plain = true) := by
  intro is
  induction is with
  | nil => intro cs' _ _ i hi; cases hi
  | cons i0 is ih =>
    intro cs' hc hp i hi g args hga
    simp only [frCallsV] at hc
    split at hc
    · rename_i hn
      rcases List.mem_cons.1 hi with rfl | hi'
      · rw [hn] at hga; cases hga
      · exact ih _ hc hp i hi' g args hga
    · rename_i f0 args0 hn
      split at hc
      · rename_i ob us o2 l hs hl
        simp only [Option.some.injEq, Prod.mk.injEq, Bool.and_eq_true] at hc
        obtain ⟨⟨rfl, rfl⟩, rfl⟩ := hc
        rcases List.mem_cons.1 hi with rfl | hi'
        · rw [hn] at hga; cases hga
          obtain ⟨h1, h2, h3⟩ := snapArgs_ok hs
          exact ⟨us, h1, h2, hp _ (List.mem_cons_self ..), h3⟩
        · exact ih _ hl (fun c hc => hp c (List.mem_cons_of_mem _ hc)) i hi' g args hga
      · cases hc
theorem frontGm_ok {id m : Nat} {S : St} {g : DT} {k : KT} (hmx : P.follows .mixedOrders = true) (h : frontGm P ro.m m ops S g k = some g) (hg : g.holds P ro Q L) (hk : ∀ S g, k S g = some g → g.holds P ro Q L → Q1 .normal S) : AWP P ro (.region id ops true) S Q1 := by
  unfold frontGm at h
  split at h
  case h_2 => cases h
  rename_i cs ov ob0 g'
  split at h
  case isFalse => cases h
  rename_i hc
  obtain ⟨hd, hback, hf, hm, ht⟩ := hc
  split at h
  case h_2 => cases h
  rename_i rs hr
  split at h
  case h_2 => cases h
  rename_i obc cs' hcv
  obtain ⟨r, hr2, e⟩ := map_some_eq h
  cases e
  obtain ⟨hob, hcalls, hg'⟩ := hg
  simp only [Bool.and_eq_true] at hob
  obtain ⟨ho1, rfl⟩ := hob
  refine AWP.region_front (m) rs (crOf cs) ov hmx hback hm ht hf (dOK_spec hd) hr (frObs_all ho1) (fun i g args hga => ?_) (runOpsG_ok hk _ _ _ _ hr2 hg')
  have hlen : rs.length ≤ m := by
    have key : ∀ (is : List Nat) (nb : Nat) (S : St) (rs : List FR), frRun P ops S.h (crOf cs) ov is nb S = some rs → True := fun _ _ _ _ _ => trivial
    have : ∀ (is : List Nat) (h0 : List Blk) (nb : Nat) (S : St) (rs : List FR), frRun P ops h0 (crOf cs) ov is nb S = some rs → rs.length = is.length := by
      intro is
      induction is with
      | nil => intro h0 nb S rs hh; simp only [frRun, Option.some.injEq] at hh; subst hh; rfl
      | cons i is ih =>
        intro h0 nb S rs hh
        simp only [frRun] at hh
        split at hh
        · cases hh
        · split at hh
          · split at hh
            · rename_i rs2 h2; cases hh; simp [ih _ _ _ _ h2]
            · cases hh
          · split at hh
            · split at hh
              · rename_i rs2 h2; cases hh; simp [ih _ _ _ _ h2]
              · cases hh
            · cases hh
          · cases hh
    rw [this _ _ _ _ _ hr]; simp
  have hi : i < m := by
    rcases Nat.lt_or_ge i rs.length with q | q
    · omega
    · rw [List.getD_eq_getElem?_getD, List.getElem?_eq_none q] at hga; cases hga
  exact frCallsV_spec (P := P) _ _ hcv hcalls i (List.mem_range.2 hi) g args hga
theorem frontG_ok {id : Nat} {S : St} {g : DT} {k : KT} (hmx : P.follows .mixedOrders = true) (h : frontG P ro.m ops S g k = some g) (hg : g.holds P ro Q L) (hk : ∀ S g, k S g = some g → g.holds P ro Q L → Q1 .normal S) : AWP P ro (.region id ops true) S Q1 := by
  unfold frontG at h
  split at h
  · rename_i r hr
    cases h
    exact frontGm_ok hmx hr hg hk
  · exact frontGm_ok hmx h hg hk
theorem splitG_ok {id : Nat} {S : St} {k : KT} (hmx : P.follows .mixedOrders = true) (hk : ∀ S g, k S g = some g → g.holds P ro Q L → Q1 .normal S) : ∀ (g : DT), splitG P ro.m ops S k g = some g → g.holds P ro Q L → AWP P ro (.region id ops true) S Q1 := by
  intro g
  induction g with
  | br b gt gf iht ihf =>
    intro h hg
    simp only [splitG] at h
    split at h
    · rename_i r1 r2 h1 h2
      simp only [Option.some.injEq, DT.br.injEq, true_and] at h
      obtain ⟨rfl, rfl⟩ := h
      cases b with
      | true => exact iht h1 (hg.1 rfl)
      | false => exact ihf h2 (hg.2 rfl)
    · cases h
  | _ => intro h hg; exact frontG_ok hmx h hg hk
theorem finG_ok {e : Exit} {S : St} {g : DT} {K : List Item} (h : finG ro.m e S g = some g) (hg : g.holds P ro Q L) (fin : ∀ T, Q e T → IWP P ro K T Q L) : IWP P ro K S Q L := by
  unfold finG at h
  split at h
  · split at h
    · rename_i e0 T hm
      simp only [Option.some.injEq, DT.done.injEq] at h
      obtain ⟨rfl, hT⟩ := h
      have hq : Q e (mask T S) := by rw [hT]; exact hg
      exact IWP.less (fun β G Kp a w r => r.masked hm) (fin _ hq)
    · cases h
  · cases h
theorem finG_post {e : Exit} {S : St} {g : DT} {β : Homes} {G Kp : Kept} {a : Act} {w : World} (h : finG ro.m e S g = some g) (hg : g.holds P ro Q L) (r : RS β G Kp S a w) : ∃ U β', Homes.low ro.m β β' ∧ RS β' G Kp U a w ∧ Q e U := by
  unfold finG at h
  split at h
  · split at h
    · rename_i e0 T hm
      simp only [Option.some.injEq, DT.done.injEq] at h
      obtain ⟨rfl, hT⟩ := h
      obtain ⟨β', h0, r'⟩ := r.masked hm
      exact ⟨_, β', h0, r', by rw [hT]; exact hg⟩
    · cases h
  · cases h
theorem AWP.weak {c : Code} {S : St} {Q' : Exit → St → Prop} (h : AWP P ro c S Q) (hq : ∀ e S' β G K a w, Q e S' → RS β G K S' a w → ∃ S'' β', Homes.low ro.m β β' ∧ RS β' G K S'' a w ∧ Q' e S'') : AWP P ro c S Q' :=
  fun β G K a w r => wpIn_mono (h β G K a w r) fun e a' w' ⟨S', β', G', K', h0, h1, h2, r', q⟩ => by
    obtain ⟨S2, β2, h3, r2, q2⟩ := hq e S' β' G' K' a' w' q r'
    exact ⟨S2, β2, G', K', h0.trans h3, h1, h2, r2, q2⟩
theorem atG_ok {S : St} {g : DT} {K : List Item} (h : atG ro.m K S g = some g) (hg : g.holds P ro Q L) : IWP P ro (startOf K) S Q L := by
  unfold atG at h
  split at h
  · split at h
    · rename_i e0 T hm
      simp only [Option.some.injEq, DT.at.injEq] at h
      obtain ⟨rfl, hT⟩ := h
      have hl : L (startOf K) (mask T S) := by rw [hT]; exact hg
      exact IWP.less (fun β G Kp a w r => r.masked hm) (IWP.leaf hl)
    · cases h
  · cases h
theorem itemG_ok (hmx : P.follows .mixedOrders = true) {rec : List Item → St → DT → Option DT} (ih : ∀ (K : List Item) (S : St) (g : DT), rec K S g = some g → g.holds P ro Q L → IWP P ro K S Q L)
    {K : List Item} {S : St} {g : DT} (hstep : itemG P ro.m rec K S g = some g) (hg : g.holds P ro Q L) : IWP P ro K S Q L := by
  have kok : ∀ (K' : List Item) (S' : St) (g' : DT), rec K' S' g' = some g' → g'.holds P ro Q L → IX P ro K' Q L .normal S' := fun K' S' g' h' hg' => ih K' S' g' h' hg'
  unfold itemG at hstep
  split at hstep
  · exact finG_ok hstep hg fun T hT => IWP.nil hT
  · exact IWP.inBlock (ih _ _ _ hstep hg)
  · exact IWP.inScope (ih _ _ _ hstep hg)
  · exact IWP.inLoop (atG_ok hstep hg)
  · rename_i c K'
    split at hstep
    · exact IWP.skip (ih _ _ _ hstep hg)
    · exact IWP.label (ih _ _ _ hstep hg)
    · exact IWP.seq (ih _ _ _ hstep hg)
    · exact IWP.block (ih _ _ _ hstep hg)
    · exact IWP.scope (ih _ _ _ hstep hg)
    · exact IWP.loop (atG_ok hstep hg)
    · rename_i id
      split at hstep
      · rename_i K2 hk; exact IWP.exit hk (ih _ _ _ hstep hg)
      · rename_i hk; exact finG_ok hstep hg fun T hT => IWP.exit_out hk hT
    · exact finG_ok hstep hg fun T hT => IWP.ret hT
    · rename_i c x y
      split at hstep
      · rename_i b hb
        split at hstep
        · rename_i b0 gt gf
          split at hstep
          · rename_i r1 r2 h1 h2
            cases hstep
            exact IWP.cond hb (fun hb' => ih _ _ _ h1 (hg.1 hb')) (fun hb' => ih _ _ _ h2 (hg.2 hb'))
          · cases hstep
        · rename_i c0 g'
          obtain ⟨r, hr, e⟩ := map_some_eq hstep
          cases e
          refine IWP.cond hb (fun hb' => ?_) (fun hb' => ?_)
          · subst hb'; exact ih _ _ _ hr hg
          · subst hb'; exact ih _ _ _ hr hg
        · cases hstep
      · cases hstep
    · exact IWP.code (AWP.region (runOpsG_ok (Q1 := IX P ro K' Q L) (kok K') _ _ _ _ hstep hg))
    · rename_i id ops
      split at hstep
      · rename_i c0 S0 x S' g'
        obtain ⟨r, hr, e⟩ := map_some_eq hstep
        simp only [DT.over.injEq, true_and] at e
        obtain ⟨rfl, rfl, rfl, rfl⟩ := e
        obtain ⟨hw, hg'⟩ := hg
        refine IWP.code (hw.weak ?_)
        rintro e T β G Kp a w ⟨rfl, rfl⟩ rs
        exact ⟨T, β, Homes.low_refl _ _, rs, ih _ _ _ hr hg'⟩
      · exact IWP.code (splitG_ok (Q1 := IX P ro K' Q L) hmx (kok K') _ hstep hg)
    · rename_i f ps az body
      split at hstep
      · rename_i c0 S0 x S' g'
        obtain ⟨r, hr, e⟩ := map_some_eq hstep
        simp only [DT.over.injEq, true_and] at e
        obtain ⟨rfl, rfl, rfl⟩ := e
        obtain ⟨hw, hg'⟩ := hg
        refine IWP.code (hw.weak ?_)
        rintro e T β G Kp a w ⟨rfl, rfl⟩ rs
        split at hr
        · exact ⟨T, β, Homes.low_refl _ _, rs, ih _ _ _ hr hg'⟩
        · obtain ⟨U, β', h0, rs', hq⟩ := finG_post hr hg' rs
          exact ⟨U, β', h0, rs', hq⟩
        · rename_i id
          split at hr
          · rename_i K2 hk
            exact ⟨T, β, Homes.low_refl _ _, rs, by simp only [IX, hk]; exact ih _ _ _ hr hg'⟩
          · rename_i hk
            obtain ⟨U, β', h0, rs', hq⟩ := finG_post hr hg' rs
            exact ⟨U, β', h0, rs', by simp only [IX, hk]; exact hq⟩
        · cases hr
      · cases hstep
    · cases hstep
  · cases hstep
theorem runG_ok (hmx : P.follows .mixedOrders = true) : ∀ (n : Nat) (K : List Item) (S : St) (g : DT), runG P ro.m n K S g = some g → g.holds P ro Q L → IWP P ro K S Q L := by
  intro n
  induction n with
  | zero => intro K S g h; simp [runG] at h
  | succ n ih =>
    intro K S g h hg
    by_cases hown : ∃ j e w g', g = .own j e w g'
    · obtain ⟨j, e, w, g', rfl⟩ := hown
      simp only [runG] at h
      split at h
      · rename_i S' ho
        obtain ⟨r, hr, e⟩ := map_some_eq h
        cases e
        exact IWP.less (fun β G Kp a w r => ⟨_, (Homes.le_append _ _).low _, r.own ho⟩) (ih K S' g' hr hg)
      · cases h
    by_cases hfrz : ∃ i b g', g = .frz i b g'
    · obtain ⟨i, b, g', rfl⟩ := hfrz
      simp only [runG] at h
      split at h
      · rename_i b' S' ho
        obtain ⟨r, hr, e⟩ := map_some_eq h
        cases e
        obtain ⟨hb, hg'⟩ := hg
        subst hb
        have := ih K S' g' hr hg'
        exact fun β G Kp a w r b k cs hro hb hrm => by
          obtain ⟨G', hG, K', hK, r'⟩ := r.frz ho
          rcases this _ G' K' a w r' b k cs hro hb hrm with ⟨e, a', w', hp, harr⟩ | ⟨K2, a', w', hp, hs⟩
          · exact .inl ⟨e, a', w', hp.up (Homes.low_refl _ _) hG hK, harr⟩
          · exact .inr ⟨K2, a', w', hp.up (Homes.low_refl _ _) hG hK, hs⟩
      · cases h
    by_cases hvle : ∃ j v v' g', g = .vle j v v' g'
    · obtain ⟨j, v, v', g', rfl⟩ := hvle
      simp only [runG] at h
      obtain ⟨r, hr, e⟩ := map_some_eq h
      simp only [DT.vle.injEq, true_and] at e
      obtain ⟨hv, rfl⟩ := e
      obtain ⟨hle, hg'⟩ := hg
      refine IWP.less (fun β G Kp a w r => ⟨β, Homes.low_refl _ _, r.retell ?_⟩) (ih K _ _ hr hg')
      have := r.tmp j
      rw [hv] at this
      exact hle _ _ _ this
    by_cases htel : ∃ i w k c c' g', g = .telb i w k c c' g'
    · obtain ⟨i, w, k, c, c', g', rfl⟩ := htel
      simp only [runG] at h
      split at h
      · rename_i e0 w0 k0 c0 hi
        obtain ⟨r, hr, e⟩ := map_some_eq h
        simp only [DT.telb.injEq, true_and] at e
        obtain ⟨rfl, rfl, rfl, rfl⟩ := e
        obtain ⟨hle, hg'⟩ := hg
        exact IWP.less (fun β G Kp a w r => ⟨β, Homes.low_refl _ _, r.retellB hi hle⟩) (ih K _ _ hr hg')
      · rename_i e0 w0 k0 c0 r0 j0 v0 hi
        split at h
        · rename_i hv
          obtain ⟨r, hr, e⟩ := map_some_eq h
          simp only [DT.telb.injEq, true_and] at e
          obtain ⟨rfl, rfl, rfl, rfl⟩ := e
          obtain ⟨hle, hg'⟩ := hg
          exact IWP.less (fun β G Kp a w r => ⟨β, Homes.low_refl _ _, r.retellL hi hv hle⟩) (ih K _ _ hr hg')
        · cases h
      · cases h
    by_cases hcas : ∃ b g1 g2, g = .cas b g1 g2
    · obtain ⟨b, g1, g2, rfl⟩ := hcas
      simp only [runG] at h
      split at h
      · rename_i r1 r2 h1 h2
        cases h
        cases b with
        | true => exact ih K S _ h1 (hg.1 rfl)
        | false => exact ih K S _ h2 (hg.2 rfl)
      · cases h
    by_cases hdr : ∃ T g', g = .drop T g'
    · obtain ⟨T, g', rfl⟩ := hdr
      simp only [runG] at h
      split at h
      · rename_i hm
        obtain ⟨r, hr, e⟩ := map_some_eq h
        cases e
        exact IWP.less (fun β G Kp a w r => r.masked hm) (ih K _ _ hr hg)
      · cases h
    by_cases htc : ∃ i cs cs' g', g = .telc i cs cs' g'
    · obtain ⟨i, cs, cs', g', rfl⟩ := htc
      simp only [runG] at h
      split at h
      · rename_i cs0 hi
        obtain ⟨r, hr, e⟩ := map_some_eq h
        simp only [DT.telc.injEq, true_and] at e
        obtain ⟨rfl, rfl⟩ := e
        obtain ⟨hl, hle, hg'⟩ := hg
        exact IWP.less (fun β G Kp a w r => ⟨β, Homes.low_refl _ _, r.retellC hi hl hle⟩) (ih K _ _ hr hg')
      · cases h
    by_cases hnv : g = .never
    · subst hnv; exact hg.elim
    by_cases hwt : ∃ k g', g = .wait k g'
    · obtain ⟨k, g', rfl⟩ := hwt
      cases k with
      | zero =>
        simp only [runG] at h
        obtain ⟨r, hr, e⟩ := map_some_eq h
        cases e
        exact ih K S g' hr hg
      | succ k =>
        simp only [runG] at h
        obtain ⟨r, hr, e⟩ := map_some_eq h
        have : r = .wait k g' := by
          cases r <;> simp only [bump] at e <;> first | (cases e; rfl) | cases e
        subst this
        exact itemG_ok hmx ih hr hg
    have hstep : itemG P ro.m (runG P ro.m n) K S g = some g := by
      rw [← h]
      cases g <;> first | rfl | exact absurd ⟨_, _, _, _, rfl⟩ hown | exact absurd ⟨_, _, _, rfl⟩ hfrz | exact absurd ⟨_, _, _, _, rfl⟩ hvle | exact absurd ⟨_, _, _, _, _, _, rfl⟩ htel | exact absurd ⟨_, _, rfl⟩ hwt | exact absurd ⟨_, _, _, rfl⟩ hcas | exact absurd ⟨_, _, rfl⟩ hdr | exact absurd ⟨_, _, _, _, rfl⟩ htc | exact absurd rfl hnv
    exact itemG_ok hmx ih hstep hg
end
inductive Tr (α ρ : Type) where
  | go (a : α)
  | out (r : ρ)
  | need (b : Bool) (t : Tr α ρ)
  | scal (p : Nat → Bool) (t : Tr α ρ)
  | br (b : Bool) (t f : Tr α ρ)
  | lit (b : Bool) (t : Tr α ρ)
  | call (f : FuncId) (us : List V) (v : V) (ob ok : Bool) (t : Tr α ρ)
  | own (j : Nat) (e : TypeId) (w : Nat) (t : Tr α ρ)
  | frz (i : Nat) (b : Bool) (t : Tr α ρ)
  | front (cs : List (Nat × FuncId × List V × V)) (ov : List (Nat × Bool)) (ob ok : Bool) (t : Tr α ρ)
  | vle (j : Nat) (v v' : V) (t : Tr α ρ)
  | telb (i w n : Nat) (c c' : Nat → Nat → V) (t : Tr α ρ)
  | wait (k : Nat) (t : Tr α ρ)
  | cas (b : Bool) (t f : Tr α ρ)
  | hcall (f : FuncId) (us : List V) (v : V) (h h' : List Blk) (ok : Bool) (t : Tr α ρ)
  | yld (X : Ext) (tr us us' : List V) (ok : Bool) (t : Tr α ρ)
  | over (c : Code) (S : St) (x : Exit) (S' : St) (ok : Bool) (t : Tr α ρ)
  | sem (o : Op) (us : List (Operand × V)) (h : List Blk) (v : V) (h' : List Blk) (ok : Bool) (t : Tr α ρ)
  | semn (o : Op) (us : List (Operand × V)) (h : List Blk) (n : Nat) (vs : Nat → V) (hs : Nat → List Blk) (ok : Bool) (f : Nat → Tr α ρ)
  | drop (T : St) (t : Tr α ρ)
  | telc (i : Nat) (cs cs' : List V) (t : Tr α ρ)
  | never
section
variable {α ρ : Type}
def Tr.toD (cfg : α → List Item × St) (fin : ρ → Exit × St) : Tr α ρ → DT
  | .go a => .at (cfg a).1 (cfg a).2
  | .out r => .done (fin r).1 (fin r).2
  | .need b t => .need b (t.toD cfg fin)
  | .scal p t => .scal p (t.toD cfg fin)
  | .br b t f => .br b (t.toD cfg fin) (f.toD cfg fin)
  | .lit b t => .lit b (t.toD cfg fin)
  | .call f us v ob _ t => .call f us v ob (t.toD cfg fin)
  | .own j e w t => .own j e w (t.toD cfg fin)
  | .frz i b t => .frz i b (t.toD cfg fin)
  | .front cs ov ob _ t => .front cs ov ob (t.toD cfg fin)
  | .vle j v v' t => .vle j v v' (t.toD cfg fin)
  | .telb i w n c c' t => .telb i w n c c' (t.toD cfg fin)
  | .wait k t => .wait k (t.toD cfg fin)
  | .cas b t f => .cas b (t.toD cfg fin) (f.toD cfg fin)
  | .hcall f us v h h' _ t => .hcall f us v h h' (t.toD cfg fin)
  | .yld X tr us us' _ t => .yld X tr us us' (t.toD cfg fin)
  | .over c S x S' _ t => .over c S x S' (t.toD cfg fin)
  | .sem o us h v h' _ t => .sem o us h v h' (t.toD cfg fin)
  | .semn o us h n vs hs _ f => .semn o us h n vs hs fun j => (f j).toD cfg fin
  | .drop T t => .drop T (t.toD cfg fin)
  | .telc i cs cs' t => .telc i cs cs' (t.toD cfg fin)
  | .never => .never
def cuts (K : List Item) : Code → List (List Item)
  | .seq a b => cuts (.code b :: K) a ++ cuts K b
  | .cond _ x y => cuts K x ++ cuts K y
  | .block id a => cuts (.inBlock id :: K) a
  | .scope a => cuts (.inScope a :: K) a
  | .loop a => (.inLoop a :: K) :: cuts (.inLoop a :: K) a
  | _ => []
def cutOf (fn : Func) (j : Nat) : List Item := (cuts [] (fn.body.getD .skip)).getD j []
def mk (n : Nat) (l : List (Nat × V)) : List V := (List.range n).map fun i => (l.lookup i).getD .undef
theorem HCalls.of_body {P : Program} {f : FuncId} {fn : Func} {c : Code} {args : List V} {v : V} {h h' : List Blk} (hf : P.funcs[f]? = some fn) (hb : fn.body = some c) (hn : (fn.name == "runtime.NumGoroutine") = false)
    (hw : AWP P ⟨none, h.length⟩ c { t := args ++ List.replicate (fn.ntmps - args.length) .undef, h := h, d := [] } fun e S => (e = .normal ∨ e = .ret) ∧ S.d = [] ∧ S.h = h' ∧ resultV P fn S = some v) : HCalls P f args v h h' := by
  have hn' : ¬ fn.name = "runtime.NumGoroutine" := by simpa using hn
  refine ⟨fun xs w => by simp [callFunc, hf, hn', hb], fun β G K w xs rh hl hr => ?_⟩
  refine callsIn_wide.1 (callsIn_of_wp_marks (F := wide ⟨none, 0⟩) (n := 0) hf hb trivial ?_)
  have r : RS β G K { t := args ++ List.replicate (fn.ntmps - args.length) .undef, h := h, d := [] } { tmps := xs ++ Array.replicate (fn.ntmps - xs.size) Go.undef, defers := [] } w := by
    refine ⟨rh, by simp [hl], fun j => ?_, rfl, by simp⟩
    rcases Nat.lt_or_ge j args.length with h1 | h1
    · rw [getD_append_left h1, agetD_append_left (by omega)]; exact hr j h1
    · rw [getD_append_right h1, agetD_append_right (by omega)]
      have : (List.replicate (fn.ntmps - args.length) V.undef).getD (j - args.length) .undef = .undef := by
        rw [List.getD_eq_getElem?_getD, List.getElem?_replicate]; split <;> rfl
      rw [this]; exact .undef _
  refine wpIn_mono (hw β G K _ w r) fun e a' w' hp => ?_
  obtain ⟨S, β', G', K', h0, hG, hK, r', he, hd, hh, hv⟩ := hp
  have hle : β.le β' := by
    unfold Homes.low at h0
    rwa [List.take_of_length_le (by simp only; rw [rh.len]; exact Nat.le_refl _)] at h0
  have hdef : a'.defers = [] := List.eq_nil_of_length_eq_zero (by rw [r'.marks, hd]; rfl)
  obtain ⟨x, hx, hrx⟩ := resultV_ok r'.h r'.tmp hv
  have leaves : LeavesInM (wide ⟨none, 0⟩) 0 P fn a'.tmps (fun e w' => ∃ x β' G' K', e = .returned x ∧ β.le β' ∧ G.ext K G' ∧ K.le K' ∧ RH β' G' K' h' w' ∧ Rel G' β' v x) a'.defers .returning w' := by
    rw [hdef]
    exact ⟨x, hx, x, β', G', K', rfl, hle, hG, hK, by rw [← hh]; exact r'.h, hrx⟩
  rcases he with rfl | rfl
  · exact leaves
  · exact leaves
end
structure Ty (τ : Type) where
  w : Nat
  cells : τ → List V
  zero : τ
def rowsOf {τ : Type} (E : Ty τ) (l : List τ) : Nat → Nat → V := fun i j => (E.cells (l.getD i E.zero)).getD j .undef
def rowsRev {τ : Type} (E : Ty τ) : List τ → Nat → Nat → V
  | [] => fun _ _ => .undef
  | x :: acc => appC acc.length (rowsRev E acc) (fun _ j => (E.cells x).getD j .undef)
abbrev Ty.lst {τ : Type} (E : Ty τ) (l : List τ) : V := .list E.w l.length (rowsOf E l)
theorem VLe.list {w n : Nat} {c c' : Nat → Nat → V} (h : ∀ i j, i < n → j < w → c i j = c' i j) : VLe (.list w n c) (.list w n c') := fun G β x hx => by
  cases hx with
  | list0 => exact .list0
  | list hG hsz hcap hn hc => exact .list hG hsz hcap hn fun i j hi hj => by rw [← h i j hi hj]; exact hc i j hi hj
theorem VLe.nils {w : Nat} {c : Nat → Nat → V} : VLe .nils (.list w 0 c) := fun G β x hx => by cases hx; exact .list0
theorem rowsRev_get {τ : Type} (E : Ty τ) : ∀ (acc : List τ) (i j : Nat), i < acc.length → rowsRev E acc i j = rowsOf E acc.reverse i j
  | [], i, j, h => by simp at h
  | x :: acc, i, j, h => by
    simp only [rowsRev, appC]
    split
    · rename_i hlt
      rw [rowsRev_get E acc i j hlt]
      simp [rowsOf, List.getD_eq_getElem?_getD, List.getElem?_append_left (show i < acc.reverse.length by simpa using hlt)]
    · rename_i hge
      have : i = acc.length := by simp at h; omega
      subst this
      simp [rowsOf, List.getD_eq_getElem?_getD]
theorem VLe.rev {τ : Type} (E : Ty τ) (acc : List τ) : VLe (.list E.w acc.length (rowsRev E acc)) (E.lst acc.reverse) := by
  have := VLe.list (w := E.w) (n := acc.length) (c := rowsRev E acc) (c' := rowsOf E acc.reverse) fun i j hi _ => rowsRev_get E acc i j hi
  simpa [Ty.lst] using this
theorem PCalls.vle {P : Program} {f : FuncId} {args args' : List V} {post : V → Prop} (h : PCalls P f args post) (hl : args'.length = args.length) (hv : ∀ j, j < args.length → VLe (args'.getD j .undef) (args.getD j .undef)) : PCalls P f args' post :=
  ⟨h.1, fun G w xs hk hlen hr => h.2 G w xs hk (by omega) fun j hj => hv j hj _ _ _ (hr j (by omega))⟩
def tint : Ty Int := ⟨1, fun n => [.int .i64 n], 0⟩
section
variable {P : Program} {w : World}
theorem run_findKey_int {kt : TypeId} (hk : P.underlying kt = some (.int .i64)) {k : Int} {es : List MapEntry} {r : Option (Nat × Value)} (h : Instr.findNow (.int .i64) (.int .i64 k) es 0 = some r) : (Instr.findKey kt (.int .i64 k) es).run P w = .ok r w := by
  simp [Instr.findKey, run_underlying' hk, h]
theorem run_checkKey_int {kt : TypeId} (hk : P.underlying kt = some (.int .i64)) (b : Bool) (k : Int) : (Instr.checkKey b 10000 kt (.int .i64 k)).run P w = .ok () w := by
  have : ∀ n, (Instr.checkKey b (n + 1) kt (.int .i64 k)).run P w = .ok () w := fun n => by
    simp only [Instr.checkKey, Sem.run_bind, run_underlying' hk, Result.andThen_ok]
    rfl
  exact this 9999
end
section
variable {P : Program} {h : List Blk}
theorem rel_map_inv {G : Kept} {β : Homes} {q : Nat} {x : Value} (h : Rel G β (.map q) x) : ∃ b, x = .map (some b) := by
  cases h with
  | map hi => exact ⟨_, rfl⟩
theorem rel_int_inv {G : Kept} {β : Homes} {k : IntKind} {n : Int} {x : Value} (h : Rel G β (.int k n) x) : x = .int k n := by cases h; rfl
def leftM (n : Nat) (seen : Array Nat) : List Nat := (List.range n).filter fun i => !seen.contains i
end
def ρw (ws : List (Nat × V)) : Operand → V
  | .tmp t => (ws.lookup t).getD .undef
  | .const v => ofValue v
  | .global _ => .undef
  | .func f => .func (.func f) [] []
theorem lookup_mem {ws : List (Nat × V)} {t : Nat} {u : V} (h : ws.lookup t = some u) : (t, u) ∈ ws := by
  induction ws with
  | nil => cases h
  | cons p ws ih =>
    obtain ⟨a, b⟩ := p
    simp only [List.lookup_cons] at h
    split at h
    · rename_i e
      have : t = a := by simpa using e
      subst this; cases h; exact List.mem_cons_self ..
    · exact List.mem_cons_of_mem _ (ih h)
section
variable {P : Program} {h : List Blk}
theorem sem_weak {o : Op} {us : List (Operand × V)} {v : V} {h' : List Blk} (ws : List (Nat × V)) (hw : ∀ p, p ∈ ws → ∃ u, (.tmp p.1, u) ∈ us ∧ VLe u p.2) (he : evalOp P (ρw ws) h o = some (true, v, h')) : SemOK P o us h v h' := fun β G K w ρ' oper ho hc r hr => by
  subst ho
  refine evalOp_ok r (fun x => ?_) oper he
  cases x with
  | tmp t =>
    show Rel G β ((ws.lookup t).getD .undef) _
    cases hl : ws.lookup t with
    | none => exact .undef _
    | some u =>
      obtain ⟨u0, h1, h2⟩ := hw _ (lookup_mem hl)
      exact h2 _ _ _ (hr _ h1)
  | const v => rw [hc.1]; exact rel_ofValue v
  | global g => exact .undef _
  | func f => rw [hc.2]; exact .func (by simp) (by simp) (by simp) (by simp)
theorem rel_str_inv {G : Kept} {β : Homes} {s : ByteArray} {x : Value} (h : Rel G β (.str s) x) : x = .string s := by cases h; rfl
theorem sem_rangeStr {t : TypeId} {x : Operand} {s : ByteArray} (ht : P.underlying t = some .string) : SemOK P (.range t x) [(x, .str s)] h (.ref h.length 0 0) (h ++ [.obj (.stringIter s 0)]) := fun β G K w ρ' oper ho _ r hr => by
  have hx := rel_str_inv (hr (x, .str s) (by simp))
  simp only at hx
  refine ⟨.value (.pointer (some ⟨w.heap.size, 0, none⟩)), w.alloc (.stringIter s 0), β ++ [Hm.lie ⟨w.heap.size, 0, 0⟩], ?_, Homes.le_append _ _, r.push rfl (heap_alloc_new w _), ?_⟩
  · simp only [execOp, ho, hx, Instr.range, Sem.run_bind, run_underlying' ht, Result.andThen_ok, Sem.run_pure, run_newObj, World.alloc_eq]
  · have := Rel.ref (G := G) (r := 0) (off := 0) (ref_new r w.heap.size 0 0)
    simp only [Nat.zero_mul, Nat.add_zero] at this
    exact this
theorem home_ref {β : Homes} {G K : Kept} {w : World} (r : RH β G K h w) {i : Nat} {o : Obj} {p : Value} (hi : h[i]? = some (.obj o)) (hp : Rel G β (.ref i 0 0) p) : ∃ x : Home, β[i]? = some (.lie x) ∧ p = .pointer (some ⟨x.b, 0, none⟩) ∧ w.heap[x.b]? = some o := by
  cases hp with
  | ref hb =>
    rename_i x
    have := r.blk i _ hi
    rw [hb] at this
    exact ⟨x, hb, by simp, this⟩
theorem sem_nextStr {x : Operand} {s : ByteArray} {i pos : Nat} (hi : h[i]? = some (.obj (.stringIter s pos))) (hp : pos < s.size) :
    SemOK P (.next x true) [(x, .ref i 0 0)] h (.tuple [.bool true, .int .i64 pos, .int .i32 (Utf8.decode s pos).1]) (h.set i (.obj (.stringIter s (pos + (Utf8.decode s pos).2)))) := fun β G K w ρ' oper ho _ r hr => by
  obtain ⟨y, hb, he, hh⟩ := home_ref r hi (hr (x, .ref i 0 0) (by simp))
  simp only at he
  have hlt := (Array.getElem?_eq_some_iff.1 hh).1
  refine ⟨.value (.tuple #[.bool true, .int .i64 pos, .int .i32 (Utf8.decode s pos).1]), w.putObj y.b (.stringIter s (pos + (Utf8.decode s pos).2)), β, ?_, Homes.le_refl _, r.write hi (by simp) hb (fun b hb => World.putObj_heap_other hb) (by simp) (World.putObj_heap_same hlt), ?_⟩
  · simp only [execOp, ho, he, Sem.run_bind, Lib.run_next_any_at w y.b s pos oper.type hh hp, Result.andThen_ok, Sem.run_pure]
    rfl
  · refine Rel.tuple rfl fun j hj => ?_
    match j, hj with
    | 0, _ => exact .bool _
    | 1, _ => exact .int _ _
    | 2, _ => exact .int _ _
theorem sem_nextStr0 {x : Operand} {s : ByteArray} {i pos : Nat} (hi : h[i]? = some (.obj (.stringIter s pos))) (hp : ¬ pos < s.size) : SemOK P (.next x true) [(x, .ref i 0 0)] h (.tuple [.bool false]) h := fun β G K w ρ' oper ho _ r hr => by
  obtain ⟨y, hb, he, hh⟩ := home_ref r hi (hr (x, .ref i 0 0) (by simp))
  simp only at he
  refine opOK_value (y := .tuple #[.bool false]) r ?_ (.tuple rfl fun j hj => ?_)
  · simp only [execOp, ho, he, Sem.run_bind, Lib.run_next_end_at w y.b s pos oper.type hh hp, Result.andThen_ok, Sem.run_pure]
  · have : j = 0 := by simp at hj; omega
    subst this; exact .bool _
end
mutual
def V.sh (k : Nat) : V → V
  | .ref i r off => .ref (i + k) r off
  | .row i n => .row (i + k) n
  | .map i => .map (i + k)
  | .yld i => .yld (i + k)
  | .sub i r off w n => .sub (i + k) r off w n
  | .agg vs => .agg (shL k vs)
  | .tuple vs => .tuple (shL k vs)
  | .func fn f c => .func fn (shL k f) (shL k c)
  | .iface t v => .iface t (v.sh k)
  | v => v
def shL (k : Nat) : List V → List V
  | [] => []
  | v :: vs => v.sh k :: shL k vs
end
theorem shL_length (k : Nat) : ∀ vs, (shL k vs).length = vs.length
  | [] => rfl
  | v :: vs => by simp [shL, shL_length k vs]
theorem shL_getD (k : Nat) : ∀ (vs : List V) (j : Nat), (shL k vs).getD j .undef = (vs.getD j .undef).sh k
  | [], j => by simp [shL, V.sh]
  | v :: vs, 0 => by simp [shL]
  | v :: vs, j + 1 => by simpa [shL] using shL_getD k vs j
theorem Rel.sh {G : Kept} {γ : Homes} {v : V} {x : Value} (h : Rel G γ v x) : ∀ {β : Homes}, Rel G (β ++ γ) (v.sh β.length) x := by
  have look : ∀ {β γ : Homes} {j : Nat} {z : Hm}, γ[j]? = some z → (β ++ γ)[j + β.length]? = some z := fun {β γ j z} hj => by
    rw [List.getElem?_append_right (by omega), Nat.add_sub_cancel]; exact hj
  induction h with
  | undef x => intros; exact .undef x
  | bool b => intros; exact .bool b
  | int k n => intros; exact .int k n
  | str s => intros; exact .str s
  | nil => intros; exact .nil
  | nils => intros; exact .nils
  | nilfunc => intros; exact .nilfunc
  | nilmap => intros; exact .nilmap
  | niliface => intros; exact .niliface
  | cref g hsz h ih => intros; exact .cref g hsz h
  | list0 => intros; exact .list0
  | list g hsz hcap hn h ih => intros; exact .list g hsz hcap hn h
  | ref hi => intros; exact .ref (look hi)
  | row hi hn hc hx => intros; exact .row (look hi) hn hc hx
  | row0 hi => intros; exact .row0 (look hi)
  | map hi => intros; exact .map (look hi)
  | yld hi => intros; exact .yld (look hi)
  | sub hi hc hx => intros; exact .sub (look hi) hc hx
  | sub0 => intros; exact .sub0
  | arr hs h ih => intros; exact .arr hs h
  | agg hs h ih => intro β; exact .agg (by rw [shL_length]; exact hs) fun j hj => by rw [shL_getD]; exact ih j (by rw [shL_length] at hj; exact hj)
  | tuple hs h ih => intro β; exact .tuple (by rw [shL_length]; exact hs) fun j hj => by rw [shL_getD]; exact ih j (by rw [shL_length] at hj; exact hj)
  | func hf hc h h' ih ih' =>
    intro β
    exact .func (by rw [shL_length]; exact hf) (by rw [shL_length]; exact hc) (fun j hj => by rw [shL_getD]; exact ih j (by rw [shL_length] at hj; exact hj)) fun j hj => by rw [shL_getD]; exact ih' j (by rw [shL_length] at hj; exact hj)
  | iface h ih => intros; exact .iface ih
def shOK : Blk → Bool
  | .gone | .cells _ | .rows _ _ _ _ | .rowsL _ _ _ _ _ _ _ => true
  | _ => false
def shB (k : Nat) : Blk → Blk
  | .cells cs => .cells (shL k cs)
  | .rowsL e w n c r j v => .rowsL e w n c r j (v.sh k)
  | b => b
theorem shB_gone {k : Nat} {b : Blk} (h : b = .gone) : shB k b = .gone := by subst h; rfl
theorem shB_ne {k : Nat} {b : Blk} (h : shB k b ≠ .gone) : b ≠ .gone := fun e => h (shB_gone e)
theorem BlkOK.sh {G : Kept} {γ : Homes} {w : World} {k : Blk} {x : Hm} (h : BlkOK G γ w k x) (hk : shOK k = true) (β : Homes) : BlkOK G (β ++ γ) w (shB β.length k) x := by
  cases k with
  | gone => exact h
  | cells cs =>
    cases x with
    | lie y =>
      obtain ⟨c, t, h1, h2, h3⟩ := h
      exact ⟨c, t, h1, by rw [shL_length]; exact h2, fun j hj => by rw [shL_getD]; exact (h3 j (by rw [shL_length] at hj; exact hj)).sh⟩
    | _ => exact h.elim
  | rows e n m rs => cases x <;> first | exact h | exact h.elim
  | rowsL e n m rs r0 j0 v =>
    cases x with
    | lie y =>
      obtain ⟨h0, hn, hc, c, h1, h2, h3, h4, h5, h6, h7, h8⟩ := h
      exact ⟨h0, hn, hc, c, h1, h2, h3, h4, h5, h6, h7, h8.sh⟩
    | _ => exact h.elim
  | _ => simp [shOK] at hk
theorem shOK_noExt {h : List Blk} (hok : h.all shOK = true) : noExt h = true := by
  rw [noExt, List.all_eq_true]
  intro k hk
  have := List.all_eq_true.1 hok k hk
  cases k <;> first | rfl | simp [shOK] at this
theorem HCalls.frame {P : Program} {f : FuncId} {args : List V} {v : V} {h1 : List Blk} (hc : HCalls P f args v [] h1) (ha : underL 0 args = true) (hok : h1.all shOK = true) (h : List Blk) : HCalls P f args (v.sh h.length) h (h ++ h1.map (shB h.length)) :=
  ⟨hc.1, fun β G K w xs r hl hr => by
    have r0 : RH [] G ⟨fun b => w.heap[b]?, G.amb⟩ [] w := ⟨rfl, fun i k hi => by simp at hi, fun i j x y k k' hi => by simp at hi, fun i x k hi => by simp at hi, fun b o hb => hb, ⟨fun b o hb => r.keep b o (r.gk b o hb), rfl⟩, r.gamb, fun i X tr hi => by simp at hi⟩
    refine (hc.tight rfl (shOK_noExt hok) [] G _ w xs r0 hl fun j hj => ?_).mono ?_
    · have := (hr j hj).take (m := 0) (underL_getD ha j)
      simpa using this
    rintro e w' ⟨⟨x, γ, G', K', rfl, -, hG, hK, r', hx⟩, hmild⟩
    have hold : ∀ b, b < w.heap.size → w'.heap[b]? = w.heap[b]? := fun b hb => by
      have e1 : w.heap[b]? = some w.heap[b] := Array.getElem?_eq_getElem hb
      rw [e1]; exact r'.keep b _ (hK b _ e1)
    have hsize : w.heap.size ≤ w'.heap.size := by
      rcases Nat.eq_zero_or_pos w.heap.size with h0 | h0
      · omega
      · have e1 := hold (w.heap.size - 1) (by omega)
        rw [Array.getElem?_eq_getElem (show w.heap.size - 1 < w.heap.size by omega)] at e1
        have := (Array.getElem?_eq_some_iff.1 e1).1; omega
    have hnew : ∀ {b : Nat}, K' b = none → w.heap.size ≤ b := fun {b} hb => by
      rcases Nat.lt_or_ge b w.heap.size with q | q
      · have := hK b _ (Array.getElem?_eq_getElem q); rw [hb] at this; cases this
      · exact q
    have hblen := r.len
    have hglen := r'.len
    let K2 : Kept := ⟨fun b => if b < w.heap.size then K b else K' b, K.amb⟩
    have K2lt : ∀ {b : Nat}, b < w.heap.size → K2 b = K b := fun {b} hb => by simp only [K2, hb, if_true]
    have K2ge : ∀ {b : Nat}, w.heap.size ≤ b → K2 b = K' b := fun {b} hb => by simp only [K2, show ¬ b < w.heap.size by omega, if_false]
    have Klt : ∀ {b : Nat} {o : Obj}, K b = some o → b < w.heap.size := fun {b o} hb => (Array.getElem?_eq_some_iff.1 (r.keep _ _ hb)).1
    have look : ∀ {i : Nat} {k : Blk}, (h ++ h1.map (shB h.length))[i]? = some k → (i < h.length ∧ h[i]? = some k ∧ (β ++ γ)[i]? = β[i]?) ∨ (h.length ≤ i ∧ (∃ k1, h1[i - h.length]? = some k1 ∧ k = shB h.length k1) ∧ (β ++ γ)[i]? = γ[i - h.length]?) := fun {i k} hi => by
      rcases Nat.lt_or_ge i h.length with q | q
      · rw [List.getElem?_append_left q] at hi
        exact .inl ⟨q, hi, List.getElem?_append_left (by omega)⟩
      · rw [List.getElem?_append_right q, List.getElem?_map] at hi
        refine .inr ⟨q, ?_, by rw [List.getElem?_append_right (by omega), hblen]⟩
        cases hh : h1[i - h.length]? with
        | none => rw [hh] at hi; cases hi
        | some k1 => rw [hh] at hi; cases hi; exact ⟨k1, rfl, rfl⟩
    refine ⟨x, β ++ γ, G', K2, rfl, Homes.le_append _ _, ⟨hG.1, fun b o hb => ?_⟩, ⟨fun b o hb => ?_, rfl⟩, ⟨by simp [hblen, hglen], fun i k hi => ?_, fun i j x1 y1 k k' hi hj g g' hbi hbj hxy => ?_, fun i x1 k hi g hbi => ?_, fun b o hb => ?_, ⟨fun b o hb => ?_, hG.1.same.symm.trans r.gk.same⟩, r.amb.mild hmild, fun i X tr hi => ?_⟩, by rw [← hblen]; exact hx.sh⟩
    · rcases hG.2 b o hb with q | q
      · exact .inl q
      · right
        cases hk : K b with
        | none => rfl
        | some o' => have q' : w.heap[b]? = none := q; rw [r.keep _ _ hk] at q'; cases q'
    · rw [K2lt (Klt hb)]; exact hb
    · rcases look hi with ⟨_, hi', e⟩ | ⟨_, ⟨k1, hi', rfl⟩, e⟩
      · rw [e]
        by_cases hg : k = .gone
        · subst hg; cases (β[i]?.getD .void) <;> trivial
        exact (r.blk i k hi').mono hG.1 (Homes.le_append _ _) fun y hy => hold _ (by
          cases hb : β[i]? with
          | none => simp [hb] at hy
          | some z => simp [hb] at hy; subst hy; exact (r.sep i y k hi' hg hb).2)
      · rw [e]
        have := (r'.blk _ k1 hi').sh ((List.all_eq_true.1 hok) _ (List.mem_of_getElem? hi')) β
        rw [hblen] at this; exact this
    · rcases look hi with ⟨l1, i1, e1⟩ | ⟨l1, ⟨k1, i1, rfl⟩, e1⟩ <;> rcases look hj with ⟨l2, i2, e2⟩ | ⟨l2, ⟨k2, i2, rfl⟩, e2⟩ <;> rw [e1] at hbi <;> rw [e2] at hbj
      · exact r.inj i j x1 y1 k k' i1 i2 g g' hbi hbj hxy
      · have a1 := (r.sep i x1 k i1 g hbi).2
        have a2 := hnew (r'.sep _ y1 k2 i2 (shB_ne g') hbj).1
        omega
      · have a1 := (r.sep j y1 k' i2 g' hbj).2
        have a2 := hnew (r'.sep _ x1 k1 i1 (shB_ne g) hbi).1
        omega
      · have := r'.inj _ _ x1 y1 k1 k2 i1 i2 (shB_ne g) (shB_ne g') hbi hbj hxy
        omega
    · rcases look hi with ⟨l1, i1, e1⟩ | ⟨l1, ⟨k1, i1, rfl⟩, e1⟩ <;> rw [e1] at hbi
      · have := r.sep i x1 k i1 g hbi
        exact ⟨by rw [K2lt this.2]; exact this.1, by omega⟩
      · have := r'.sep _ x1 k1 i1 (shB_ne g) hbi
        exact ⟨by rw [K2ge (hnew this.1)]; exact this.1, this.2⟩
    · rcases Nat.lt_or_ge b w.heap.size with q | q
      · rw [K2lt q] at hb; rw [hold b q]; exact r.keep b o hb
      · rw [K2ge q] at hb; exact r'.keep b o hb
    · rcases Nat.lt_or_ge b w.heap.size with q | q
      · rw [K2lt q]
        rcases hG.2 b o hb with q1 | q1
        · exact r.gk b o q1
        · have q2 : w.heap[b]? = none := q1; rw [Array.getElem?_eq_getElem q] at q2; cases q2
      · rw [K2ge q]; exact r'.gk b o hb
    · rcases look hi with ⟨l1, i1, e1⟩ | ⟨l1, ⟨k1, i1, e3⟩, e1⟩
      · obtain ⟨l, E, q1, q2, q3, q4⟩ := r.ext i X tr i1
        refine ⟨l, E, by rw [e1]; exact q1, X.stable q2 (fun b o hb => ?_) (fun b o hb => ?_) hsize hmild, ⟨fun b o hb => ?_, q3.same⟩, fun b hE => ⟨?_, fun j y k hj g hbj => ?_⟩⟩
        · have q := X.keeps q2 b o hb
          rw [hold b (Array.getElem?_eq_some_iff.1 q).1]; exact q
        · have q := r.keep b o (q3 b o hb)
          rw [hold b (Array.getElem?_eq_some_iff.1 q).1]; exact q
        · have := q3 b o hb
          rw [K2lt (Klt this)]; exact this
        · rw [K2lt (Ext.lt q2 hE)]; exact (q4 b hE).1
        · rcases look hj with ⟨l2, i2, e2⟩ | ⟨l2, ⟨k2, i2, rfl⟩, e2⟩ <;> rw [e2] at hbj
          · exact (q4 b hE).2 j y k i2 g hbj
          · have a1 := hnew (r'.sep _ y k2 i2 (shB_ne g) hbj).1
            have a2 := Ext.lt q2 hE
            omega
      · have := (List.all_eq_true.1 hok) _ (List.mem_of_getElem? i1)
        cases k1 <;> simp [shB] at e3 <;> simp [shOK] at this⟩
end Ab
set_option maxRecDepth 100000
namespace Ab
open Go
section
variable {α ρ : Type}
def Tr.sure (P : Program) (ro : Env) (φ : α ⊕ ρ → Prop) : Tr α ρ → Prop
  | .go a => φ (.inl a)
  | .out r => φ (.inr r)
  | .need b t => b = true ∧ (b = true → t.sure P ro φ)
  | .scal p t => (∀ r, p r = true) ∧ t.sure P ro φ
  | .br b t f => (b = true → t.sure P ro φ) ∧ (b = false → f.sure P ro φ)
  | .lit _ t => t.sure P ro φ
  | .call f us v ob _ t => ob = true ∧ PCalls P f us (· = v) ∧ t.sure P ro φ
  | .own _ _ _ t => t.sure P ro φ
  | .frz _ b t => b = true ∧ t.sure P ro φ
  | .front cs _ ob _ t => ob = true ∧ (∀ c ∈ cs, PCalls P c.2.1 c.2.2.1 (· = c.2.2.2)) ∧ t.sure P ro φ
  | .vle _ v v' t => VLe v v' ∧ t.sure P ro φ
  | .telb _ w n c c' t => (∀ r j, r < n → j < w → VLe (c r j) (c' r j)) ∧ t.sure P ro φ
  | .wait _ t => t.sure P ro φ
  | .cas b t f => (b = true → t.sure P ro φ) ∧ (b = false → f.sure P ro φ)
  | .hcall f us v h h' _ t => HCalls P f us v h h' ∧ t.sure P ro φ
  | .yld X tr us us' _ t => X.go tr = true ∧ YSpec P X ∧ tr ++ [.tuple us'] <+: X.ys ∧ (∀ j, j < us'.length → VLe (us.getD j .undef) (us'.getD j .undef)) ∧ t.sure P ro φ
  | .over c S x S' _ t => AWP P ro c S (fun e T => e = x ∧ T = S') ∧ t.sure P ro φ
  | .sem o us h v h' _ t => SemOK P o us h v h' ∧ t.sure P ro φ
  | .semn o us h n vs hs _ f => SemAny P o us h n vs hs ∧ ∀ j, j < n → (f j).sure P ro φ
  | .drop _ t => t.sure P ro φ
  | .telc _ cs cs' t => cs'.length = cs.length ∧ (∀ j, j < cs.length → VLe (cs.getD j .undef) (cs'.getD j .undef)) ∧ t.sure P ro φ
  | .never => False
theorem Tr.sure_mono {P : Program} {ro : Env} {φ ψ : α ⊕ ρ → Prop} (h : ∀ x, φ x → ψ x) : ∀ {t : Tr α ρ}, t.sure P ro φ → t.sure P ro ψ := by
  intro t
  induction t with
  | go a => exact h _
  | out r => exact h _
  | need b t ih => exact fun g => ⟨g.1, fun e => ih (g.2 e)⟩
  | scal p t ih => exact fun g => ⟨g.1, ih g.2⟩
  | br b t f iht ihf => exact fun g => ⟨fun e => iht (g.1 e), fun e => ihf (g.2 e)⟩
  | lit b t ih => exact ih
  | call f us v ob ok t ih => exact fun g => ⟨g.1, g.2.1, ih g.2.2⟩
  | own j e w t ih => exact ih
  | frz i b t ih => exact fun g => ⟨g.1, ih g.2⟩
  | front cs ov ob ok t ih => exact fun g => ⟨g.1, g.2.1, ih g.2.2⟩
  | vle j v v' t ih => exact fun g => ⟨g.1, ih g.2⟩
  | telb i w n c c' t ih => exact fun g => ⟨g.1, ih g.2⟩
  | wait k t ih => exact ih
  | cas b t f iht ihf => exact fun g => ⟨fun e => iht (g.1 e), fun e => ihf (g.2 e)⟩
  | hcall f us v h h' ok t ih => exact fun g => ⟨g.1, ih g.2⟩
  | yld X tr us us' ok t ih => exact fun g => ⟨g.1, g.2.1, g.2.2.1, g.2.2.2.1, ih g.2.2.2.2⟩
  | over c S x S' ok t ih => exact fun g => ⟨g.1, ih g.2⟩
  | sem o us h v h' ok t ih => exact fun g => ⟨g.1, ih g.2⟩
  | semn o us h n vs hs ok f ih => exact fun g => ⟨g.1, fun j hj => ih j (g.2 j hj)⟩
  | drop T t ih => exact ih
  | telc i cs cs' t ih => exact fun g => ⟨g.1, g.2.1, ih g.2.2⟩
  | never => exact fun g => g
theorem Tr.sure_holds {P : Program} {ro : Env} {cfg : α → List Item × St} {fin : ρ → Exit × St} {Q : Exit → St → Prop} {L : List Item → St → Prop} {φ : α ⊕ ρ → Prop} (h1 : ∀ a, φ (.inl a) → L (startOf (cfg a).1) (cfg a).2)
    (h2 : ∀ r, φ (.inr r) → Q (fin r).1 (fin r).2) : ∀ {t : Tr α ρ}, t.sure P ro φ → (t.toD cfg fin).holds P ro Q L := by
  intro t
  induction t with
  | go a => exact h1 a
  | out r => exact h2 r
  | need b t ih => exact fun g => ⟨g.1, ih (g.2 g.1)⟩
  | scal p t ih => exact fun g => ⟨g.1, ih g.2⟩
  | br b t f iht ihf => exact fun g => ⟨fun e => iht (g.1 e), fun e => ihf (g.2 e)⟩
  | lit b t ih => exact ih
  | call f us v ob ok t ih => exact fun g => ⟨g.1, g.2.1, ih g.2.2⟩
  | own j e w t ih => exact ih
  | frz i b t ih => exact fun g => ⟨g.1, ih g.2⟩
  | front cs ov ob ok t ih => exact fun g => ⟨g.1, g.2.1, ih g.2.2⟩
  | vle j v v' t ih => exact fun g => ⟨g.1, ih g.2⟩
  | telb i w n c c' t ih => exact fun g => ⟨g.1, ih g.2⟩
  | wait k t ih => exact ih
  | cas b t f iht ihf => exact fun g => ⟨fun e => iht (g.1 e), fun e => ihf (g.2 e)⟩
  | hcall f us v h h' ok t ih => exact fun g => ⟨g.1, ih g.2⟩
  | yld X tr us us' ok t ih => exact fun g => ⟨g.1, g.2.1, g.2.2.1, g.2.2.2.1, ih g.2.2.2.2⟩
  | over c S x S' ok t ih => exact fun g => ⟨g.1, ih g.2⟩
  | sem o us h v h' ok t ih => exact fun g => ⟨g.1, ih g.2⟩
  | semn o us h n vs hs ok f ih => exact fun g => ⟨g.1, fun j hj => ih j (g.2 j hj)⟩
  | drop T t ih => exact ih
  | telc i cs cs' t ih => exact fun g => ⟨g.1, g.2.1, ih g.2.2⟩
  | never => exact fun g => g.elim
def WP (P : Program) (ro : Env) (T : α → Tr α ρ) (φ : α ⊕ ρ → Prop) (a : α) : Prop :=
  ∀ X : α → Prop, (∀ b, φ (.inl b) → X b) → (∀ b, (T b).sure P ro (fun x => match x with | .inl c => X c | .inr r => φ (.inr r)) → X b) → X a
def Go (P : Program) (ro : Env) (T : α → Tr α ρ) (φ : α ⊕ ρ → Prop) : α ⊕ ρ → Prop
  | .inl b => WP P ro T φ b
  | .inr r => φ (.inr r)
variable {P : Program} {ro : Env} {T : α → Tr α ρ} {φ ψ : α ⊕ ρ → Prop} {a : α}
theorem WP.stop (h : φ (.inl a)) : WP P ro T φ a := fun _ h1 _ => h1 a h
theorem WP.step (h : (T a).sure P ro (Go P ro T φ)) : WP P ro T φ a := fun X h1 h2 =>
  h2 a (Tr.sure_mono (fun x hx => match x, hx with | .inl b, hx => hx X h1 h2 | .inr r, hx => hx) h)
theorem WP.bind (h : WP P ro T φ a) (h1 : ∀ x, φ x → Go P ro T ψ x) : WP P ro T ψ a :=
  h (WP P ro T ψ) (fun b hb => h1 (.inl b) hb) fun b hb => WP.step (Tr.sure_mono (fun x hx => match x, hx with | .inl c, hx => hx | .inr r, hx => h1 (.inr r) hx) hb)
theorem WP.mono (h : WP P ro T φ a) (h1 : ∀ x, φ x → ψ x) : WP P ro T ψ a :=
  h.bind fun x hx => match x, h1 x hx with | .inl _, hx => WP.stop hx | .inr _, hx => hx
def Ends' (post : ρ → Prop) : α ⊕ ρ → Prop
  | .inl _ => False
  | .inr r => post r
theorem WP.iwp (hmx : P.follows .mixedOrders = true) {cfg : α → List Item × St} {fin : ρ → Exit × St} (hsim : ∀ a, ∃ n, runG P ro.m n (startOf (cfg a).1) (cfg a).2 ((T a).toD cfg fin) = some ((T a).toD cfg fin))
    {post : ρ → Prop} (h : WP P ro T (Ends' post) a) : IWP P ro (startOf (cfg a).1) (cfg a).2 (fun e S => ∃ r, post r ∧ e = (fin r).1 ∧ S = (fin r).2) (fun _ _ => False) := by
  refine h (fun a => IWP P ro (startOf (cfg a).1) (cfg a).2 (fun e S => ∃ r, post r ∧ e = (fin r).1 ∧ S = (fin r).2) (fun _ _ => False)) (fun b hb => hb.elim) fun b hb => ?_
  obtain ⟨k, hk⟩ := hsim b
  refine (runG_ok hmx (Q := fun e S => ∃ r, post r ∧ e = (fin r).1 ∧ S = (fin r).2)
    (L := fun K S => IWP P ro K S (fun e S => ∃ r, post r ∧ e = (fin r).1 ∧ S = (fin r).2) (fun _ _ => False)) k _ _ _ hk
    (Tr.sure_holds (fun a' ha' => ha') (fun r hr => ⟨r, hr, rfl, rfl⟩) hb)).bind ?_
  exact fun K S h => h
theorem AWP.wp (hmx : P.follows .mixedOrders = true) {c : Code} {S : St} (T : α → Tr α ρ) (cfg : α → List Item × St) (fin : ρ → Exit × St) (e : α) (he : cfg e = ([.code c], S))
    (hsim : ∀ a, ∃ n, runG P ro.m n (startOf (cfg a).1) (cfg a).2 ((T a).toD cfg fin) = some ((T a).toD cfg fin)) {post : ρ → Prop} (h : WP P ro T (Ends' post) e) {Q : Exit → St → Prop} (hfin : ∀ r, post r → Q (fin r).1 (fin r).2) : AWP P ro c S Q := by
  refine AWP.of_iwp ?_
  have := h.iwp hmx hsim
  rw [he] at this
  exact this.mono fun e S ⟨r, hp, h1, h2⟩ => by subst h1; subst h2; exact hfin r hp
theorem PCalls.wp (hmx : P.follows .mixedOrders = true) {f : FuncId} {fn : Func} {c : Code} {args : List V} {post : V → Prop} (hf : P.funcs[f]? = some fn) (hb : fn.body = some c) (hn : (fn.name == "runtime.NumGoroutine") = false)
    (T : α → Tr α ρ) (cfg : α → List Item × St) (fin : ρ → Exit × St) (e : α) (he : cfg e = ([.code c], { t := args ++ List.replicate (fn.ntmps - args.length) .undef, h := [], d := [] }))
    (hsim : ∀ a, ∃ n, runG P 0 n (startOf (cfg a).1) (cfg a).2 ((T a).toD cfg fin) = some ((T a).toD cfg fin)) {pr : ρ → Prop} (h : WP P ⟨none, 0⟩ T (Ends' pr) e) (hfin : ∀ r, pr r → bodyQ P fn post (fin r).1 (fin r).2) : PCalls P f args post :=
  PCalls.of_body hf hb hn (AWP.wp hmx T cfg fin e he hsim h hfin)
theorem HCalls.wp (hmx : P.follows .mixedOrders = true) {f : FuncId} {fn : Func} {c : Code} {args : List V} {v : V} {h h' : List Blk} (hf : P.funcs[f]? = some fn) (hb : fn.body = some c) (hn : (fn.name == "runtime.NumGoroutine") = false)
    (T : α → Tr α ρ) (cfg : α → List Item × St) (fin : ρ → Exit × St) (e : α) (he : cfg e = ([.code c], { t := args ++ List.replicate (fn.ntmps - args.length) .undef, h := h, d := [] }))
    (hsim : ∀ a, ∃ n, runG P h.length n (startOf (cfg a).1) (cfg a).2 ((T a).toD cfg fin) = some ((T a).toD cfg fin)) {pr : ρ → Prop} (hw : WP P ⟨none, h.length⟩ T (Ends' pr) e)
    (hfin : ∀ r, pr r → ((fin r).1 = .normal ∨ (fin r).1 = .ret) ∧ (fin r).2.d = [] ∧ (fin r).2.h = h' ∧ resultV P fn (fin r).2 = some v) : HCalls P f args v h h' :=
  HCalls.of_body hf hb hn (AWP.wp hmx T cfg fin e he hsim hw hfin)
theorem WP.once (h : (T a).sure P ro φ) : WP P ro T φ a :=
  WP.step (Tr.sure_mono (fun x hx => match x, hx with | .inl _, hx => WP.stop hx | .inr _, hx => hx) h)
theorem WP.count (pt : Nat → α) (ha : pt 0 = a) (n : Nat) (I : Nat → Prop) (h0 : I 0) (hs : ∀ i, i < n → I i → WP P ro T (fun x => (x = .inl (pt (i + 1)) ∧ I (i + 1)) ∨ Go P ro T φ x) (pt i)) (he : I n → WP P ro T φ (pt n)) : WP P ro T φ a := by
  subst ha
  have key : ∀ m k : Nat, k + m = n → I k → WP P ro T φ (pt k) := by
    intro m
    induction m with
    | zero =>
      intro k hk hi
      have hkn : k = n := by omega
      subst hkn
      exact he hi
    | succ m ih =>
      intro k hk hi
      refine (hs k (by omega) hi).bind fun x hx => ?_
      rcases hx with ⟨rfl, hi'⟩ | hx
      · exact ih (k + 1) (by omega) hi'
      · exact hx
  exact key n 0 (by omega) h0
theorem WP.findE {τ : Type} (pt : Nat → α) (ha : pt 0 = a) (l : List τ) (d : τ) (of : Nat → τ → Int)
    (hs : ∀ i, i < l.length → WP P ro T (fun x => (of i (l.getD i d) = 0 ∧ x = .inl (pt (i + 1))) ∨ (of i (l.getD i d) ≠ 0 ∧ (firstE of 0 l = some (i, of i (l.getD i d)) → Go P ro T φ x))) (pt i))
    (he : firstE of 0 l = none → WP P ro T φ (pt l.length)) : WP P ro T φ a := by
  subst ha
  refine WP.count pt rfl l.length (fun i => firstE of 0 l = firstE of i (l.drop i)) rfl (fun i hi hI => ?_) (fun hI => he (by rw [hI]; simp [firstE]))
  refine (hs i hi).mono fun x hx => ?_
  rcases hx with ⟨h1, h2⟩ | ⟨h1, h2⟩
  · refine .inl ⟨h2, ?_⟩
    rw [hI, drop_cons d l i hi]; simp only [firstE, h1, if_true]
  · refine .inr (h2 ?_)
    rw [hI, drop_cons d l i hi]; simp only [firstE, h1, if_false]
theorem WP.findI {τ : Type} (pt : Nat → α) (ha : pt 0 = a) (l : List τ) (d : τ) (p : τ → Bool)
    (hs : ∀ i, i < l.length → WP P ro T (fun x => (p (l.getD i d) = false ∧ x = .inl (pt (i + 1))) ∨ (p (l.getD i d) = true ∧ (firstI p 0 l = some i → Go P ro T φ x))) (pt i))
    (he : firstI p 0 l = none → WP P ro T φ (pt l.length)) : WP P ro T φ a := by
  subst ha
  refine WP.count pt rfl l.length (fun i => firstI p 0 l = firstI p i (l.drop i)) rfl (fun i hi hI => ?_) (fun hI => he (by rw [hI]; simp [firstI]))
  refine (hs i hi).mono fun x hx => ?_
  rcases hx with ⟨h1, h2⟩ | ⟨h1, h2⟩
  · refine .inl ⟨h2, ?_⟩
    rw [hI, drop_cons d l i hi]; simp only [firstI, h1, Bool.false_eq_true, if_false]
  · refine .inr (h2 ?_)
    rw [hI, drop_cons d l i hi]; simp only [firstI, h1, if_true]
theorem WP.run (pt : Nat → α) (ha : pt 0 = a) (n : Nat) (hs : ∀ i, i < n → WP P ro T (fun x => x = .inl (pt (i + 1))) (pt i)) (he : WP P ro T φ (pt n)) : WP P ro T φ a :=
  WP.count pt ha n (fun _ => True) trivial (fun i hi _ => (hs i hi).mono fun _ hx => .inl ⟨hx, trivial⟩) fun _ => he
end
section
variable {α ρ : Type} {P : Program} {ro : Env} {T : α → Tr α ρ} {φ : α ⊕ ρ → Prop} {a : α}
theorem WP.findEI {τ : Type} (pt : Nat → α) (ha : pt 0 = a) (l : List τ) (d : τ) (of : Nat → τ → Int) (I : Nat → Prop) (h0 : I 0)
    (hs : ∀ i, i < l.length → I i → WP P ro T (fun x => (of i (l.getD i d) = 0 ∧ x = .inl (pt (i + 1)) ∧ I (i + 1)) ∨ (of i (l.getD i d) ≠ 0 ∧ (firstE of 0 l = some (i, of i (l.getD i d)) → Go P ro T φ x))) (pt i))
    (he : firstE of 0 l = none → I l.length → WP P ro T φ (pt l.length)) : WP P ro T φ a := by
  subst ha
  refine WP.count pt rfl l.length (fun i => firstE of 0 l = firstE of i (l.drop i) ∧ I i) ⟨rfl, h0⟩ (fun i hi hI => ?_) (fun hI => he (by rw [hI.1]; simp [firstE]) hI.2)
  refine (hs i hi hI.2).mono fun x hx => ?_
  rcases hx with ⟨h1, h2, h3⟩ | ⟨h1, h2⟩
  · refine .inl ⟨h2, ?_, h3⟩
    rw [hI.1, drop_cons d l i hi]; simp only [firstE, h1, if_true]
  · refine .inr (h2 ?_)
    rw [hI.1, drop_cons d l i hi]; simp only [firstE, h1, if_false]
end
end Ab
namespace Ab
open Go Go.Sort
def RowI (c : Nat → Nat → V) (l : List Int) : Prop := ∀ r, r < l.length → c r 0 = .int .i64 (l.getD r 0)
theorem row_holds {β : Homes} {G K : Kept} {h : List Blk} {w : World} (r : RH β G K h w) {i : Nat} {e : TypeId} {l : List Int} {c : Nat → Nat → V} (hi : h[i]? = some (.rows e 1 l.length c)) (hc : RowI c l) {x : Home} (hb : β[i]? = some (.lie x)) :
    Holds (Value.int .i64) w x.b 0 l.toArray ∧ x.b < w.heap.size ∧ l.length ≤ x.cap ∧ l.length ≤ maxn := by
  have hB := r.blk i _ hi
  rw [hb] at hB
  obtain ⟨h0, hn, hcap, cs, h1, h2, h3, h4, h5⟩ := hB
  refine ⟨fun j hj => ?_, (Array.getElem?_eq_some_iff.1 h1).1, h3, h4⟩
  have hj' : j < l.length := by simpa using hj
  have hv := h5 j 0 hj' (by omega)
  rw [hc j hj', Nat.mul_one, Nat.add_zero] at hv
  have hsz : j < cs.size := by rw [h2, Nat.mul_one]; omega
  have hx : cs[j]? = some (.int .i64 (l.getD j 0)) := by
    rw [Array.getElem?_eq_getElem hsz]
    rw [Array.getD_eq_getD_getElem?, Array.getElem?_eq_getElem hsz, Option.getD_some] at hv
    generalize cs[j] = v at hv
    cases hv; rfl
  refine ⟨?_, by simp [World.frozen?, h1]⟩
  simp only [World.cell?, h1, Nat.zero_add]
  simp only [Option.isSome_none, Bool.false_eq_true, if_false]
  rw [hx]
  simp [List.getD_eq_getElem?_getD, hj']
theorem row_put {β : Homes} {G K : Kept} {h : List Blk} {w : World} (r : RH β G K h w) {i : Nat} {e : TypeId} {n m : Nat} {c c' : Nat → Nat → V} (hi : h[i]? = some (.rows e 1 n c)) {x : Home} (hb : β[i]? = some (.lie x)) {d : List Int} {q : Nat} {os : Array Obj} (hd : d.length = n) (hm : m ≤ n)
    (hc : ∀ r, r < m → c' r 0 = .int .i64 (d.getD r 0)) : RH β G K (h.set i (.rows e 1 m c')) (grow (putRow (Value.int .i64) (Sort.ahead w q) x.b 0 d.toArray) os) := by
  have hB := r.blk i _ hi
  rw [hb] at hB
  obtain ⟨h0, hn, hcap, cs, h1, h2, h3, h4, h5⟩ := hB
  have hlt := (Array.getElem?_eq_some_iff.1 h1).1
  have hsz : (putRow (Value.int .i64) (Sort.ahead w q) x.b 0 d.toArray).heap.size = w.heap.size := by simp [putRow, mapBlock]
  have hnew : (putRow (Value.int .i64) (Sort.ahead w q) x.b 0 d.toArray).heap[x.b]? = some (.cells (putCells (Value.int .i64) 0 d.toArray cs) e (0, 0)) := by
    simp [putRow, mapBlock, Sort.ahead, Array.getElem?_modify, h1, onCells]
  have hold : ∀ b, b ≠ x.b → (putRow (Value.int .i64) (Sort.ahead w q) x.b 0 d.toArray).heap[b]? = w.heap[b]? := fun b hne => by
    simp [putRow, mapBlock, Sort.ahead, Array.getElem?_modify, Ne.symm hne]
  refine RH.congr (w := putRow (Value.int .i64) (Sort.ahead w q) x.b 0 d.toArray) ?_ (fun b hb => heap_grow_old _ _ hb) (by simp) ⟨rfl, rfl, rfl, Nat.le_refl _⟩
  refine r.write (hm := ⟨rfl, rfl, rfl, Nat.le_add_right _ _⟩) hi (by simp) hb hold hsz ⟨h0, hn, hcap, _, hnew, by simp [putCells, h2], by omega, by omega, fun j k hj hk => ?_⟩
  have hk0 : k = 0 := by omega
  subst hk0
  rw [hc j hj, Nat.mul_one, Nat.add_zero]
  have hjs : j < cs.size := by rw [h2, Nat.mul_one]; omega
  have hjd : j < d.length := by omega
  have : (putCells (Value.int .i64) 0 d.toArray cs).getD j Go.undef = .int .i64 (d.getD j 0) := by
    simp [putCells, Array.getD_eq_getD_getElem?, hjs, hjd, List.getD_eq_getElem?_getD]
  rw [this]; exact .int _ _
def sortZ (l : List Int) : List Int := l.mergeSort fun x y => decide (x ≤ y)
theorem sortZ_len (l : List Int) : (sortZ l).length = l.length := List.length_mergeSort l
theorem slice_inv {G : Kept} {β : Homes} {i n : Nat} {v : Value} (h : Rel G β (.row i n) v) : (∃ (x : Home) (cap : Nat), β[i]? = some (.lie x) ∧ v = .slice (some ⟨x.b, 0, none⟩) n cap ∧ n ≤ cap ∧ cap ≤ x.cap) ∨ (n = 0 ∧ β[i]? = some .nil ∧ ∃ a, v = .slice a 0 0) := by
  cases h with
  | row hi hn hc hm => exact .inl ⟨_, _, hi, rfl, hn, hc⟩
  | row0 hi => exact .inr ⟨rfl, hi, _, rfl⟩
section
variable {P : Program} {f : FuncId} {e : TypeId} {i : Nat} {l : List Int} {c c' : Nat → Nat → V} {h : List Blk}
theorem arg1 {xs : Array Value} {β : Homes} {G : Kept} {v : V} (hl : ([v] : List V).length = xs.size) (hr : ∀ j, j < ([v] : List V).length → Rel G β (([v] : List V).getD j .undef) (xs.getD j Go.undef)) : ∃ x, xs = #[x] ∧ Rel G β v x := by
  obtain ⟨x, rfl⟩ : ∃ x, xs = #[x] := by
    obtain ⟨ys⟩ := xs
    match ys, hl with
    | [y], _ => exact ⟨y, rfl⟩
  exact ⟨x, rfl, by simpa using hr 0 (by simp)⟩
theorem HCalls.sort (he : ∀ xs w, (callFunc f xs).run P w = .ok (.enter f xs) w)
    (h1 : ∀ (blk off cap : Nat) (zs : List Int) (w : World), Holds (Value.int .i64) w blk off zs.toArray → blk < w.heap.size → zs.length < 4611686018427387904 → Calls P f #[.slice (some ⟨blk, off, none⟩) zs.length cap] w fun e w' =>
      e = .returned (.tuple #[]) ∧ ∃ n os, w' = grow (putRow (Value.int .i64) (Sort.ahead w n) blk off (zs.mergeSort fun x y => decide (x ≤ y)).toArray) os)
    (h0 : ∀ (p : Option Addr) (cap : Nat) (w : World), Calls P f #[.slice p 0 cap] w fun e w' => e = .returned (.tuple #[]) ∧ w' = w)
    (hi : h[i]? = some (.rows e 1 l.length c)) (hc : RowI c l) (hc' : RowI c' (sortZ l)) : HCalls P f [.row i l.length] (.tuple []) h (h.set i (.rows e 1 l.length c')) := by
  refine ⟨he, fun β G K w xs r hl hr => ?_⟩
  obtain ⟨v, rfl, hv⟩ := arg1 hl hr
  rcases slice_inv hv with ⟨x, cap, hb, rfl, hn, hcap⟩ | ⟨hn, hb, a, rfl⟩
  · obtain ⟨g1, g2, g3, g4⟩ := row_holds r hi hc hb
    refine (h1 x.b 0 cap l w g1 g2 (by unfold maxn at g4; omega)).mono ?_
    rintro e' w' ⟨rfl, n, os, rfl⟩
    refine ⟨_, β, G, K, rfl, Homes.le_refl _, G.ext_refl K, K.le_refl, row_put r hi hb (sortZ_len l) (Nat.le_refl _) (fun j hj => hc' j (by rw [sortZ_len]; exact hj)), .tuple rfl fun j hj => absurd hj (Nat.not_lt_zero _)⟩
  · refine (h0 a 0 w).mono ?_
    rintro e' w' ⟨rfl, rfl⟩
    have hB := r.blk i _ hi
    rw [hb] at hB
    refine ⟨_, β, G, K, rfl, Homes.le_refl _, G.ext_refl K, K.le_refl, ?_, .tuple rfl fun j hj => absurd hj (Nat.not_lt_zero _)⟩
    obtain ⟨hB1, hB2⟩ : l.length = 0 ∧ 0 < 1 := hB
    exact r.swap hi (by simp) rfl (by rw [hb]; exact ⟨hB1, hB2⟩)
theorem compact_len (l : List Int) : (Lib.compact l).length ≤ l.length := by
  unfold Lib.compact Lib.compactUpTo
  rw [List.length_map]
  exact Nat.le_trans (List.length_filter_le _ _) (by simp)
def padZ (l : List Int) (n : Nat) : List Int := l ++ List.replicate (n - l.length) 0
theorem padZ_len {l : List Int} {n : Nat} (h : l.length ≤ n) : (padZ l n).length = n := by simp [padZ]; omega
theorem HCalls.compact (he : ∀ xs w, (callFunc f xs).run P w = .ok (.enter f xs) w)
    (h1 : ∀ (blk off cap : Nat) (zs : List Int) (w : World), Holds (Value.int .i64) w blk off zs.toArray → zs.length ≤ 9223372036854775807 → zs.length ≤ cap → Calls P f #[.slice (some ⟨blk, off, none⟩) zs.length cap] w fun e w' =>
      e = .returned (.slice (some ⟨blk, off, none⟩) (Lib.compact zs).length cap) ∧ ∃ q, w' = putRow (Value.int .i64) (Sort.ahead w q) blk off (Lib.compact zs ++ List.replicate (zs.length - (Lib.compact zs).length) 0).toArray)
    (h0 : ∀ (a : Option Addr) (cap : Nat) (w : World), Calls P f #[.slice a 0 cap] w fun e w' => e = .returned (.slice a 0 cap) ∧ w' = w)
    (hi : h[i]? = some (.rows e 1 l.length c)) (hc : RowI c l) (hc' : RowI c' (padZ (Lib.compact l) l.length)) : HCalls P f [.row i l.length] (.row i (Lib.compact l).length) h (h.set i (.rows e 1 l.length c')) := by
  refine ⟨he, fun β G K w xs r hl hr => ?_⟩
  obtain ⟨v, rfl, hv⟩ := arg1 hl hr
  have hcl := compact_len l
  rcases slice_inv hv with ⟨x, cap, hb, rfl, hn, hcap⟩ | ⟨hn, hb, a, rfl⟩
  · obtain ⟨g1, g2, g3, g4⟩ := row_holds r hi hc hb
    refine (h1 x.b 0 cap l w g1 (by unfold maxn at g4; omega) hn).mono ?_
    rintro e' w' ⟨rfl, n, rfl⟩
    have hp := row_put (q := n) (os := #[]) (c' := c') r hi hb (d := padZ (Lib.compact l) l.length) (padZ_len hcl) (Nat.le_refl _) fun j hj => hc' j (by rw [padZ_len hcl]; exact hj)
    have hg : ∀ w : World, grow w #[] = w := fun w => by simp [grow]
    rw [hg] at hp
    exact ⟨_, β, G, K, rfl, Homes.le_refl _, G.ext_refl K, K.le_refl, hp, .row hb (by omega) hcap (by omega)⟩
  · refine (h0 a 0 w).mono ?_
    rintro e' w' ⟨rfl, rfl⟩
    have hB := r.blk i _ hi
    rw [hb] at hB
    obtain ⟨hB1, hB2⟩ : l.length = 0 ∧ 0 < 1 := hB
    have hz : (Lib.compact l).length = 0 := by omega
    refine ⟨_, β, G, K, rfl, Homes.le_refl _, G.ext_refl K, K.le_refl, r.swap hi (by simp) rfl (by rw [hb]; exact ⟨hB1, hB2⟩), ?_⟩
    rw [hz]; exact .row0 hb
end
end Ab
namespace Ab
open Go
theorem VLe.cref {n : Nat} {c c' : Nat → V} (h : ∀ j, j < n → VLe (c j) (c' j)) : VLe (.cref n c) (.cref n c') := fun G β x hx => by
  cases hx with
  | cref hG hs hc => exact .cref hG hs fun j hj => h j hj _ _ _ (hc j hj)
theorem VLe.arrAgg {w n : Nat} {c : Nat → Nat → V} {vs : List V} (hl : vs.length = n * w) (hv : ∀ j, j < n * w → vs.getD j .undef = c (j / w) (j % w)) : VLe (.arr w n c) (.agg vs) := fun G β x hx => by
  cases hx with
  | arr hs hc =>
    refine .agg (by rw [hl, hs]) fun j hj => ?_
    rw [hl] at hj
    rw [hv j hj]
    rcases Nat.eq_zero_or_pos w with h0 | h0
    · subst h0; simp at hj
    · have h1 : j / w < n := Nat.div_lt_of_lt_mul (by rw [Nat.mul_comm]; exact hj)
      have := hc (j / w) (j % w) h1 (Nat.mod_lt _ h0)
      rw [Nat.mul_comm, Nat.div_add_mod] at this
      exact this.up β
theorem AWP.region_anyC {P : Program} {ro : Env} {id : Nat} {ops : Array Oper} {S : St} {Q : Exit → St → Prop} (m : Nat) (hmx : P.follows .mixedOrders = true) (hback : backOK ops = true) (hm : m ≤ ops.size)
    (ht : ∀ j, m ≤ j → j < ops.size → tailAt ops j = true) (inv : Array Bool → St) (h0 : ∀ β G K a w, RS β G K S a w → ∃ β', β.le β' ∧ RS β' G K (inv (Array.replicate ops.size false)) a w)
    (step : ∀ (l : Array Bool) (i : Nat), l.size = ops.size → i < m → l.getD i false = false → (∀ j, m ≤ j → l.getD j false = false) → Closed ops l → i ∈ Region.ready .any ops l → AStep P ro ops i (inv l) (inv (l.setIfInBounds i true)))
    (last : ∀ (l : Array Bool), l.size = ops.size → (∀ i, i < m → l.getD i false = true) → (∀ j, m ≤ j → l.getD j false = false) → AOps P ro ops (List.range' m (ops.size - m)) (inv l) Q) : AWP P ro (.region id ops true) S Q := fun β G K a w r => by
  refine wpIn_region_any hmx ?_
  have key : ∀ (fuel : Nat) (l : Array Bool) β G K a w, l.size = ops.size → unl l m + (ops.size - m) ≤ fuel → (∀ j, m ≤ j → l.getD j false = false) → Closed ops l → RS β G K (inv l) a w → wpAnyIn (wide ro) 0 P .any ops (Post ro.m Q β G K) fuel l a w := by
    intro fuel
    induction fuel with
    | zero =>
      intro l β G K a w hl hf hj hcl r
      have h1 := unl_zero l m (by omega)
      exact tail_any hback ht (ops.size - m) m 0 l a w (by omega) (Nat.le_refl _) (by omega) hl h1 (fun i hi _ => hj i hi) (last l hl h1 hj β G K a w r)
    | succ fuel ih =>
      intro l β G K a w hl hf hj hcl r
      by_cases hz : unl l m = 0
      · have h1 := unl_zero l m hz
        exact tail_any hback ht (ops.size - m) m (fuel + 1) l a w (by omega) (Nat.le_refl _) (by omega) hl h1 (fun i hi _ => hj i hi) (last l hl h1 hj β G K a w r)
      ·
        have ex : ∃ q, q < m ∧ l.getD q false = false ∧ ∀ i, i < q → l.getD i false = true := by
          clear ih hf r step last
          have : ∀ k, unl l k ≠ 0 → ∃ q, q < k ∧ l.getD q false = false ∧ ∀ i, i < q → l.getD i false = true := by
            intro k
            induction k with
            | zero => intro h; simp [unl] at h
            | succ k ihk =>
              intro h
              by_cases hk : unl l k = 0
              · refine ⟨k, by omega, ?_, unl_zero l k hk⟩
                cases hc : l.getD k false with
                | false => rfl
                | true => simp [unl, hk, hc] at h
              · obtain ⟨q, q1, q2, q3⟩ := ihk hk
                exact ⟨q, by omega, q2, q3⟩
          exact this m hz
        obtain ⟨q, q1, q2, q3⟩ := ex
        refine ⟨fun hnil => ?_, fun i hi => ?_⟩
        · have := least_ready hback hl (q := q) (by omega) q3 q2
          rw [hnil] at this; cases this
        · have hi' := hi
          rw [mem_ready] at hi'
          obtain ⟨e0, o, ho, _⟩ := hi'
          have hlt := (Array.getElem?_eq_some_iff.1 ho).1
          have e : l.getD i true = l.getD i false := by simp [Array.getD_eq_getD_getElem?, show i < l.size by omega]
          rw [e] at e0
          have him : i < m := by
            rcases Nat.lt_or_ge i m with z | z
            · exact z
            · have := tailAt_ready hcl (ht i z hlt) hi q (by omega)
              rw [q2] at this; cases this
          refine step l i hl him e0 hj hcl hi β G K a w _ _ r fun β' G' K' a' w' hL hG hK r' => ?_
          have hu := unl_set l i (by omega) e0 m
          rw [if_pos him] at hu
          have hpos := unl_pos l i e0 m him
          have := ih (l.setIfInBounds i true) β' G' K' a' w' (by simp [hl]) (by omega) (fun j hj' => by rw [getD_set_ne false (by omega)]; exact hj j hj') (hcl.set hi) r'
          exact any_mono (fun e a w hp => hp.up hL hG hK) this
  obtain ⟨β', hle, r'⟩ := h0 β G K a w r
  refine any_mono (fun e a w hp => hp.up (hle.low _) (G.ext_refl K) K.le_refl) (key ops.size _ β' G K a _ (by simp) ?_ (fun j _ => ?_) (fun j hj => ?_) r'.drew)
  · have : ∀ k, unl (Array.replicate ops.size false) k ≤ k := by
      intro k
      induction k with
      | zero => simp [unl]
      | succ k ih => simp only [unl]; split <;> omega
    have := this m
    omega
  · simp only [Array.getD_eq_getD_getElem?, Array.getElem?_replicate]; split <;> rfl
  · exfalso
    have : (Array.replicate ops.size false).getD j false = false := by simp only [Array.getD_eq_getD_getElem?, Array.getElem?_replicate]; split <;> rfl
    rw [this] at hj; cases hj
theorem ready_dep {ops : Array Oper} {l : Array Bool} {i : Nat} (hr : i ∈ Region.ready .any ops l) {o : Oper} (ho : ops[i]? = some o) : ∀ e ∈ o.after, Region.binds .any e = true → l.getD e.on false = true := by
  rw [mem_ready] at hr
  obtain ⟨_, o', ho', h⟩ := hr
  rw [ho] at ho'
  cases ho'
  exact h
theorem RH.take {β : Homes} {G K : Kept} {h : List Blk} {w : World} (r : RH β G K h w) {n : Nat} (hu : (h.take n).all (Blk.under n) = true) : RH (β.take n) G K (h.take n) w := by
  have get : ∀ {i : Nat} {k : Blk}, (h.take n)[i]? = some k → i < n ∧ h[i]? = some k := fun {i k} hi => by
    rw [List.getElem?_take] at hi
    split at hi
    · rename_i hn; exact ⟨hn, hi⟩
    · cases hi
  have getb : ∀ {i : Nat}, i < n → (β.take n)[i]? = β[i]? := fun hi => List.getElem?_take_of_lt hi
  refine ⟨by simp [r.len], fun i k hk => ?_, fun i j x y k k' hi hj g g' hbi hbj e => ?_, fun i x k hi g hb => ?_, r.keep, r.gk, r.amb, fun i X tr hi => ?_⟩
  · obtain ⟨h1, h2⟩ := get hk
    rw [getb h1]
    exact (r.blk i k h2).take (List.all_eq_true.1 hu k (List.mem_of_getElem? hk))
  · obtain ⟨h1, h2⟩ := get hi
    obtain ⟨h3, h4⟩ := get hj
    rw [getb h1] at hbi; rw [getb h3] at hbj
    exact r.inj i j x y k k' h2 h4 g g' hbi hbj e
  · obtain ⟨h1, h2⟩ := get hi
    rw [getb h1] at hb
    exact r.sep i x k h2 g hb
  · obtain ⟨h1, h2⟩ := get hi
    obtain ⟨l, E, q1, q2, q3, q4⟩ := r.ext i X tr h2
    refine ⟨l, E, by rw [getb h1]; exact q1, q2, q3, fun b hb => ⟨(q4 b hb).1, fun j x k hj g hbj => ?_⟩⟩
    obtain ⟨h5, h6⟩ := get hj
    rw [getb h5] at hbj
    exact (q4 b hb).2 j x k h6 g hbj
theorem HCalls.of_bodyD {P : Program} {f : FuncId} {fn : Func} {c : Code} {args : List V} {v : V} {h h' : List Blk} (hf : P.funcs[f]? = some fn) (hb : fn.body = some c) (hn : (fn.name == "runtime.NumGoroutine") = false) (hle0 : h.length ≤ h'.length)
    (hw : AWP P ⟨none, h.length⟩ c { t := args ++ List.replicate (fn.ntmps - args.length) .undef, h := h, d := [] } fun e S => (e = .normal ∨ e = .ret) ∧ S.d.Nodup ∧ (shut S.d S.h).take h'.length = h' ∧ h'.all (Blk.under h'.length) = true ∧ v.under h'.length = true ∧ resultV P fn { S with h := shut S.d S.h } = some v) : HCalls P f args v h h' := by
  have hn' : ¬ fn.name = "runtime.NumGoroutine" := by simpa using hn
  refine ⟨fun xs w => by simp [callFunc, hf, hn', hb], fun β G K w xs rh hl hr => ?_⟩
  refine callsIn_wide.1 (callsIn_of_wp_marks (F := wide ⟨none, 0⟩) (n := 0) hf hb trivial ?_)
  have r : RS β G K { t := args ++ List.replicate (fn.ntmps - args.length) .undef, h := h, d := [] } { tmps := xs ++ Array.replicate (fn.ntmps - xs.size) Go.undef, defers := [] } w := by
    refine ⟨rh, by simp [hl], fun j => ?_, rfl, by simp⟩
    rcases Nat.lt_or_ge j args.length with h1 | h1
    · rw [getD_append_left h1, agetD_append_left (by omega)]; exact hr j h1
    · rw [getD_append_right h1, agetD_append_right (by omega)]
      have : (List.replicate (fn.ntmps - args.length) V.undef).getD (j - args.length) .undef = .undef := by
        rw [List.getD_eq_getElem?_getD, List.getElem?_replicate]; split <;> rfl
      rw [this]; exact .undef _
  refine wpIn_mono (hw β G K _ w r) fun e a' w' hp => ?_
  obtain ⟨S, β', G', K', h0, hG, hK, r', he, hnd, hh, hu, hvu, hv⟩ := hp
  have hle : β.le β' := by
    unfold Homes.low at h0
    rwa [List.take_of_length_le (by simp only; rw [rh.len]; exact Nat.le_refl _)] at h0
  have leaves : LeavesInM (wide ⟨none, 0⟩) 0 P fn a'.tmps (fun e w' => ∃ x β' G' K', e = .returned x ∧ β.le β' ∧ G.ext K G' ∧ K.le K' ∧ RH β' G' K' h' w' ∧ Rel G' β' v x) a'.defers .returning w' := by
    refine take_marks S.d a'.defers β' G' K' S.h a'.tmps w' r'.h r'.marks hnd r'.mark fun w2 r2 => ?_
    obtain ⟨x, hx, hrx⟩ := resultV_ok (S := { S with h := shut S.d S.h }) r2 r'.tmp hv
    have r3 := r2.take (n := h'.length) (by rw [hh]; exact hu)
    rw [hh] at r3
    refine ⟨x, hx, x, β'.take h'.length, G', K', rfl, fun i hm hv1 hi => ?_, hG, hK, r3, hrx.take hvu⟩
    have hib : i < β.length := (List.getElem?_eq_some_iff.1 hi).1
    rw [List.getElem?_take_of_lt (by rw [rh.len] at hib; omega)]
    exact hle i hm hv1 hi
  rcases he with rfl | rfl
  · exact leaves
  · exact leaves
theorem HCalls.wpD {α ρ : Type} {P : Program} (hmx : P.follows .mixedOrders = true) {f : FuncId} {fn : Func} {c : Code} {args : List V} {v : V} {h h' : List Blk} (hf : P.funcs[f]? = some fn) (hb : fn.body = some c) (hn : (fn.name == "runtime.NumGoroutine") = false) (hle0 : h.length ≤ h'.length)
    (T : α → Tr α ρ) (cfg : α → List Item × St) (fin : ρ → Exit × St) (e : α) (he : cfg e = ([.code c], { t := args ++ List.replicate (fn.ntmps - args.length) .undef, h := h, d := [] }))
    (hsim : ∀ a, ∃ n, runG P h.length n (startOf (cfg a).1) (cfg a).2 ((T a).toD cfg fin) = some ((T a).toD cfg fin)) {pr : ρ → Prop} (hw : WP P ⟨none, h.length⟩ T (Ends' pr) e)
    (hfin : ∀ r, pr r → ((fin r).1 = .normal ∨ (fin r).1 = .ret) ∧ (fin r).2.d.Nodup ∧ (shut (fin r).2.d (fin r).2.h).take h'.length = h' ∧ h'.all (Blk.under h'.length) = true ∧ v.under h'.length = true ∧ resultV P fn { (fin r).2 with h := shut (fin r).2.d (fin r).2.h } = some v) : HCalls P f args v h h' :=
  HCalls.of_bodyD hf hb hn hle0 (AWP.wp hmx T cfg fin e he hsim hw hfin)
def V.at (i : Nat) : V → V
  | .ref 0 r off => .ref i r off
  | v => v
theorem Rel.low {G : Kept} {β γ : Homes} {v : V} {x : Value} (h : Rel G β v x) (hu : v.under 0 = true) : Rel G γ v x := by
  have := h.take (m := 0) hu
  rw [List.take_zero] at this
  exact this.up γ
theorem HCalls.at {P : Program} {f : FuncId} {args : List V} {v : V} {cs cs' : List V} (hc : HCalls P f args v [.cells cs] [.cells cs']) (ha : ∀ j, (∃ r off, args.getD j .undef = .ref 0 r off) ∨ (args.getD j .undef).under 0 = true) (hv : v.under 0 = true) (hk : underL 0 cs = true) (hk' : underL 0 cs' = true)
    {h : List Blk} {i : Nat} (hi : h[i]? = some (.cells cs)) : HCalls P f (args.map (V.at i)) v h (h.set i (.cells cs')) :=
  ⟨hc.1, fun β G K w xs r hl hr => by
    have hB := r.blk i _ hi
    obtain ⟨x, hx⟩ : ∃ x, β[i]? = some (.lie x) := by
      cases hb : β[i]? with
      | none => rw [hb] at hB; exact hB.elim
      | some m =>
        rw [hb] at hB
        cases m with
        | lie x => exact ⟨x, rfl⟩
        | void => exact hB.elim
        | nil => exact hB.elim
        | ext l => exact hB.elim
    rw [hx] at hB
    obtain ⟨hKx, hlt⟩ := r.sep i x _ hi (by simp) hx
    obtain ⟨K0, hK0⟩ : ∃ K0 : Kept, K0 = ⟨fun b => if b = x.b then none else w.heap[b]?, K.amb⟩ := ⟨_, rfl⟩
    have k0x : K0 x.b = none := by rw [hK0]; simp
    have k0o : ∀ b, b ≠ x.b → K0 b = w.heap[b]? := fun b hb => by rw [hK0]; simp [hb]
    have hGK0 : G.le K0 := ⟨fun b o hb => by
      have h1 := r.gk b o hb
      have h2 : b ≠ x.b := fun e => by rw [e, hKx] at h1; cases h1
      rw [k0o b h2]; exact r.keep b o h1, r.gk.same.trans (by rw [hK0])⟩
    have r0 : RH [.lie x] G K0 [.cells cs] w := by
      refine ⟨rfl, fun j k hj => ?_, fun j l y z k k' hj hl _ _ _ _ _ => ?_, fun j y k hj _ hb => ?_, fun b o hb => ?_, hGK0, by rw [hK0]; exact r.amb, fun j X tr hj => ?_⟩
      · match j, hj with
        | 0, hj =>
          cases hj
          obtain ⟨c, e, h1, h2, h3⟩ := hB
          exact ⟨c, e, h1, h2, fun q hq => (h3 q hq).low (underL_getD hk q)⟩
        | j + 1, hj => simp at hj
      · match j, l, hj, hl with
        | 0, 0, _, _ => rfl
        | j + 1, _, hj, _ => simp at hj
        | 0, l + 1, _, hl => simp at hl
      · match j, hj, hb with
        | 0, _, hb => cases hb; exact ⟨k0x, hlt⟩
        | j + 1, hj, _ => simp at hj
      · by_cases e : b = x.b
        · rw [e, k0x] at hb; cases hb
        · rw [k0o b e] at hb; exact hb
      · match j, hj with
        | 0, hj => cases hj
        | j + 1, hj => simp at hj
    refine (hc.tight rfl rfl [.lie x] G K0 w xs r0 (by simpa using hl) fun j hj => ?_).mono ?_
    · have h1 := hr j (by simpa using hj)
      have e1 : (args.map (V.at i)).getD j .undef = V.at i (args.getD j .undef) := by
        simp only [List.getD_eq_getElem?_getD, List.getElem?_map]
        cases args[j]? <;> rfl
      rw [e1] at h1
      rcases ha j with ⟨q, off, e⟩ | hu
      · rw [e] at h1 ⊢
        change Rel G β (.ref i q off) _ at h1
        generalize xs.getD j Go.undef = y at h1
        cases h1 with
        | ref hb => rw [hx] at hb; cases hb; exact .ref rfl
      · have e2 : V.at i (args.getD j .undef) = args.getD j .undef := by
          generalize args.getD j .undef = u at hu
          unfold V.at
          split
          · simp [V.under] at hu
          · rfl
        rw [e2] at h1
        exact h1.low hu
    rintro e w' ⟨⟨y, γ, G', K', rfl, hγ, hG, hK, r', hy⟩, hmild⟩
    have hg0 : γ = [.lie x] := by
      have h1 := hγ 0 (.lie x) (by simp) rfl
      have h2 : γ.length = 1 := r'.len
      match γ, h1, h2 with
      | [z], h1, _ => cases h1; rfl
    subst hg0
    have hold : ∀ b, b < w.heap.size → b ≠ x.b → w'.heap[b]? = w.heap[b]? := fun b hb hne => by
      have e1 : w.heap[b]? = some w.heap[b] := Array.getElem?_eq_getElem hb
      rw [e1]; exact r'.keep b _ (hK b _ (by rw [k0o b hne]; exact e1))
    have hx' := r'.sep 0 x _ rfl (by simp) rfl
    have hsz : w.heap.size ≤ w'.heap.size := by
      rcases Nat.lt_or_ge w'.heap.size w.heap.size with q | q
      · by_cases e : w'.heap.size = x.b
        · have := hx'.2; omega
        · have := hold w'.heap.size q e
          rw [Array.getElem?_eq_none (Nat.le_refl _), Array.getElem?_eq_getElem q] at this; cases this
      · exact q
    have hnew : ∀ b o, G' b = some o → G b = some o ∨ w.heap.size ≤ b := fun b o hb => by
      rcases hG.2 b o hb with q | q
      · exact .inl q
      · rcases Nat.lt_or_ge b w.heap.size with z | z
        · by_cases e : b = x.b
          · have := r'.gk b o hb; rw [e, hx'.1] at this; cases this
          · rw [k0o b e, Array.getElem?_eq_getElem z] at q; cases q
        · exact .inr z
    have hKlt : ∀ b o, K b = some o → b < w.heap.size := fun b o hb => (Array.getElem?_eq_some_iff.1 (r.keep b o hb)).1
    have hKn : ∀ b, w.heap.size ≤ b → K b = none := fun b hb => by
      cases q : K b with
      | none => rfl
      | some o => have := hKlt b o q; omega
    obtain ⟨K2, hK2⟩ : ∃ K2 : Kept, K2 = ⟨fun b => match K b with | some o => some o | none => G' b, K.amb⟩ := ⟨_, rfl⟩
    have k2K : ∀ b o, K b = some o → K2 b = some o := fun b o hb => by rw [hK2]; simp [hb]
    have k2n : ∀ b, K b = none → K2 b = G' b := fun b hb => by rw [hK2]; simp [hb]
    have k2none : ∀ b, b < w.heap.size → K b = none → K2 b = none := fun b hb hn => by
      rw [k2n b hn]
      cases q : G' b with
      | none => rfl
      | some o =>
        rcases hnew b o q with z | z
        · have := r.gk b o z; rw [hn] at this; cases this
        · omega
    have hsame : K.amb = G'.amb := by rw [← r.gk.same]; exact hG.1.same
    refine ⟨y, β, G', K2, rfl, Homes.le_refl _, ⟨hG.1, fun b o hb => (hnew b o hb).imp id (hKn b)⟩, ⟨k2K, by rw [hK2]⟩, ⟨by simp [r.len], fun j k hj => ?_, fun j l y z k k' hj hl g g' hbj hbl e => ?_, fun j y k hj g hb => ?_, fun b o hb => ?_, ⟨fun b o hb => ?_, ?_⟩, ?_, fun j X tr hj => ?_⟩, hy.low hv⟩
    · by_cases e : j = i
      · subst e
        rw [List.getElem?_set_self (List.getElem?_eq_some_iff.1 hi).1] at hj; cases hj
        rw [hx]
        obtain ⟨c, t, h1, h2, h3⟩ := r'.blk 0 _ rfl
        exact ⟨c, t, h1, h2, fun q hq => (h3 q hq).low (underL_getD hk' q)⟩
      · rw [List.getElem?_set_ne (Ne.symm e)] at hj
        by_cases hg : k = .gone
        · subst hg; cases (β[j]?.getD .void) <;> trivial
        refine (r.blk j k hj).mono hG.1 (Homes.le_refl _) fun y hy => ?_
        have hb : β[j]? = some (.lie y) := by
          cases hb : β[j]? with
          | none => simp [hb] at hy
          | some z => simp [hb] at hy; rw [hy]
        refine hold y.b (r.sep j y k hj hg hb).2 fun e2 => e ?_
        exact r.inj j i y x k _ hj hi hg (by simp) hb hx e2
    · have look : ∀ {j : Nat} {k : Blk}, (h.set i (.cells cs'))[j]? = some k → k ≠ .gone → ∃ k2, h[j]? = some k2 ∧ k2 ≠ .gone := fun {j k} hj g => by
        by_cases e : j = i
        · subst e; exact ⟨_, hi, by simp⟩
        · rw [List.getElem?_set_ne (Ne.symm e)] at hj; exact ⟨k, hj, g⟩
      obtain ⟨k2, q1, q2⟩ := look hj g
      obtain ⟨k3, q3, q4⟩ := look hl g'
      exact r.inj j l y z k2 k3 q1 q3 q2 q4 hbj hbl e
    · by_cases e : j = i
      · subst e
        rw [hx] at hb; cases hb
        exact ⟨k2none _ hlt hKx, Nat.lt_of_lt_of_le hlt hsz⟩
      · rw [List.getElem?_set_ne (Ne.symm e)] at hj
        have hs := r.sep j y k hj g hb
        exact ⟨k2none _ hs.2 hs.1, Nat.lt_of_lt_of_le hs.2 hsz⟩
    · cases q : K b with
      | none => rw [k2n b q] at hb; exact r'.keep b o (r'.gk b o hb)
      | some o' =>
        rw [k2K b o' q] at hb; cases hb
        have hne : b ≠ x.b := fun e => by rw [e, hKx] at q; cases q
        rw [hold b (hKlt b _ q) hne]; exact r.keep b _ q
    · cases q : K b with
      | none => rw [k2n b q]; exact hb
      | some o' =>
        rw [k2K b o' q]
        rcases hnew b o hb with z | z
        · have := r.gk b o z; rw [q] at this; exact this
        · have := hKlt b o' q; omega
    · rw [hK2]; exact hsame.symm
    · rw [hK2]; exact r.amb.mild hmild
    · have hne : j ≠ i := fun e => by
        subst e
        rw [List.getElem?_set_self (List.getElem?_eq_some_iff.1 hi).1] at hj; cases hj
      rw [List.getElem?_set_ne (Ne.symm hne)] at hj
      obtain ⟨l, E, h1, h2, h3, h4⟩ := r.ext j X tr hj
      have hE : ∀ b, E b ≠ none → b < w.heap.size ∧ b ≠ x.b := fun b hb => ⟨Ext.lt h2 hb, fun e => (h4 b hb).2 i x _ hi (by simp) hx e.symm⟩
      refine ⟨l, E, h1, X.stable h2 (fun b o hb => ?_) (fun b o hb => ?_) hsz hmild, ⟨fun b o hb => k2K b o (h3 b o hb), h3.same.trans (by rw [hK2])⟩, fun b hb => ⟨k2none b (hE b hb).1 (h4 b hb).1, fun q z k hq g hz => ?_⟩⟩
      · have q := X.keeps h2 b o hb
        have := hE b (by rw [hb]; simp)
        rw [hold b this.1 this.2]; exact q
      · have q := h3 b o hb
        have hne2 : b ≠ x.b := fun e => by rw [e, hKx] at q; cases q
        rw [hold b (hKlt b o q) hne2]; exact r.keep b o q
      · by_cases e : q = i
        · subst e
          rw [hx] at hz; cases hz
          exact fun e => (hE b hb).2 e.symm
        · rw [List.getElem?_set_ne (Ne.symm e)] at hq
          exact (h4 b hb).2 q z k hq g hz⟩
section
variable {P : Program} {h : List Blk}
theorem sem_copyK {x y : Operand} {dT sT e : TypeId} {i n k : Nat} (hk : n ≤ k) {et : TypeId} {c c0 c2 : Nat → Nat → V} (hu : P.underlying dT = some (.slice e)) (hs : (P.info? e).map (·.size) = some 1) (hi : h[i]? = some (.rows et 1 n c0)) (hc1 : ∀ r, r < n → (c r 0).scalar = true) (hc2 : ∀ r, r < n → c2 r 0 = c r 0) :
    SemOK P (.call { callee := .builtin .copy, args := #[x, y], argTypes := #[dT, sT] }) [(x, .row i n), (y, .list 1 k c)] h (.int .i64 n) (h.set i (.rows et 1 n c2)) := fun β G K w ρ' oper ho _ r hr => by
  have hx := hr (x, .row i n) (by simp)
  have hy := hr (y, .list 1 k c) (by simp)
  simp only at hx hy
  have hB := r.blk i _ hi
  have fin : ∀ w', (Builtin.copy_ #[dT, sT] oper.type #[ρ' x, ρ' y]).run P w = .ok (.int .i64 n) w' → RH β G K (h.set i (.rows et 1 n c2)) w' → OpOK P β G K w ρ' oper (.int .i64 n) (h.set i (.rows et 1 n c2)) := fun w' hrun hrh =>
    ⟨.value (.int .i64 n), w', β, by
      simp only [execOp, ho, resolve, Sem.run_bind, Sem.run_pure, Result.andThen_ok, invoke, builtin, List.map_toArray, List.map_cons, List.map_nil, hrun], Homes.le_refl _, hrh, .int _ _⟩
  rcases Nat.eq_zero_or_pos n with h0 | h0
  · subst h0
    refine fin w ?_ (r.swap hi (by simp) rfl ?_)
    · have : ∃ a cp, ρ' x = .slice a 0 cp := by generalize ρ' x = xv at hx; cases hx <;> exact ⟨_, _, rfl⟩
      obtain ⟨a1, c1, e1⟩ := this
      have : ∃ a cp, ρ' y = .slice a k cp := by generalize ρ' y = yv at hy; cases hy <;> exact ⟨_, _, rfl⟩
      obtain ⟨a2, c2, e2⟩ := this
      rw [e1, e2]
      exact run_copy_none w dT sT oper.type e a1 a2 0 c1 k c2 hu hs (Nat.min_eq_right (Nat.zero_le _))
    · revert hB
      cases β[i]?.getD .void with
      | void => exact id
      | nil => exact id
      | ext l => exact id
      | lie z =>
        rintro ⟨h0, hn, hcm, ca, h1, h2, h3, h4, h5⟩
        exact ⟨h0, hn, hcm, ca, h1, h2, h3, h4, fun r j hr => by omega⟩
  · generalize hxv : ρ' x = xv at hx
    generalize hyv : ρ' y = yv at hy
    cases hx with
    | row0 _ => omega
    | row hb hcp hcc hm =>
      rename_i cap z
      cases hy with
      | list0 => omega
      | list hG hsz hcap hn hc =>
        rename_i b2 off cap2 cs ct fz
        rw [hb] at hB
        obtain ⟨hw1, _, hcm, cur, hh, hs2, hmc, hmx, hrr⟩ := hB
        have hsrc0 := r.keep _ _ (r.gk _ _ hG)
        have hcsz : off + n ≤ cs.size := by have : off + k ≤ cs.size := by simpa using hsz
                                            omega
        have hrow := run_copy_row (P := P) w dT sT oper.type e z.b 0 n cap ⟨b2, off, none⟩ k cap2 cur et ((List.range n).map fun j => cs.getD (off + j) Go.undef) hu hs hh (by simp only [List.length_map, List.length_range]; exact (Nat.min_eq_right hk).symm) (fun j v hv => by
          simp only [List.getElem?_map] at hv
          rcases Nat.lt_or_ge j n with q | q
          · rw [List.getElem?_range q] at hv
            simp only [Option.map_some, Option.some.injEq] at hv
            subst hv
            rw [addr_add]
            simp only [World.cell?, hsrc0]
            rw [Array.getElem?_eq_getElem (by omega)]
            simp [Array.getD_eq_getD_getElem?, Array.getElem?_eq_getElem (show off + j < cs.size by omega)]
          · rw [List.getElem?_eq_none (by simpa using q)] at hv; cases hv) (by simp; omega) (fun v hv => by
          simp only [List.mem_map, List.mem_range] at hv
          obtain ⟨j, hj, rfl⟩ := hv
          have := hc j 0 (by omega) (by omega)
          rw [Nat.mul_one, Nat.add_zero] at this
          exact (this.scalar (hc1 j hj)).2)
        refine fin _ (by rw [hxv, hyv]; simp only [List.length_map, List.length_range] at hrow; simpa [goInt] using hrow) (r.write hi (by simp) hb (fun b hb' => setRow_other w _ _ _ hb') (by simp) ⟨hw1, by omega, hcm, _, setRow_heap w _ cur _ et _ hh, ?_, hmc, hmx, fun q j hq hj => ?_⟩)
        · simp only [List.take_zero, List.nil_append, List.size_toArray, List.length_append, List.length_map, List.length_range, List.length_drop, Array.length_toList]
          rw [hs2] at *; omega
        · have hj0 : j = 0 := by omega
          subst hj0
          rw [Nat.mul_one, Nat.add_zero]
          have := hc q 0 (by omega) (by omega)
          rw [← hc2 q hq, Nat.mul_one, Nat.add_zero] at this
          simpa [Array.getD_eq_getD_getElem?, List.getElem?_append_left, hq] using this
end
theorem HCalls.rowNew {P : Program} {f : FuncId} {args us : List V} {e : TypeId} {wd n j : Nat} {c : Nat → Nat → V} {h1 : List Blk} (hc : HCalls P f us (.row j n) [] h1) (hx1 : noExt h1 = true) (hj : h1[j]? = some (.rows e wd n c)) (hn : 0 < n)
    {h : List Blk} (hl0 : args.length = us.length) (hs : ∀ q, q < us.length → Snap h (args.getD q .undef) (us.getD q .undef)) :
    HCalls P f args (.row h.length n) h (h ++ [.rows e wd n fun _ _ => .undef]) := by
  refine ⟨hc.1, fun β G K w xs r hl hr => ?_⟩
  have hG0 := allOf_keeps r
  have r0 : RH [] (allOf β G h w) ⟨fun b => w.heap[b]?, (allOf β G h w).amb⟩ [] w := ⟨rfl, fun i k hi => by simp at hi, fun i j x y k k' hi => by simp at hi, fun i x k hi => by simp at hi, fun b o hb => hb, ⟨fun b o hb => hG0.at_ b o hb, rfl⟩, hG0.amb, fun i X tr hi => by simp at hi⟩
  refine (hc.tight rfl hx1 [] (allOf β G h w) _ w xs r0 (by omega) fun q hq => snap_rel r (hs q hq) (hr q (by omega))).mono ?_
  rintro e' w' ⟨⟨x, γ, G', K', rfl, -, hG, hK, r', hx⟩, hm⟩
  have hold : ∀ b, b < w.heap.size → w'.heap[b]? = w.heap[b]? := fun b hb => by
    have e1 : w.heap[b]? = some w.heap[b] := Array.getElem?_eq_getElem hb
    rw [e1]; exact r'.keep b _ (hK b _ e1)
  have hsize : w.heap.size ≤ w'.heap.size := by
    rcases Nat.eq_zero_or_pos w.heap.size with h0 | h0
    · omega
    · have e1 := hold (w.heap.size - 1) (by omega)
      rw [Array.getElem?_eq_getElem (show w.heap.size - 1 < w.heap.size by omega)] at e1
      have := (Array.getElem?_eq_some_iff.1 e1).1; omega
  have hB := r'.blk j _ hj
  generalize hY : γ[j]?.getD .void = Y at hB
  cases hx with
  | row0 _ => omega
  | row hb hcap hcc hmx =>
    rename_i cap y
    rw [hb] at hY
    subst hY
    have hsep := r'.sep j y _ hj (by simp) hb
    have hnew : w.heap.size ≤ y.b := by
      rcases Nat.lt_or_ge y.b w.heap.size with q | q
      · have := hK y.b _ (Array.getElem?_eq_getElem q)
        rw [hsep.1] at this; cases this
      · exact q
    have r2 := r.reserve 1
    have hlen := r.len
    have hv : (h ++ List.replicate 1 Blk.void)[h.length]? = some .void := by simp
    obtain ⟨b1, b2, b3, cs, b4, b5, b6, b7, b8⟩ := hB
    have r3 := r2.fillG (w' := w') hold hsize (k := .rows e wd n fun _ _ => .undef) (x := y) hv hnew hsep.2 ⟨b1, b2, b3, cs, b4, b5, b6, b7, fun _ _ _ _ => .undef _⟩ hm
    have e1 : (h ++ List.replicate 1 Blk.void).set h.length (.rows e wd n fun _ _ => .undef) = h ++ [.rows e wd n fun _ _ => .undef] := by simp
    rw [e1] at r3
    have hself : ((β ++ List.replicate 1 Hm.void).set h.length (.lie y))[h.length]? = some (.lie y) := by
      rw [List.getElem?_set_self (by simp [hlen])]
    refine ⟨_, _, G, K, rfl, ?_, G.ext_refl K, K.le_refl, r3, .row hself hcap hcc hmx⟩
    intro i z hz hi
    have hilt : i < β.length := (List.getElem?_eq_some_iff.1 hi).1
    rw [List.getElem?_set_ne (by omega), List.getElem?_append_left hilt]; exact hi
end Ab
