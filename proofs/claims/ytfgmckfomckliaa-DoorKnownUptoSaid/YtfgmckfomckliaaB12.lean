/-
  Part of the proof of the law DoorKnown. Conditions: those that stand in each theorem.
-/
import Derived.Test.YtfgmckfomckliaaB11
set_option linter.unusedSimpArgs false
set_option linter.unusedVariables false
set_option maxRecDepth 100000
namespace Go.Proofs.Ytfgmckfomckliaa
open Ab Go
noncomputable section
def ofX (n : Nat) (x : Int) : Int := if x = (n : Int) + 1 then 3 else x - 1
def chkE (n : Nat) : Bool := (List.range (n + 2)).all fun x => (entriesN n).getD x 0 == ofX n x
theorem allE : (List.range 4).all chkE = true := by kernel_rfl
def chkX (n off : Nat) : Bool := (listZ off).all (fun x => decide (0 ≤ x) && decide (x < n + 2)) && decide ((listZ off).length ≤ 5)
theorem allX : (List.range 4).all (fun n => (List.range (2 ^ (n + 2))).all (chkX n)) = true := by kernel_rfl
theorem listZ_in {n : Nat} (hn : n ≤ 3) {off : Int} (ho : 0 ≤ off ∧ off < 2 ^ (n + 2)) : (∀ x ∈ listZ off, 0 ≤ x ∧ x < n + 2) ∧ (listZ off).length ≤ 5 := by
  obtain ⟨m, rfl⟩ : ∃ m : Nat, off = m := ⟨off.toNat, by omega⟩
  have hm : m < 2 ^ (n + 2) := by have := ho.2; exact_mod_cast this
  have hc := List.all_eq_true.1 (List.all_eq_true.1 allX n (List.mem_range.2 (by omega))) m (List.mem_range.2 hm)
  simp only [chkX, Bool.and_eq_true, decide_eq_true_eq] at hc
  exact ⟨fun x hx => by simpa using List.all_eq_true.1 hc.1 x hx, hc.2⟩
theorem entN_get {n : Nat} (hn : n ≤ 3) {x : Int} (hx : 0 ≤ x ∧ x < n + 2) : (entriesN n).getD x.toNat 0 = ofX n x := by
  obtain ⟨m, rfl⟩ : ∃ m : Nat, x = m := ⟨x.toNat, by omega⟩
  have := List.all_eq_true.1 (List.all_eq_true.1 allE n (List.mem_range.2 (by omega))) m (List.mem_range.2 (by omega))
  simpa using this
def accE (n : Nat) (d : Int) (l : List Int) : List Entry := (entE d (offN n l)).reverse
theorem accE_next {n : Nat} (hn : n ≤ 3) (d : Int) (l : List Int) {i : Nat} (hi : i < l.length) (hl : ∀ x ∈ l, 0 ≤ x ∧ x < n + 2) : accE n d (l.take (i + 1)) = (⟨d, ofX n (l.getD i 0)⟩ : Entry) :: accE n d (l.take i) := by
  have h1 := entN_get hn (hl _ (getD_mem 0 l i hi))
  unfold accE entE offN
  rw [take_snoc 0 l i hi, List.map_append, List.map_append, List.reverse_append]
  simp [h1, -List.getD_eq_getElem?_getD]
theorem w33_3 (b : Book) (n : Nat) (hn : n ≤ 3) (d : Nat) (hd : d < 1000) (l : List Int) (hl : ∀ x ∈ l, 0 ≤ x ∧ x < n + 2) (hll : l.length ≤ 5) (acc : List Entry) (ha : acc.length ≤ 1000000) :
    WP Try.prog ⟨none, 0⟩ (T33 (n + 2) b) (fun y => y = .inl (.l0 ((d + 1 : Nat) : Int) (accE n d l ++ acc))) (.l3 d l l.length 0 acc) := by
  refine WP.run (fun i => .l3 d l l.length (i : Int) (accE n d (l.take i) ++ acc)) rfl l.length (fun i hi => ?_) ?_
  · have hi' : (i : Int) < l.length := by omega
    have hr : inR .i64 ((i : Int) + 1) = true := inR64 (by omega) (by omega)
    have hx := hl _ (getD_mem 0 l i hi)
    have hz : l.getD i tint.zero = l.getD i 0 := rfl
    have hal : (accE n d (l.take i) ++ acc).length + 1 ≤ 4294967296 := by
      simp only [accE, entE, offN, List.length_append, List.length_reverse, List.length_map, List.length_take]; omega
    have hk : (((n + 2 : Nat) : Int)) - 1 = (n : Int) + 1 := by omega
    have r1 : inR .i64 ((n : Int) + 1) = true := inR64 (by omega) (by omega)
    have r2 : inR .i64 (l.getD i 0 - 1) = true := inR64 (by omega) (by omega)
    rw [accE_next hn d l hi hl, List.cons_append]
    generalize accE n d (l.take i) ++ acc = A at *
    generalize l.getD i 0 = x at *
    unfold ofX
    by_cases hq : x = (n : Int) + 1
    · rw [if_pos hq]
      refine WP.once ?_
      simp only [T33, Tr.sure, SS, hi', hz, hk, hq]
      repeat' with_reducible first | intro _ | apply And.intro
      all_goals first | (simp [hr, hz, hal, hk, r1, r2, Go, Ends', v33, -List.getD_eq_getElem?_getD, *]; done) | (simp_all [hr, hz, hal, hk, r1, r2, Go, Ends', v33, -List.getD_eq_getElem?_getD]; done)
    · rw [if_neg hq]
      refine WP.once ?_
      simp only [T33, Tr.sure, SS, hi', hz, hk, hq]
      repeat' with_reducible first | intro _ | apply And.intro
      all_goals simp [hr, hz, hal, hk, r1, r2, Go, Ends', v33, -List.getD_eq_getElem?_getD, *]
  · rw [List.take_length]
    have hr : inR .i64 ((d : Int) + 1) = true := inR64 (by omega) (by omega)
    refine WP.step ?_
    simp only [T33, Go, Ends', v33, Tr.sure, SS, Int.lt_irrefl]
    repeat' with_reducible first | intro _ | apply And.intro
    all_goals first | exact (WP.stop rfl) | (simp [hr, Go, Ends', v33, -List.getD_eq_getElem?_getD, *]; done)
theorem pow_n {n : Nat} (hn : n ≤ 3) : ((1 : Int) * 2 ^ (min (n + 2) 64)) = ((2 ^ (n + 2) : Nat) : Int) ∧ 2 ^ (n + 2) ≤ 32 ∧ 4 ≤ 2 ^ (n + 2) ∧ (2 ^ (n + 2) ∈ [4, 8, 16, 32]) := by
  obtain rfl | rfl | rfl | rfl : n = 0 ∨ n = 1 ∨ n = 2 ∨ n = 3 := by omega
  all_goals decide
theorem ord_in {n : Nat} (hn : n ≤ 3) : (ordN (2 ^ (n + 2))).length = 2 ^ (n + 2) ∧ ∀ off ∈ ordN (2 ^ (n + 2)), 0 ≤ off ∧ off < 2 ^ (n + 2) := by
  have hc := List.all_eq_true.1 allL n (List.mem_range.2 (by omega))
  simp only [chkL, Bool.and_eq_true, beq_iff_eq] at hc
  obtain ⟨h1, h2, h3⟩ := hc
  refine ⟨?_, fun off ho => by have := List.all_eq_true.1 h2 off ho; simpa using this⟩
  have hk := List.all_eq_true.1 allC _ (pow_n hn).2.2.2
  simp only [Bool.and_eq_true, chkP, decide_eq_true_eq, beq_iff_eq] at hk
  obtain ⟨⟨-, g2, -, g4, -⟩, -⟩ := hk
  rw [g2, List.length_map, g4]
theorem askedR_zero {b : Book} {d : Int} (hb : (bookCheck b).2.2 = 0) (hd : 0 ≤ d ∧ d < b.days.length) : askedR b d = 0 := by
  unfold askedR; rw [if_neg (fun q => q hb), if_pos (within_iff.2 (by omega))]
set_option maxHeartbeats 4000000 in
theorem w33_2 (b : Book) (h : OkBook b) (hb : (bookCheck b).2.2 = 0) (kk N : Nat) (hkk : kk = b.rooms.length + 2) (hN : N = 2 ^ (b.rooms.length + 2)) (d : Nat) (hd : d < b.days.length) (acc : List Entry) (ha : acc.length ≤ 1000000) :
    WP Try.prog ⟨none, 0⟩ (T33 kk b) (fun y => y = .inl (.l0 ((d + 1 : Nat) : Int) ((entE d (offR b d)).reverse ++ acc))) (.l2 d acc 0 0) := by
  have hnr := h.nr
  have hnd := h.nd
  have hdd : (0 : Int) ≤ (d : Int) ∧ (d : Int) < b.days.length := ⟨by omega, by omega⟩
  obtain ⟨e1, e2, e3, e4⟩ := pow_n hnr
  obtain ⟨o1, o2⟩ := ord_in hnr
  have hask : askedR b d = 0 := askedR_zero hb hdd
  have hoff := offB_eq h hdd
  have hof : offB b d = match (ordN N).find? (fun off => paysX (lookM b d off 0)) with
    | some off => off
    | none => lastZ (ordN N) := by rw [hN]; rfl
  have fin : ∀ off, 0 ≤ off ∧ off < 2 ^ (b.rooms.length + 2) → offB b d = off → WP Try.prog ⟨none, 0⟩ (T33 kk b) (fun y => y = .inl (.l0 ((d + 1 : Nat) : Int) ((entE d (offR b d)).reverse ++ acc))) (.l3 d (listZ off) (listZ off).length 0 acc) := fun off ho he => by
    obtain ⟨l1, l2⟩ := listZ_in hnr ho
    have := w33_3 b b.rooms.length hnr d (by omega) (listZ off) l1 l2 acc ha
    rw [hkk, ← hoff, he]; exact this
  rw [← hN, ← hkk] at e1
  rw [← hN] at o1 o2 e2 e3
  have hbig : ((N : Nat) : Int) ≤ 32 := by omega
  generalize hS : ordN N = S at *
  refine WP.findI (fun i => .l2 d acc (i : Int) (if i = 0 then 0 else S.getD (i - 1) 0)) rfl S 0 (fun off => paysX (lookM b d off 0)) (fun i hi => ?_) (fun hf => ?_)
  · have ho := o2 _ (getD_mem 0 S i hi)
    have ho32 : 0 ≤ S.getD i 0 ∧ S.getD i 0 < 32 := by
      have : ((2 ^ (b.rooms.length + 2) : Nat) : Int) ≤ 32 := by rw [← hN]; exact hbig
      have h2 := ho.2
      push_cast at this
      omega
    have hi' : (i : Int) < N := by omega
    have hr : inR .i64 ((i : Int) + 1) = true := inR64 (by omega) (by omega)
    have k82 := c82 (lookM b d (S.getD i 0) 0) (okX_lookM hask ho32 (by omega))
    have k88 := c88 (S.getD i 0) ho32
    have hz : S.getD i tint.zero = S.getD i 0 := rfl
    have hms : (lookOf b (d : Int)).missed = 0 := rfl
    have hiN : i < N := by omega
    have hgo : firstI (fun off => paysX (lookM b d off 0)) 0 S = some i → offB b d = S.getD i 0 := fun q => by
      obtain ⟨j, h1, h2⟩ := find_firstI _ 0 _ _ _ q
      obtain rfl : i = j := by omega
      rw [hof, h2]
    have fn := fun q => fin (S.getD i 0) ho (hgo q)
    have hsi : (if i + 1 = 0 then (0 : Int) else S.getD (i + 1 - 1) 0) = S.getD i 0 := by rw [if_neg (by omega), Nat.add_sub_cancel]
    rw [hsi]
    generalize (if i = 0 then (0 : Int) else S.getD (i - 1) 0) = c at *
    generalize hs : S.getD i 0 = s at *
    cases hp : paysX (lookM b d s 0) with
    | true =>
      rw [hp] at k82
      refine WP.once ?_
      simp only [T33, Tr.sure, SS, hi', e1, hS, hz, hms, hp, hs, hiN]
      repeat' with_reducible first | intro _ | apply And.intro
      all_goals first | exact k82 | exact k88 | (simp [hr, e1, hS, hz, hms, hp, hs, hiN, Go, Ends', v33, -List.getD_eq_getElem?_getD, *]; done) | (simp_all [hr, e1, hS, hz, hms, hp, hs, hiN, Go, Ends', v33, -List.getD_eq_getElem?_getD]; done)
    | false =>
      rw [hp] at k82
      refine WP.once ?_
      simp only [T33, Tr.sure, SS, hi', e1, hS, hz, hms, hp, hs, hiN]
      repeat' with_reducible first | intro _ | apply And.intro
      all_goals first | exact k82 | (simp [hr, e1, hS, hz, hms, hp, hs, hiN, Go, Ends', v33, -List.getD_eq_getElem?_getD, *]; done)
  · have hno := find_none _ _ hf
    have hge : offB b d = S.getD (N - 1) 0 := by
      rw [hof, hno]; show lastZ S = _; unfold lastZ; rw [o1]
    have hm := o2 _ (getD_mem 0 S (N - 1) (by omega))
    have ho32 : 0 ≤ S.getD (N - 1) 0 ∧ S.getD (N - 1) 0 < 32 := by
      have : ((2 ^ (b.rooms.length + 2) : Nat) : Int) ≤ 32 := by rw [← hN]; exact hbig
      have h2 := hm.2
      push_cast at this
      omega
    have k88 := c88 (S.getD (N - 1) 0) ho32
    have fn := fin (S.getD (N - 1) 0) hm hge
    have hsi : (if S.length = 0 then (0 : Int) else S.getD (S.length - 1) 0) = S.getD (N - 1) 0 := by rw [o1, if_neg (by omega)]
    rw [hsi, o1]
    generalize S.getD (N - 1) 0 = c at *
    refine WP.step ?_
    simp only [T33, Go, Ends', v33, Tr.sure, SS, e1, hS, Int.lt_irrefl]
    repeat' with_reducible first | intro _ | apply And.intro
    all_goals first | exact k88 | exact fn
def fillN (N i : Nat) : List Int := rowN i ++ List.replicate (N - i) 0
theorem fill_len {N i : Nat} (hi : i ≤ N) : (fillN N i).length = N := by simp [fillN, rowN]; omega
theorem fill_set {N i : Nat} (hi : i < N) : (fillN N i).set i (i : Int) = fillN N (i + 1) := by
  unfold fillN
  have hl : (rowN i).length = i := by simp [rowN]
  rw [List.set_append_right _ _ (by omega), hl, Nat.sub_self]
  obtain ⟨m, hm⟩ : ∃ m, N - i = m + 1 := ⟨N - i - 1, by omega⟩
  rw [hm, List.replicate_succ, List.set_cons_zero, show N - (i + 1) = m by omega]
  simp [rowN, List.range_succ]
theorem fill_all (N : Nat) : fillN N N = rowN N := by simp [fillN]
theorem tel_setI (l : List Int) (i : Nat) (v : Int) {n : Nat} (hn : n = l.length) (r j : Nat) (hr : r < n) (hj : j < 1) :
    VLe (if r = i ∧ 0 ≤ j ∧ j < 0 + ([iI v] : List V).length then ([iI v] : List V).getD (j - 0) uU else rowsOf tint l r j) (rowsOf tint (l.set i v) r j) := tel_set tint l i v [iI v] rfl rfl hn r j hr hj
set_option maxHeartbeats 4000000 in
theorem w33_1 (b : Book) (h : OkBook b) (hb : (bookCheck b).2.2 = 0) (kk N : Nat) (hkk : kk = b.rooms.length + 2) (hN : N = 2 ^ (b.rooms.length + 2)) (d : Nat) (hd : d < b.days.length) (acc : List Entry) (ha : acc.length ≤ 1000000) :
    WP Try.prog ⟨none, 0⟩ (T33 kk b) (fun y => y = .inl (.l0 ((d + 1 : Nat) : Int) ((entE d (offR b d)).reverse ++ acc))) (.l1 d acc 0 (List.replicate N 0)) := by
  have hnr := h.nr
  have k2 := w33_2 b h hb kk N hkk hN d hd acc ha
  obtain ⟨e1, e2, e3, e4⟩ := pow_n hnr
  rw [← hN, ← hkk] at e1
  rw [← hN] at e2 e3 e4
  clear hN hkk
  refine WP.run (fun i => .l1 d acc (i : Int) (fillN N i)) (by simp [fillN, rowN]) N (fun i hi => ?_) ?_
  · have hi' : (i : Int) < N := by omega
    have hr : inR .i64 ((i : Int) + 1) = true := inR64 (by omega) (by omega)
    have hs := fill_set hi
    have hl := fill_len (Nat.le_of_lt hi)
    have hu : underL 0 ([iI (i : Int)] : List V) = true := rfl
    rw [← hs]
    generalize fillN N i = A at *
    have ht := tel_setI A i (i : Int) hl.symm
    refine WP.once ?_
    simp only [T33, Tr.sure, SS, hi', e1]
    repeat' with_reducible first | intro _ | apply And.intro
    all_goals first | exact (ht _ _ ‹_› ‹_›) | (simp [hr, e1, hi, hu, Go, Ends', v33, -List.getD_eq_getElem?_getD, *]; done)
  · rw [fill_all]
    have hoff : (lookOf b (d : Int)).off = 0 := rfl
    have k84 := fun {H : List Blk} {i : Nat} {c : Nat → Nat → V} (hi : H[i]? = some (.rows 3 1 N c)) hc => c84 e4 hi hc
    refine WP.step ?_
    simp only [T33, Go, Ends', v33, Tr.sure, SS, e1, hoff, Int.lt_irrefl]
    repeat' with_reducible first | intro _ | apply And.intro
    all_goals first | exact (k84 rfl (fun _ _ => rfl)) | exact k2
theorem lk_snap {H : List Blk} {i : Nat} {x : Look} (hi : H[i]? = some (.cells (tLook.cells x))) : Snap H (.ref i 0 0) (lk x) := by
  refine .ref hi (by show 0 + 10 ≤ 10; omega) fun j hj => ?_
  rw [Nat.zero_add]
  match j, hj with
  | 0, _ => exact .imm rfl
  | 1, _ => exact .imm rfl
  | 2, _ => exact .imm rfl
  | 3, _ => exact .imm rfl
  | 4, _ => exact .imm rfl
  | 5, _ => exact .imm rfl
  | 6, _ => exact .imm rfl
  | 7, _ => exact .imm rfl
  | 8, _ => exact .imm rfl
  | 9, _ => exact .imm rfl
set_option maxHeartbeats 4000000 in
theorem c33 (b : Book) (hs : SmB b) : PC 27 [.agg (tBook.cells b)] (· = .tuple [tEntry.lst (wrongR b).1, iI (wrongR b).2]) := by
  have k13 := c13 b ⟨hs.rooms, hs.days, hs.each⟩
  obtain ⟨kk, hkk⟩ : ∃ kk, kk = b.rooms.length + 2 := ⟨_, rfl⟩
  by_cases hb : (bookCheck b).2.2 = 0
  · have e : wrongR b = (wrongAll b b.days.length, 0) := by unfold wrongR; exact if_neg (fun q => q hb)
    have h := okBook hb
    have hnr := h.nr
    have hnd := h.nd
    obtain ⟨N, hN⟩ : ∃ N, N = 2 ^ (b.rooms.length + 2) := ⟨_, rfl⟩
    obtain ⟨e1, e2, e3, e4⟩ := pow_n hnr
    rw [← hN, ← hkk] at e1
    rw [← hN] at e2
    have hmain : WP Try.prog ⟨none, 0⟩ (T33 kk b) (Ends' fun r => v33 r = .tuple [tEntry.lst (wrongR b).1, iI (wrongR b).2]) (.l0 0 []) := by
      refine WP.run (fun i => .l0 (i : Int) (wrongAll b i).reverse) rfl b.days.length (fun d hd => ?_) ?_
      · have hd' : (d : Int) < b.days.length := by omega
        have hwl := wrongAll_len b h d
        have hask : askedR b d = 0 := askedR_zero hb (by omega)
        have k1 := w33_1 b h hb kk N hkk hN d hd (wrongAll b d).reverse (by rw [List.length_reverse]; omega)
        rw [← wrongAll_succ] at k1
        have k63 := fun H => (c63h b d hask).frame rfl rfl H
        have k83 := fun {H : List Blk} {i : Nat} (hi : H[i]? = some (.cells (tLook.cells (lookOf b d)))) => c83r (lookOf b d) hnr hi (lk_snap hi)
        have hel : (entsR (lookOf b (d : Int))).length = b.rooms.length + 1 := entsR_len _
        have hk1 : (((entsR (lookOf b (d : Int))).length : Nat) : Int) + 1 = (kk : Int) := by rw [hel, hkk]; rfl
        have r1 : inR .i64 (kk : Int) = true := inR64 (by omega) (by omega)
        have r2 : inR .i64 (N : Int) = true := inR64 (by omega) (by omega)
        have r3 : (N : Int) ≤ 4294967296 := by omega
        refine WP.step ?_
        simp only [T33, Go, Ends', v33, Tr.sure, SS, hd', e1, hk1]
        repeat' with_reducible first | intro _ | apply And.intro
        all_goals first | exact (k63 _) | exact (k83 rfl) | exact k1 | exact (VLe.refl _) | exact (vmk0 ‹_› ‹_›) | (simp_all [e1, hk1, r1, r2, r3, Go, Ends', v33, -List.getD_eq_getElem?_getD]; done)
      · refine WP.step ?_
        simp only [T33, Go, Ends', v33, Tr.sure, SS, Int.lt_irrefl]
        repeat' with_reducible first | intro _ | apply And.intro
        all_goals simp [e, Go, Ends', v33, -List.getD_eq_getElem?_getD, *]
    rw [hb] at k13
    refine w33 kk b (WP.step ?_)
    simp only [T33, Go, Ends', v33, Tr.sure, SS, hb]
    repeat' with_reducible first | intro _ | apply And.intro
    all_goals first | exact k13 | exact hmain
  · have e : wrongR b = ([], (bookCheck b).2.2) := by unfold wrongR; exact if_pos hb
    refine w33 kk b (WP.step ?_)
    simp only [T33, Go, Ends', v33, Tr.sure, SS, hb]
    repeat' with_reducible first | intro _ | apply And.intro
    all_goals first | exact k13 | (simp [e, hb, Go, Ends', v33, -List.getD_eq_getElem?_getD, *]; done)
end
noncomputable section
def slotsL (f : Nat → Option Sp) : List Blk := (List.range 61).map fun a => match f a with
  | some s => .cells (tSp.cells s)
  | none => .void
def updS (f : Nat → Option Sp) (a : Nat) (s : Sp) : Nat → Option Sp := fun i => if i = a then some s else f i
def zSp : Sp := ⟨0, 0, 0⟩
abbrev fix25 (b : Book) (ks : List Int) (vs : List V) : List Blk := [.cells (tBook.cells b), .cells [iI 0, iI 0], .cells [iI 0, iI 0], .maps (kV ks) vs, .cells [.map 3], .cells (tSp.cells zSp), .cells (tSp.cells zSp)]
abbrev H25 (b : Book) (ks : List Int) (vs : List V) (f : Nat → Option Sp) : List Blk := fix25 b ks vs ++ slotsL f
abbrev HB25 (b : Book) (ks : List Int) (vs : List V) (f : Nat → Option Sp) (x : Who) : List Blk := H25 b ks vs f ++ [.cells (tWho.cells x)]
abbrev tB25 : List V := [uU, uU, .ref 0 0 0, uU, .ref 1 0 0, .ref 2 0 0, uU, uU, .ref 4 0 0, .ref 5 0 0, .ref 6 0 0, .ref 68 0 0] ++ List.replicate 60 uU
def ops25 (k : Nat) : Array Oper := (regOf k (Try.f24.body.getD .skip)).getD #[]
theorem reg8 (b : Book) (ks : List Int) (vs : List V) (f : Nat → Option Sp) (x : Who) (m : Nat) (ro : Option Nat) (v : V) (nl : Bool)
    (hs : SemOK Try.prog (opAt Try.f24 8 3) [(.tmp 29, .map 3), (.tmp 31, iI x.adults)] (HB25 b ks vs f x) v (HB25 b ks vs f x)) (hv : (v = .nil ∧ nl = true) ∨ (∃ i, v = .ref i 0 0 ∧ nl = false)) :
    AWP Try.prog ⟨ro, m⟩ (.region 8 (ops25 8) false) ⟨tB25, HB25 b ks vs f x, []⟩ fun e T => e = .normal ∧ T = ⟨((((tB25.set 29 (.map 3)).set 30 (.ref 68 0 0)).set 31 (iI x.adults)).set 32 v).set 33 (.bool nl), HB25 b ks vs f x, []⟩ := by
  refine AWP.region ?_
  have e : List.range (ops25 8).size = [0, 1, 2] ++ [3, 4] := by kernel_rfl
  rw [e]
  refine AOps.run [0, 1, 2] [3, 4] _ ⟨((tB25.set 29 (.map 3)).set 30 (.ref 68 0 0)).set 31 (iI x.adults), HB25 b ks vs f x, []⟩ true (by kernel_rfl) (fun j hj => absurd hj List.not_mem_nil) ?_
  refine AOps.sem (o := (ops25 8).getD 3 default) (us := [(.tmp 29, .map 3), (.tmp 31, iI x.adults)]) (v := v) (h' := HB25 b ks vs f x) (by kernel_rfl) (by kernel_rfl) (by kernel_rfl) (by exact hs) (fun j hj => absurd hj List.not_mem_nil) ?_
  have h4 : SemOK Try.prog (opAt Try.f24 8 4) [(.tmp 32, v)] (HB25 b ks vs f x) (.bool nl) (HB25 b ks vs f x) := by
    have e : opAt Try.f24 8 4 = .binOp .eql 117 (.tmp 32) (.const (.pointer none)) 117 := by kernel_rfl
    rw [e]
    exact sem_ptrNil (e := 116) (by kernel_rfl) (hv.imp id fun ⟨i, h1, h2⟩ => ⟨i, 0, 0, h1, h2⟩)
  refine AOps.sem (o := (ops25 8).getD 4 default) (us := [(.tmp 32, v)]) (v := .bool nl) (h' := HB25 b ks vs f x) (by kernel_rfl) (by kernel_rfl) (by kernel_rfl) (by exact h4) (fun j hj => absurd hj List.not_mem_nil) ?_
  exact AOps.nil ⟨rfl, rfl⟩
def slotB (f : Nat → Option Sp) (a : Nat) : Blk := match f a with
  | some s => .cells (tSp.cells s)
  | none => .void
theorem slots_get (f : Nat → Option Sp) {a : Nat} (ha : a < 61) : (slotsL f)[a]? = some (slotB f a) := by
  unfold slotsL
  rw [List.getElem?_map, List.getElem?_range ha]; rfl
theorem slots_set (f : Nat → Option Sp) {a : Nat} (ha : a < 61) (s : Sp) : (slotsL f).set a (.cells (tSp.cells s)) = slotsL (updS f a s) := by
  apply List.ext_getElem?
  intro i
  by_cases hi : i < 61
  · by_cases h : a = i
    · subst h
      rw [List.getElem?_set_self (by simp [slotsL, ha]), slots_get _ ha]
      unfold slotB updS; rw [if_pos rfl]
    · rw [List.getElem?_set_ne h, slots_get _ hi, slots_get _ hi]
      unfold slotB updS; rw [if_neg (fun e => h e.symm)]
  · rw [List.getElem?_eq_none (by simp [slotsL]; omega), List.getElem?_eq_none (by simp [slotsL]; omega)]
theorem hb_get (b : Book) (ks : List Int) (vs : List V) (f : Nat → Option Sp) (x : Who) {a : Nat} (ha : a < 61) : (HB25 b ks vs f x)[7 + a]? = some (slotB f a) := by
  have hl : (slotsL f).length = 61 := by simp [slotsL]
  rw [List.getElem?_append_left (by simp [hl]; omega), List.getElem?_append_right (by simp)]
  rw [show 7 + a - (fix25 b ks vs).length = a by simp]
  exact slots_get f ha
theorem hb_set (b : Book) (ks : List Int) (vs : List V) (f : Nat → Option Sp) (x : Who) {a : Nat} (ha : a < 61) (s : Sp) : (HB25 b ks vs f x).set (7 + a) (.cells (tSp.cells s)) = HB25 b ks vs (updS f a s) x := by
  have hl : (slotsL f).length = 61 := by simp [slotsL]
  rw [List.set_append_left _ _ (by simp [hl]; omega), List.set_append_right _ _ (by simp)]
  rw [show 7 + a - (fix25 b ks vs).length = a by simp, slots_set f ha]
abbrev t8a (x : Who) (v : V) (nl : Bool) : List V := ((((tB25.set 29 (.map 3)).set 30 (.ref 68 0 0)).set 31 (iI x.adults)).set 32 v).set 33 (.bool nl)
abbrev t9a (x : Who) (a : Nat) : List V := (((((t8a x .nil true).set 34 (.map 3)).set 35 (.ref 68 0 0)).set 36 (iI x.adults)).set 37 (.agg (tSp.cells zSp))).set 38 (.ref (7 + a) 0 0)
theorem reg9 (b : Book) (ks : List Int) (vs : List V) (f : Nat → Option Sp) (x : Who) (m : Nat) (ro : Option Nat) (a : Nat) (ha : a < 61) (hx : x.adults = a) (hno : x.adults ∉ ks) (hvl : vs.length = ks.length) (hf : f a = none) :
    AWP Try.prog ⟨ro, m⟩ (.region 9 (ops25 9) false) ⟨t8a x .nil true, HB25 b ks vs f x, []⟩ fun e T => e = .normal ∧ T = ⟨t9a x a, HB25 b (ks ++ [x.adults]) (vs ++ [.ref (7 + a) 0 0]) (updS f a zSp) x, []⟩ := by
  refine AWP.region ?_
  have e : List.range (ops25 9).size = [0, 1, 2, 3] ++ [4, 5] := by kernel_rfl
  rw [e]
  refine AOps.run [0, 1, 2, 3] [4, 5] _ ⟨((((t8a x .nil true).set 34 (.map 3)).set 35 (.ref 68 0 0)).set 36 (iI x.adults)).set 37 (.agg (tSp.cells zSp)), HB25 b ks vs f x, []⟩ true (by kernel_rfl) (fun j hj => absurd hj List.not_mem_nil) ?_
  have h4 : SemOK Try.prog (opAt Try.f24 9 4) [(.tmp 37, .agg (tSp.cells zSp))] (HB25 b ks vs f x) (.ref (7 + a) 0 0) (HB25 b ks vs (updS f a zSp) x) := by
    have e : opAt Try.f24 9 4 = .box 116 (.tmp 37) := by kernel_rfl
    rw [e, ← hb_set b ks vs f x ha zSp]
    have hv : (HB25 b ks vs f x)[7 + a]? = some .void := by rw [hb_get _ _ _ _ _ ha]; unfold slotB; rw [hf]
    exact sem_boxAt (t := 116) (v := .agg (tSp.cells zSp)) (vs := tSp.cells zSp) hv (by kernel_rfl)
  refine AOps.sem (o := (ops25 9).getD 4 default) (us := [(.tmp 37, .agg (tSp.cells zSp))]) (v := .ref (7 + a) 0 0) (h' := HB25 b ks vs (updS f a zSp) x) (by kernel_rfl) (by kernel_rfl) (by kernel_rfl) (by exact h4) (fun j hj => absurd hj List.not_mem_nil) ?_
  have h5 : SemOK Try.prog (opAt Try.f24 9 5) [(.tmp 34, .map 3), (.tmp 36, iI x.adults), (.tmp 38, .ref (7 + a) 0 0)] (HB25 b ks vs (updS f a zSp) x) uU (HB25 b (ks ++ [x.adults]) (vs ++ [.ref (7 + a) 0 0]) (updS f a zSp) x) := by
    have e : opAt Try.f24 9 5 = .mapUpdate 114 (.tmp 34) (.tmp 36) (.tmp 38) := by kernel_rfl
    rw [e]
    exact sem_updateV (kt := 3) (et := 117) (by kernel_rfl) (by kernel_rfl) (q := 3) rfl hvl hno
  refine AOps.sem (o := (ops25 9).getD 5 default) (us := [(.tmp 34, .map 3), (.tmp 36, iI x.adults), (.tmp 38, .ref (7 + a) 0 0)]) (v := uU) (h' := HB25 b (ks ++ [x.adults]) (vs ++ [.ref (7 + a) 0 0]) (updS f a zSp) x) (by kernel_rfl) (by kernel_rfl) (by kernel_rfl) (by exact h5) (fun j hj => absurd hj List.not_mem_nil) ?_
  exact AOps.nil ⟨rfl, rfl⟩
theorem updS_upd (f : Nat → Option Sp) (a : Nat) (s u : Sp) : updS (updS f a s) a u = updS f a u := by
  funext i; unfold updS; by_cases h : i = a <;> simp [h]
abbrev t10a (x : Who) (a : Nat) : List V := ((((((tB25.set 39 (.map 3)).set 40 (.ref 68 0 0)).set 41 (iI x.adults)).set 42 (.ref (7 + a) 0 0)).set 43 (.ref 68 0 1)).set 44 (iI x.children)).set 45 (.tuple [])
theorem reg10 (b : Book) (ks : List Int) (vs : List V) (f : Nat → Option Sp) (x : Who) (m : Nat) (ro : Option Nat) (a j : Nat) (s : Sp) (ha : a < 61) (hj : ks[j]? = some x.adults) (hne : ∀ i, i < j → ks[i]? ≠ some x.adults) (hvj : vs.getD j uU = .ref (7 + a) 0 0)
    (hf : f a = some s) (hs : 0 ≤ s.met ∧ s.met ≤ 100000000000) :
    AWP Try.prog ⟨ro, m⟩ (.region 10 (ops25 10) false) ⟨tB25, HB25 b ks vs f x, []⟩ fun e T => e = .normal ∧ T = ⟨t10a x a, HB25 b ks vs (updS f a (addS s x.children)) x, []⟩ := by
  refine AWP.region ?_
  have e : List.range (ops25 10).size = [0, 1, 2] ++ [3, 4, 5, 6] := by kernel_rfl
  rw [e]
  refine AOps.run [0, 1, 2] [3, 4, 5, 6] _ ⟨((tB25.set 39 (.map 3)).set 40 (.ref 68 0 0)).set 41 (iI x.adults), HB25 b ks vs f x, []⟩ true (by kernel_rfl) (fun j hj => absurd hj List.not_mem_nil) ?_
  have h3 : SemOK Try.prog (opAt Try.f24 10 3) [(.tmp 39, .map 3), (.tmp 41, iI x.adults)] (HB25 b ks vs f x) (.ref (7 + a) 0 0) (HB25 b ks vs f x) := by
    have e : opAt Try.f24 10 3 = .lookup 114 (.tmp 39) (.tmp 41) false := by kernel_rfl
    rw [e, ← hvj]
    exact sem_lookupV1 (kt := 3) (et := 117) (by kernel_rfl) (by kernel_rfl) (q := 3) rfl hj hne
  refine AOps.sem (o := (ops25 10).getD 3 default) (us := [(.tmp 39, .map 3), (.tmp 41, iI x.adults)]) (v := .ref (7 + a) 0 0) (h' := HB25 b ks vs f x) (by kernel_rfl) (by kernel_rfl) (by kernel_rfl) (by exact h3) (fun j hj => absurd hj List.not_mem_nil) ?_
  refine AOps.run [4, 5] [6] _ ⟨(((((tB25.set 39 (.map 3)).set 40 (.ref 68 0 0)).set 41 (iI x.adults)).set 42 (.ref (7 + a) 0 0)).set 43 (.ref 68 0 1)).set 44 (iI x.children), HB25 b ks vs f x, []⟩ true (by kernel_rfl) (fun j hj => absurd hj List.not_mem_nil) ?_
  have hg : (HB25 b ks vs f x)[7 + a]? = some (.cells (tSp.cells s)) := by rw [hb_get _ _ _ _ _ ha]; unfold slotB; rw [hf]
  have hc := addAt (c79 s x.children hs) hg
  rw [hb_set b ks vs f x ha] at hc
  refine AOps.hcall (o := (ops25 10).getD 6 default) (fo := .func 45) (args := #[.tmp 42, .tmp 44]) (ts := #[117, 3]) (g := 45) (first := []) (caps := []) (v := .tuple []) (h' := HB25 b ks vs (updS f a (addS s x.children)) x) (by kernel_rfl) (by kernel_rfl) (by kernel_rfl) (by kernel_rfl) (by exact hc) (fun j hj => absurd hj List.not_mem_nil) ?_
  exact AOps.nil ⟨rfl, rfl⟩
theorem tB_un {j : Nat} (h : ¬ j < 12) : tB25.getD j uU = uU := by
  obtain ⟨i, rfl⟩ : ∃ i, j = 12 + i := ⟨j - 12, by omega⟩
  rw [List.getD_eq_getElem?_getD, List.getElem?_append_right (by simp), List.getElem?_replicate]
  split <;> rfl
theorem vle8 (x : Who) (v : V) (nl : Bool) (j : Nat) : VLe ((t8a x v nl).getD j uU) (tB25.getD j uU) := by
  by_cases h : j < 12
  · match j, h with
    | 0, _ => exact VLe.refl _
    | 1, _ => exact VLe.refl _
    | 2, _ => exact VLe.refl _
    | 3, _ => exact VLe.refl _
    | 4, _ => exact VLe.refl _
    | 5, _ => exact VLe.refl _
    | 6, _ => exact VLe.refl _
    | 7, _ => exact VLe.refl _
    | 8, _ => exact VLe.refl _
    | 9, _ => exact VLe.refl _
    | 10, _ => exact VLe.refl _
    | 11, _ => exact VLe.refl _
  · rw [tB_un h]; exact fun _ _ _ _ => .undef _
theorem vle9 (x : Who) (a : Nat) (j : Nat) : VLe ((t9a x a).getD j uU) (tB25.getD j uU) := by
  by_cases h : j < 12
  · match j, h with
    | 0, _ => exact VLe.refl _
    | 1, _ => exact VLe.refl _
    | 2, _ => exact VLe.refl _
    | 3, _ => exact VLe.refl _
    | 4, _ => exact VLe.refl _
    | 5, _ => exact VLe.refl _
    | 6, _ => exact VLe.refl _
    | 7, _ => exact VLe.refl _
    | 8, _ => exact VLe.refl _
    | 9, _ => exact VLe.refl _
    | 10, _ => exact VLe.refl _
    | 11, _ => exact VLe.refl _
  · rw [tB_un h]; exact fun _ _ _ _ => .undef _
theorem body25_eq : bdyOf (rangeOf Try.f24) = .block 1 (.seq (.seq (.region 8 (ops25 8) false) (.cond (.tmp 33) (.region 9 (ops25 9) false) .skip)) (.region 10 (ops25 10) false)) := by kernel_rfl
theorem body25n (b : Book) (ks : List Int) (vs : List V) (f : Nat → Option Sp) (x : Who) (m : Nat) (ro : Option Nat) (a : Nat) (ha : a < 61) (hx : x.adults = a) (hno : x.adults ∉ ks) (hvl : vs.length = ks.length) (hf : f a = none) :
    AWP Try.prog ⟨ro, m⟩ (bdyOf (rangeOf Try.f24)) ⟨tB25, HB25 b ks vs f x, []⟩ fun e T => e = .normal ∧ T = ⟨t10a x a, HB25 b (ks ++ [x.adults]) (vs ++ [.ref (7 + a) 0 0]) (updS f a (addS zSp x.children)) x, []⟩ := by
  rw [body25_eq]
  refine AWP.block (AWP.seq (AWP.seq ((reg8 b ks vs f x m ro .nil true ?_ (.inl ⟨rfl, rfl⟩)).mono fun e T hT => ?_)))
  · have e : opAt Try.f24 8 3 = .lookup 114 (.tmp 29) (.tmp 31) false := by kernel_rfl
    rw [e]
    exact sem_lookupV0 (kt := 3) (et := 117) (by kernel_rfl) (by kernel_rfl) (by kernel_rfl) (q := 3) rfl hno
  · obtain ⟨rfl, rfl⟩ := hT
    refine AWP.cond (t := true) rfl (fun _ => ?_) (fun h => by cases h)
    refine (reg9 b ks vs f x m ro a ha hx hno hvl hf).mono fun e T hT => ?_
    obtain ⟨rfl, rfl⟩ := hT
    refine AWP.forget (t := tB25) (by simp) (vle9 x a) ?_
    refine (reg10 b (ks ++ [x.adults]) (vs ++ [.ref (7 + a) 0 0]) (updS f a zSp) x m ro a ks.length zSp ha (by simp) (fun i hi h => hno (List.mem_of_getElem? (by rw [List.getElem?_append_left hi] at h; exact h))) (by rw [← hvl]; simp [List.getD_eq_getElem?_getD]) (by unfold updS; rw [if_pos rfl]) ⟨Int.le_refl _, by show (0 : Int) ≤ 100000000000; decide⟩).mono fun e T hT => ?_
    obtain ⟨rfl, rfl⟩ := hT
    rw [updS_upd]
    exact ⟨rfl, rfl⟩
theorem body25k (b : Book) (ks : List Int) (vs : List V) (f : Nat → Option Sp) (x : Who) (m : Nat) (ro : Option Nat) (a j : Nat) (s : Sp) (ha : a < 61) (hj : ks[j]? = some x.adults) (hne : ∀ i, i < j → ks[i]? ≠ some x.adults) (hvj : vs.getD j uU = .ref (7 + a) 0 0)
    (hf : f a = some s) (hs : 0 ≤ s.met ∧ s.met ≤ 100000000000) :
    AWP Try.prog ⟨ro, m⟩ (bdyOf (rangeOf Try.f24)) ⟨tB25, HB25 b ks vs f x, []⟩ fun e T => e = .normal ∧ T = ⟨t10a x a, HB25 b ks vs (updS f a (addS s x.children)) x, []⟩ := by
  rw [body25_eq]
  refine AWP.block (AWP.seq (AWP.seq ((reg8 b ks vs f x m ro (.ref (7 + a) 0 0) false ?_ (.inr ⟨7 + a, rfl, rfl⟩)).mono fun e T hT => ?_)))
  · have e : opAt Try.f24 8 3 = .lookup 114 (.tmp 29) (.tmp 31) false := by kernel_rfl
    rw [e, ← hvj]
    exact sem_lookupV1 (kt := 3) (et := 117) (by kernel_rfl) (by kernel_rfl) (q := 3) rfl hj hne
  · obtain ⟨rfl, rfl⟩ := hT
    refine AWP.cond (t := false) rfl (fun h => by cases h) (fun _ => AWP.skip ?_)
    refine AWP.forget (t := tB25) (by simp) (vle8 x _ _) ?_
    refine (reg10 b ks vs f x m ro a j s ha hj hne hvj hf hs).mono fun e T hT => ?_
    obtain ⟨rfl, rfl⟩ := hT
    exact ⟨rfl, rfl⟩
end
noncomputable section
abbrev t25 (b : Book) (d : Int) : List V := [uU, uU, .ref 0 0 0, uU, .ref 1 0 0, .ref 2 0 0, uU, uU, .ref 4 0 0, .ref 5 0 0, .ref 6 0 0] ++ List.replicate 16 uU ++ [fE b d] ++ List.replicate 44 uU
abbrev tA25 (x : Who) : List V := [uU, uU, .ref 0 0 0, uU, .ref 1 0 0, .ref 2 0 0, uU, uU, .ref 4 0 0, .ref 5 0 0, .ref 6 0 0] ++ List.replicate 17 uU ++ [.agg (tWho.cells x)] ++ List.replicate 43 uU
theorem asg25_eq : asgOf (rangeOf Try.f24) = .region 7 (ops25 7) false := by kernel_rfl
theorem asg25 (b : Book) (ks : List Int) (vs : List V) (f : Nat → Option Sp) (x : Who) (m : Nat) (ro : Option Nat) :
    AWP Try.prog ⟨ro, m⟩ (asgOf (rangeOf Try.f24)) ⟨tA25 x, H25 b ks vs f, []⟩ fun e T => e = .normal ∧ T = ⟨(tA25 x).set 11 (.ref 68 0 0), HB25 b ks vs f x, []⟩ := by
  rw [asg25_eq]
  refine AWP.region ?_
  have e : List.range (ops25 7).size = [0, 1] ++ [] := by kernel_rfl
  rw [e]
  exact AOps.run [0, 1] [] _ ⟨(tA25 x).set 11 (.ref 68 0 0), HB25 b ks vs f x, []⟩ true (by kernel_rfl) (fun j hj => absurd hj List.not_mem_nil) (AOps.nil ⟨rfl, rfl⟩)
def keysT (l : List Truth) : List Int := l.foldl (fun ks t => if t.adults ∈ ks then ks else ks ++ [t.adults]) []
def refsK (ks : List Int) : List V := ks.map fun k => .ref (7 + k.toNat) 0 0
def spanA (l : List Truth) (a : Nat) : Option Sp := if (a : Int) ∈ keysT l then some (spT (fun t => t.children) (l.filter fun t => t.adults == (a : Int))) else none
theorem keysT_snoc (l : List Truth) (t : Truth) : keysT (l ++ [t]) = if t.adults ∈ keysT l then keysT l else keysT l ++ [t.adults] := by
  unfold keysT; rw [List.foldl_append]; rfl
theorem mem_keysT : ∀ (l : List Truth) (a : Int), a ∈ keysT l ↔ ∃ t ∈ l, t.adults = a := by
  have key : ∀ (l : List Truth) (ks : List Int) (a : Int), a ∈ l.foldl (fun ks t => if t.adults ∈ ks then ks else ks ++ [t.adults]) ks ↔ a ∈ ks ∨ ∃ t ∈ l, t.adults = a := by
    intro l
    induction l with
    | nil => intro ks a; simp
    | cons t l ih =>
      intro ks a
      rw [List.foldl_cons, ih]
      split
      · rename_i h
        constructor
        · rintro (q | ⟨u, hu, rfl⟩)
          · exact .inl q
          · exact .inr ⟨u, List.mem_cons_of_mem _ hu, rfl⟩
        · rintro (q | ⟨u, hu, rfl⟩)
          · exact .inl q
          · rcases List.mem_cons.1 hu with rfl | hu
            · exact .inl h
            · exact .inr ⟨u, hu, rfl⟩
      · constructor
        · rintro (q | ⟨u, hu, rfl⟩)
          · rcases List.mem_append.1 q with q | q
            · exact .inl q
            · exact .inr ⟨t, List.mem_cons_self, (List.mem_singleton.1 q).symm⟩
          · exact .inr ⟨u, List.mem_cons_of_mem _ hu, rfl⟩
        · rintro (q | ⟨u, hu, rfl⟩)
          · exact .inl (List.mem_append_left _ q)
          · rcases List.mem_cons.1 hu with rfl | hu
            · exact .inl (List.mem_append_right _ (List.mem_singleton.2 rfl))
            · exact .inr ⟨u, hu, rfl⟩
  intro l a
  have := key l [] a
  simpa [keysT] using this
theorem first_at {a : Int} : ∀ {ks : List Int}, a ∈ ks → ∃ j : Nat, ks[j]? = some a ∧ ∀ i : Nat, i < j → ks[i]? ≠ some a
  | k :: ks, h => by
    by_cases e : k = a
    · exact ⟨0, by simp [e], fun i hi => absurd hi (Nat.not_lt_zero _)⟩
    · have h' : a ∈ ks := by
        rcases List.mem_cons.1 h with q | q
        · exact absurd q.symm e
        · exact q
      obtain ⟨j, h1, h2⟩ := first_at h'
      refine ⟨j + 1, by simpa using h1, fun i hi => ?_⟩
      cases i with
      | zero => simpa using e
      | succ i => simpa using h2 i (by omega)
theorem refsK_get {ks : List Int} {j : Nat} {a : Int} (h : ks[j]? = some a) : (refsK ks).getD j uU = .ref (7 + a.toNat) 0 0 := by
  unfold refsK
  rw [List.getD_eq_getElem?_getD, List.getElem?_map, h]; rfl
theorem spT_app (f : Truth → Int) (l : List Truth) (t : Truth) : spT f (l ++ [t]) = addS (spT f l) (f t) := by
  unfold spT; rw [List.foldl_append]; rfl
def oldA (l : List Truth) (a : Nat) : Sp := spT (fun t => t.children) (l.filter fun t => t.adults == (a : Int))
theorem spanA_snoc (l : List Truth) (t : Truth) {a : Nat} (ha : t.adults = a) : spanA (l ++ [t]) = updS (spanA l) a (addS (oldA l a) t.children) := by
  funext i
  unfold updS
  by_cases h : i = a
  · subst h
    rw [if_pos rfl]
    unfold spanA oldA
    rw [if_pos ((mem_keysT _ _).2 ⟨t, by simp, ha⟩), List.filter_append]
    have : [t].filter (fun t => t.adults == (i : Int)) = [t] := by simp [ha]
    rw [this, spT_app]
  · rw [if_neg h]
    unfold spanA
    have hk : ((i : Int) ∈ keysT (l ++ [t])) ↔ ((i : Int) ∈ keysT l) := by
      rw [mem_keysT, mem_keysT]
      constructor
      · rintro ⟨u, hu, e⟩
        rcases List.mem_append.1 hu with q | q
        · exact ⟨u, q, e⟩
        · rw [List.mem_singleton.1 q, ha] at e; omega
      · rintro ⟨u, hu, e⟩; exact ⟨u, List.mem_append_left _ hu, e⟩
    have hf : (l ++ [t]).filter (fun t => t.adults == (i : Int)) = l.filter (fun t => t.adults == (i : Int)) := by
      rw [List.filter_append]
      have : [t].filter (fun t => t.adults == (i : Int)) = [] := by
        have : ¬ (a : Int) = i := by omega
        simp [ha, this]
      rw [this, List.append_nil]
    rw [hf]
    by_cases q : (i : Int) ∈ keysT l
    · rw [if_pos q, if_pos (hk.2 q)]
    · rw [if_neg q, if_neg (fun z => q (hk.1 z))]
abbrev HT25 (b : Book) (l : List Truth) : List Blk := H25 b (keysT l) (refsK (keysT l)) (spanA l)
theorem spanA_new {l : List Truth} {a : Nat} (h : (a : Int) ∉ keysT l) : spanA l a = none ∧ oldA l a = zSp := by
  refine ⟨by unfold spanA; rw [if_neg h], ?_⟩
  unfold oldA
  have : l.filter (fun t => t.adults == (a : Int)) = [] := by
    rw [List.filter_eq_nil_iff]
    intro t ht
    simp only [beq_iff_eq]
    exact fun e => h ((mem_keysT _ _).2 ⟨t, ht, e⟩)
  rw [this]; rfl
theorem spanA_old {l : List Truth} {a : Nat} (h : (a : Int) ∈ keysT l) : spanA l a = some (oldA l a) := by unfold spanA; rw [if_pos h]; rfl
theorem refsK_snoc (ks : List Int) (a : Nat) : refsK (ks ++ [(a : Int)]) = refsK ks ++ [.ref (7 + a) 0 0] := by simp [refsK]
theorem h25_len (b : Book) (ks : List Int) (vs : List V) (f : Nat → Option Sp) : (H25 b ks vs f).length = 68 := by simp [slotsL]
theorem hb_take (b : Book) (ks : List Int) (vs : List V) (f : Nat → Option Sp) (x : Who) : (HB25 b ks vs f x).take 68 = H25 b ks vs f := by
  have := h25_len b ks vs f
  exact List.take_left' this
theorem slots_noExt (f : Nat → Option Sp) : noExt (slotsL f) = true := by
  unfold noExt slotsL
  rw [List.all_map, List.all_eq_true]
  intro a _
  simp only [Function.comp]
  cases f a <;> rfl
theorem h25_noExt (b : Book) (ks : List Int) (vs : List V) (f : Nat → Option Sp) : noExt (H25 b ks vs f) = true := by
  have := slots_noExt f
  unfold noExt at *
  rw [List.all_append, this]; rfl
theorem hb_noExt (b : Book) (ks : List Int) (vs : List V) (f : Nat → Option Sp) (x : Who) : noExt (HB25 b ks vs f x) = true := by
  have := h25_noExt b ks vs f
  unfold noExt at *
  rw [List.all_append, this]; rfl
theorem slots_under (f : Nat → Option Sp) : (slotsL f).all (Blk.under 68) = true := by
  unfold slotsL
  rw [List.all_map, List.all_eq_true]
  intro a _
  simp only [Function.comp]
  cases f a <;> rfl
theorem h25_under (b : Book) {ks : List Int} (hk : underL 68 (refsK ks) = true) (f : Nat → Option Sp) : (H25 b ks (refsK ks) f).all (Blk.under 68) = true := by
  rw [List.all_append, slots_under, Bool.and_true]
  show (_ && (_ && (_ && (underL 68 (refsK ks) && _)))) = true
  rw [hk]; rfl
theorem refs_under : ∀ {ks : List Int}, (∀ k ∈ ks, 0 ≤ k ∧ k ≤ 60) → underL 68 (refsK ks) = true
  | [], _ => rfl
  | k :: ks, h => by
    have h1 := h k List.mem_cons_self
    have h2 := refs_under fun q hq => h q (List.mem_cons_of_mem _ hq)
    show (V.under 68 (.ref (7 + k.toNat) 0 0) && underL 68 (refsK ks)) = true
    rw [h2, Bool.and_true]
    simp only [V.under, decide_eq_true_eq]; omega
theorem vleA (x : Who) (j : Nat) : VLe (((tA25 x).set 11 (.ref 68 0 0)).getD j uU) (tB25.getD j uU) := by
  by_cases h : j < 12
  · match j, h with
    | 0, _ => exact VLe.refl _
    | 1, _ => exact VLe.refl _
    | 2, _ => exact VLe.refl _
    | 3, _ => exact VLe.refl _
    | 4, _ => exact VLe.refl _
    | 5, _ => exact VLe.refl _
    | 6, _ => exact VLe.refl _
    | 7, _ => exact VLe.refl _
    | 8, _ => exact VLe.refl _
    | 9, _ => exact VLe.refl _
    | 10, _ => exact VLe.refl _
    | 11, _ => exact VLe.refl _
  · rw [tB_un h]; exact fun _ _ _ _ => .undef _
theorem rnd25 (b : Book) (l : List Truth) (t : Truth) (ht : 0 ≤ t.adults ∧ t.adults ≤ 60) (hl : ∀ u ∈ l, 0 ≤ u.adults ∧ u.adults ≤ 60) (hm : l.length ≤ 14000000) (lid : Nat) :
    AWP Try.prog ⟨some lid, 68⟩ (asgOf (rangeOf Try.f24)) ⟨tA25 (whoT t), HT25 b l, []⟩ fun e S1 => e = .normal ∧ noExt S1.h = true ∧
      AWP Try.prog ⟨some lid, 68⟩ (bdyOf (rangeOf Try.f24)) S1 fun e S2 => e = .normal ∧ S2.h = HT25 b (l ++ [t]) := by
  obtain ⟨a, ha⟩ : ∃ a : Nat, t.adults = a := ⟨t.adults.toNat, by omega⟩
  have ha61 : a < 61 := by omega
  have hks : ∀ k ∈ keysT (l ++ [t]), 0 ≤ k ∧ k ≤ 60 := fun k hk => by
    obtain ⟨u, hu, rfl⟩ := (mem_keysT _ _).1 hk
    rcases List.mem_append.1 hu with q | q
    · exact hl u q
    · rw [List.mem_singleton.1 q]; exact ht
  have hun := h25_under b (refs_under hks) (spanA (l ++ [t]))
  refine (asg25 b _ _ _ (whoT t) 68 (some lid)).mono fun e S1 h1 => ?_
  obtain ⟨rfl, rfl⟩ := h1
  refine ⟨rfl, hb_noExt _ _ _ _ _, ?_⟩
  refine AWP.forget (t := tB25) (by simp) (vleA (whoT t)) ?_
  refine AWP.cut (n := 68) (Nat.le_refl _) ?_
  by_cases hk : (a : Int) ∈ keysT l
  · obtain ⟨j, hj, hne⟩ := first_at hk
    have hs := spT_met (fun t => t.children) (l.filter fun t => t.adults == (a : Int))
    have hfl := List.length_filter_le (fun t : Truth => t.adults == (a : Int)) l
    have hv := refsK_get hj
    rw [Int.toNat_natCast] at hv
    have e1 : keysT (l ++ [t]) = keysT l := by rw [keysT_snoc, if_pos (by rw [ha]; exact hk)]
    refine (body25k b _ _ _ (whoT t) 68 (some lid) a j (oldA l a) ha61 (by rw [hj]; exact congrArg some ha.symm) (fun i hi q => hne i hi (by rw [q]; exact congrArg some ha)) hv (spanA_old hk) ⟨by unfold oldA; omega, by unfold oldA; omega⟩).mono fun e T hT => ?_
    obtain ⟨rfl, rfl⟩ := hT
    rw [e1, spanA_snoc l t ha] at hun
    refine ⟨rfl, by rw [hb_take]; exact hun, rfl, ?_⟩
    show (HB25 _ _ _ _ _).take 68 = HT25 b (l ++ [t])
    rw [hb_take]
    unfold HT25
    rw [e1, spanA_snoc l t ha]; rfl
  · have e1 : keysT (l ++ [t]) = keysT l ++ [(a : Int)] := by rw [keysT_snoc, if_neg (by rw [ha]; exact hk), ha]
    obtain ⟨n1, n2⟩ := spanA_new hk
    refine (body25n b _ _ _ (whoT t) 68 (some lid) a ha61 ha (by show t.adults ∉ _; rw [ha]; exact hk) (by simp [refsK]) n1).mono fun e T hT => ?_
    obtain ⟨rfl, rfl⟩ := hT
    have e2 : (whoT t).adults = (a : Int) := ha
    rw [e1, spanA_snoc l t ha, refsK_snoc, n2] at hun
    rw [e2]
    refine ⟨rfl, by rw [hb_take]; exact hun, rfl, ?_⟩
    show (HB25 _ _ _ _ _).take 68 = HT25 b (l ++ [t])
    rw [hb_take]
    unfold HT25
    rw [e1, spanA_snoc l t ha, refsK_snoc, n2]; rfl
theorem range25 (b : Book) (d : Int) (ha : askedR b d = 0) :
    AWP Try.prog ⟨none, 0⟩ (rangeOf Try.f24) ⟨t25 b d, HT25 b [], []⟩ (fun e T => e = .normal ∧ T = ⟨t25 b d, HT25 b (agreeD b d) ++ [.obj (.deferred (some []))], [68]⟩) := by
  obtain ⟨h, hd1, hd2, hday⟩ := asked_ok ha
  have hin := agreeD_in h hday
  have e : rangeOf Try.f24 = .rangeFunc (.tmp 27) #[28] (asgOf (rangeOf Try.f24)) (bdyOf (rangeOf Try.f24)) := by kernel_rfl
  have hlen : (ysE b d).length = (agreeD b d).length := by unfold ysE; rw [List.length_map]
  have hend : (agreeD b d).take (agreeD b d).length = agreeD b d := List.take_length
  have hal := agreeD_len h hday
  have hl68 := h25_len b (keysT []) (refsK (keysT [])) (spanA [])
  rw [e]
  refine (AWP.rangeT (H := fun k => HT25 b ((agreeD b d).take k)) (f := 64) (ys := ysE b d) (caps := [rR (lk (lookOf b d))])
    rfl rfl (PCalls.enters Try.func64 (c := Try.f64.body.getD .skip) (by kernel_rfl) (by kernel_rfl)) (c110 b d ha) rfl (fun k => by rw [h25_len, h25_len]) (fun k => h25_noExt _ _ _ _) rfl (fun lid k us hk => ?_)).mono fun e T ⟨h1, h2⟩ => ⟨h1, by rw [h2, hlen, hend, hl68]⟩
  obtain ⟨t, ht, hy⟩ : ∃ t, (agreeD b d)[k]? = some t ∧ yT t = .tuple us := by
    unfold ysE at hk
    rw [List.getElem?_map] at hk
    cases hf : (agreeD b d)[k]? with
    | none => rw [hf] at hk; cases hk
    | some f => rw [hf] at hk; exact ⟨f, rfl, Option.some.inj hk⟩
  obtain rfl : us = [.agg (tWho.cells (whoT t))] := by unfold yT at hy; cases hy; rfl
  have htm := List.mem_of_getElem? ht
  obtain ⟨hkl, hke⟩ := List.getElem?_eq_some_iff.1 ht
  refine ⟨rfl, ?_⟩
  have hs : (agreeD b d).take (k + 1) = (agreeD b d).take k ++ [t] := by
    rw [take_snoc zTruth _ k hkl, List.getD_eq_getElem?_getD, ht]; rfl
  rw [hl68]
  refine AWP.forget (t := (setPs [28] [.agg (tWho.cells (whoT t))] (t25 b d)).set 27 uU) (by simp) (forget_set _ 27) ?_
  have := rnd25 b ((agreeD b d).take k) t (hin t htm).2.2.1 (fun u hu => (hin u (List.mem_of_mem_take hu)).2.2.1) (by rw [List.length_take]; omega) lid
  rw [hs]
  exact this
end
noncomputable section
abbrev fixL (b : Book) (ks : List Int) (vs : List V) (s u : Sp) : List Blk := [.cells (tBook.cells b), .cells [iI 0, iI 0], .cells [iI 0, iI 0], .maps (kV ks) vs, .cells [.map 3], .cells (tSp.cells s), .cells (tSp.cells u)]
abbrev HL (b : Book) (ks : List Int) (vs : List V) (f : Nat → Option Sp) (s u : Sp) (seen : Array Nat) : List Blk := fixL b ks vs s u ++ slotsL f ++ [.obj (.deferred (some [])), .iter (.map 3) ks.length seen]
abbrev tR : List V := [uU, uU, .ref 0 0 0, uU, .ref 1 0 0, .ref 2 0 0, uU, uU, .ref 4 0 0, .ref 5 0 0, .ref 6 0 0] ++ List.replicate 61 uU
theorem reg11 (b : Book) (ks : List Int) (vs : List V) (f : Nat → Option Sp) (m : Nat) (ro : Option Nat) :
    AWP Try.prog ⟨ro, m⟩ (.region 11 (ops25 11) false) ⟨tR, H25 b ks vs f ++ [.obj (.deferred (some []))], [68]⟩ fun e T => e = .normal ∧ T = ⟨(tR.set 46 (.map 3)).set 47 (.ref 69 0 0), HL b ks vs f zSp zSp #[], [68]⟩ := by
  have hd : (H25 b ks vs f ++ [.obj (.deferred (some []))])[68]? = some (.obj (.deferred (some []))) := by
    have := h25_len b ks vs f
    rw [List.getElem?_append_right (by omega), this]; rfl
  have hl : (H25 b ks vs f ++ [Blk.obj (.deferred (some []))]).length = 69 := by
    have := h25_len b ks vs f
    rw [List.length_append, this]; rfl
  refine AWP.region ?_
  have e : List.range (ops25 11).size = [0] ++ [1] := by kernel_rfl
  rw [e]
  refine AOps.run [0] [1] _ ⟨tR.set 46 (.map 3), H25 b ks vs f ++ [.obj (.deferred (some []))], [68]⟩ true (by kernel_rfl) (fun j hj => by have : j = 68 := (by simpa using hj); subst this; exact ⟨_, hd⟩) ?_
  have h1 : SemOK Try.prog (opAt Try.f24 11 1) [(.tmp 46, .map 3)] (H25 b ks vs f ++ [.obj (.deferred (some []))]) (.ref 69 0 0) (HL b ks vs f zSp zSp #[]) := by
    have e : opAt Try.f24 11 1 = .range 114 (.tmp 46) := by kernel_rfl
    rw [e]
    have := sem_rangeV (P := Try.prog) (h := H25 b ks vs f ++ [.obj (.deferred (some []))]) (t := 114) (kt := 3) (et := 117) (ks := ks) (vs := vs) (q := 3) (x := .tmp 46) (by kernel_rfl) rfl
    rw [hl, List.append_assoc] at this
    exact this
  refine AOps.sem (o := (ops25 11).getD 1 default) (us := [(.tmp 46, .map 3)]) (v := .ref 69 0 0) (h' := HL b ks vs f zSp zSp #[]) (by kernel_rfl) (by kernel_rfl) (by kernel_rfl) (by exact h1) (fun j hj => by
    have : j = 68 := (by simpa using hj)
    subst this
    have : (fixL b ks vs zSp zSp ++ slotsL f).length = 68 := h25_len b ks vs f
    rw [List.getElem?_append_right (by omega), this]; rfl) ?_
  exact AOps.nil ⟨rfl, rfl⟩
abbrev tL : List V := tR.set 47 (.ref 69 0 0)
theorem hl_len (b : Book) (ks : List Int) (vs : List V) (f : Nat → Option Sp) (s u : Sp) : (fixL b ks vs s u ++ slotsL f).length = 68 := by simp [slotsL]
theorem hl_mark (b : Book) (ks : List Int) (vs : List V) (f : Nat → Option Sp) (s u : Sp) (seen : Array Nat) : (HL b ks vs f s u seen)[68]? = some (.obj (.deferred (some []))) := by
  have := hl_len b ks vs f s u
  rw [List.getElem?_append_right (by omega), this]; rfl
theorem hl_iter (b : Book) (ks : List Int) (vs : List V) (f : Nat → Option Sp) (s u : Sp) (seen : Array Nat) : (HL b ks vs f s u seen)[69]? = some (.iter (.map 3) ks.length seen) := by
  have := hl_len b ks vs f s u
  rw [List.getElem?_append_right (by omega), this]; rfl
theorem hl_set (b : Book) (ks : List Int) (vs : List V) (f : Nat → Option Sp) (s u : Sp) (seen seen' : Array Nat) : (HL b ks vs f s u seen).set 69 (.iter (.map 3) ks.length seen') = HL b ks vs f s u seen' := by
  have := hl_len b ks vs f s u
  rw [List.set_append_right _ _ (by omega), this]; rfl
theorem mk68 {S : List Blk} (h : S[68]? = some (.obj (.deferred (some [])))) : ∀ j, j ∈ [68] → ∃ x, S[j]? = some (.obj x) := fun j hj => by
  have : j = 68 := (by simpa using hj)
  subst this; exact ⟨_, h⟩
theorem mk68' {S : List Blk} (h : S[68]? = some (.obj (.deferred (some [])))) : ∀ j, j ∈ [68] → S[j]? = some (.obj (.deferred (some []))) := fun j hj => by
  have : j = 68 := (by simpa using hj)
  subst this; exact h
theorem reg12e (b : Book) (ks : List Int) (vs : List V) (f : Nat → Option Sp) (s u : Sp) (seen : Array Nat) (m : Nat) (ro : Option Nat) (h0 : leftM ks.length seen = []) :
    AWP Try.prog ⟨ro, m⟩ (.region 12 (ops25 12) false) ⟨tL, HL b ks vs f s u seen, [68]⟩ fun e T => e = .normal ∧ T = ⟨(tL.set 48 (.tuple [.bool false])).set 49 (.bool false), HL b ks vs f s u seen, [68]⟩ := by
  refine AWP.region ?_
  have e : List.range (ops25 12).size = [0] ++ [1] := by kernel_rfl
  rw [e]
  have h1 : SemOK Try.prog (opAt Try.f24 12 0) [(.tmp 47, .ref 69 0 0)] (HL b ks vs f s u seen) (.tuple [.bool false]) (HL b ks vs f s u seen) := by
    have e : opAt Try.f24 12 0 = .next (.tmp 47) false := by kernel_rfl
    rw [e]
    exact sem_next0V (q := 3) (vs := vs) rfl (hl_iter _ _ _ _ _ _ _) h0
  refine AOps.sem (o := (ops25 12).getD 0 default) (us := [(.tmp 47, .ref 69 0 0)]) (v := .tuple [.bool false]) (h' := HL b ks vs f s u seen) (by kernel_rfl) (by kernel_rfl) (by kernel_rfl) (by exact h1) (mk68' (hl_mark _ _ _ _ _ _ _)) ?_
  exact AOps.run [1] [] _ ⟨(tL.set 48 (.tuple [.bool false])).set 49 (.bool false), HL b ks vs f s u seen, [68]⟩ true (by kernel_rfl) (mk68 (hl_mark _ _ _ _ _ _ _)) (AOps.nil ⟨rfl, rfl⟩)
theorem reg12 (b : Book) (ks : List Int) (vs : List V) (f : Nat → Option Sp) (s u : Sp) (seen : Array Nat) (m : Nat) (ro : Option Nat) (h0 : leftM ks.length seen ≠ []) :
    AWP Try.prog ⟨ro, m⟩ (.region 12 (ops25 12) false) ⟨tL, HL b ks vs f s u seen, [68]⟩ fun e T => e = .normal ∧ ∃ j, j ∈ leftM ks.length seen ∧ T = ⟨(tL.set 48 (.tuple [.bool true, iI (ks.getD j 0), vs.getD j uU])).set 49 (.bool true), HL b ks vs f s u (seen.push j), [68]⟩ := by
  refine AWP.region ?_
  have e : List.range (ops25 12).size = [0] ++ [1] := by kernel_rfl
  rw [e]
  have h1 : SemAny Try.prog (opAt Try.f24 12 0) [(.tmp 47, .ref 69 0 0)] (HL b ks vs f s u seen) (leftM ks.length seen).length (fun j => .tuple [.bool true, iI (ks.getD ((leftM ks.length seen).getD j 0) 0), vs.getD ((leftM ks.length seen).getD j 0) uU])
      (fun j => (HL b ks vs f s u seen).set 69 (.iter (.map 3) ks.length (seen.push ((leftM ks.length seen).getD j 0)))) := by
    have e : opAt Try.f24 12 0 = .next (.tmp 47) false := by kernel_rfl
    rw [e]
    exact sem_next1V (q := 3) (vs := vs) rfl (hl_iter _ _ _ _ _ _ _) h0
  refine AOps.semn (o := (ops25 12).getD 0 default) (us := [(.tmp 47, .ref 69 0 0)]) (by kernel_rfl) (by kernel_rfl) (by kernel_rfl) (by exact h1) fun q hq => ?_
  have hm : (leftM ks.length seen).getD q 0 ∈ leftM ks.length seen := getD_mem 0 _ q hq
  simp only [hl_set]
  generalize (leftM ks.length seen).getD q 0 = j at *
  refine ⟨mk68' (hl_mark _ _ _ _ _ _ _), ?_⟩
  exact AOps.run [1] [] _ ⟨(tL.set 48 (.tuple [.bool true, iI (ks.getD j 0), vs.getD j uU])).set 49 (.bool true), HL b ks vs f s u (seen.push j), [68]⟩ true (by kernel_rfl) (mk68 (hl_mark _ _ _ _ _ _ _)) (AOps.nil ⟨rfl, j, hm, rfl⟩)
end
noncomputable section
def foldS (xs : List Int) : Sp := xs.foldl addS zSp
theorem foldS_app (xs ys : List Int) : foldS (xs ++ ys) = ys.foldl addS (foldS xs) := by
  unfold foldS; rw [List.foldl_append]
theorem addS_pos {s : Sp} (h : 0 < s.met) (x : Int) : addS s x = ⟨min s.lo x, max s.hi x, s.met + 1⟩ := by
  unfold addS; rw [if_neg (by omega)]
theorem fold_in : ∀ (xs : List Int) (s : Sp), 0 < s.met → ((xs.foldl addS s).lo = s.lo ∨ (xs.foldl addS s).lo ∈ xs) ∧ ((xs.foldl addS s).hi = s.hi ∨ (xs.foldl addS s).hi ∈ xs) ∧ (xs.foldl addS s).lo ≤ s.lo ∧ s.hi ≤ (xs.foldl addS s).hi ∧
    (∀ x ∈ xs, (xs.foldl addS s).lo ≤ x ∧ x ≤ (xs.foldl addS s).hi) ∧ (xs.foldl addS s).met = s.met + xs.length
  | [], s, _ => ⟨.inl rfl, .inl rfl, Int.le_refl _, Int.le_refl _, fun x hx => absurd hx List.not_mem_nil, by simp⟩
  | x :: xs, s, h => by
    obtain ⟨h1, h2, h3, h4, h5, h6⟩ := fold_in xs (addS s x) (by rw [addS_pos h]; show 0 < s.met + 1; omega)
    rw [List.foldl_cons]
    generalize xs.foldl addS (addS s x) = r at *
    rw [addS_pos h] at h1 h2 h3 h4 h6
    simp only at h1 h2 h3 h4 h6
    have m1 := Int.min_le_left s.lo x
    have m2 := Int.min_le_right s.lo x
    have m3 := Int.le_max_left s.hi x
    have m4 := Int.le_max_right s.hi x
    refine ⟨?_, ?_, by omega, by omega, fun y hy => ?_, by rw [h6]; simp only [List.length_cons]; omega⟩
    · rcases h1 with h1 | h1
      · rcases Int.le_total s.lo x with q | q
        · left; rw [h1, Int.min_eq_left q]
        · right; rw [h1, Int.min_eq_right q]; exact List.mem_cons_self
      · exact .inr (List.mem_cons_of_mem _ h1)
    · rcases h2 with h2 | h2
      · rcases Int.le_total s.hi x with q | q
        · right; rw [h2, Int.max_eq_right q]; exact List.mem_cons_self
        · left; rw [h2, Int.max_eq_left q]
      · exact .inr (List.mem_cons_of_mem _ h2)
    · rcases List.mem_cons.1 hy with rfl | hy
      · exact ⟨by omega, by omega⟩
      · exact h5 y hy
theorem foldS_met (xs : List Int) : (foldS xs).met = xs.length := by
  cases xs with
  | nil => rfl
  | cons x xs =>
    have := (fold_in xs (addS zSp x) (show (0 : Int) < 1 by decide)).2.2.2.2.2
    unfold foldS
    rw [List.foldl_cons, this, show (addS zSp x).met = 1 from rfl]
    simp only [List.length_cons]; omega
theorem foldS_in {xs : List Int} (h : xs ≠ []) : (foldS xs).lo ∈ xs ∧ (foldS xs).hi ∈ xs ∧ ∀ x ∈ xs, (foldS xs).lo ≤ x ∧ x ≤ (foldS xs).hi := by
  cases xs with
  | nil => exact absurd rfl h
  | cons x xs =>
    obtain ⟨h1, h2, h3, h4, h5, _⟩ := fold_in xs (addS zSp x) (show (0 : Int) < 1 by decide)
    unfold foldS
    rw [List.foldl_cons]
    have e1 : (addS zSp x).lo = x := rfl
    have e2 : (addS zSp x).hi = x := rfl
    rw [e1] at h1 h3; rw [e2] at h2 h4
    refine ⟨?_, ?_, fun y hy => ?_⟩
    · rcases h1 with h1 | h1
      · rw [h1]; exact List.mem_cons_self
      · exact List.mem_cons_of_mem _ h1
    · rcases h2 with h2 | h2
      · rw [h2]; exact List.mem_cons_self
      · exact List.mem_cons_of_mem _ h2
    · rcases List.mem_cons.1 hy with rfl | hy
      · exact ⟨h3, h4⟩
      · exact h5 y hy
theorem foldS_ends {xs ys : List Int} (hx : xs ≠ []) (hy : ys ≠ []) (h1 : ∀ x ∈ xs, (∃ y ∈ ys, y ≤ x) ∧ ∃ y ∈ ys, x ≤ y) (h2 : ∀ y ∈ ys, (∃ x ∈ xs, x ≤ y) ∧ ∃ x ∈ xs, y ≤ x) : (foldS xs).lo = (foldS ys).lo ∧ (foldS xs).hi = (foldS ys).hi := by
  obtain ⟨a1, a2, a3⟩ := foldS_in hx
  obtain ⟨b1, b2, b3⟩ := foldS_in hy
  obtain ⟨⟨y1, c1, c2⟩, _⟩ := h1 _ a1
  obtain ⟨_, ⟨y2, c3, c4⟩⟩ := h1 _ a2
  obtain ⟨⟨x1, d1, d2⟩, _⟩ := h2 _ b1
  obtain ⟨_, ⟨x2, d3, d4⟩⟩ := h2 _ b2
  have e1 := (b3 _ c1).1
  have e2 := (b3 _ c3).2
  have e3 := (a3 _ d1).1
  have e4 := (a3 _ d3).2
  exact ⟨by omega, by omega⟩
theorem spT_foldS (f : Truth → Int) (l : List Truth) : spT f l = foldS (l.map f) := by
  unfold spT foldS; rw [List.foldl_map]; rfl
def keyJ (l : List Truth) (j : Nat) : Int := (keysT l).getD j 0
def oldJ (l : List Truth) (j : Nat) : Sp := oldA l (keyJ l j).toNat
def sumK (l : List Truth) (js : List Nat) : Sp := foldS (js.map (keyJ l))
def sumU (l : List Truth) (js : List Nat) : Sp := foldS (js.flatMap fun j => [(oldJ l j).lo, (oldJ l j).hi])
theorem sumK_snoc (l : List Truth) (js : List Nat) (j : Nat) : sumK l (js ++ [j]) = addS (sumK l js) (keyJ l j) := by
  unfold sumK; rw [List.map_append, foldS_app]; rfl
theorem sumU_snoc (l : List Truth) (js : List Nat) (j : Nat) : sumU l (js ++ [j]) = addS (addS (sumU l js) (oldJ l j).lo) (oldJ l j).hi := by
  unfold sumU; rw [List.flatMap_append, foldS_app]; rfl
theorem sumK_met (l : List Truth) (js : List Nat) : (sumK l js).met = js.length := by unfold sumK; rw [foldS_met, List.length_map]
theorem sumU_met (l : List Truth) (js : List Nat) : (sumU l js).met = 2 * js.length := by
  unfold sumU; rw [foldS_met]
  have : ∀ js : List Nat, (js.flatMap fun j => [(oldJ l j).lo, (oldJ l j).hi]).length = 2 * js.length := fun js => by
    induction js with
    | nil => rfl
    | cons j js ih => rw [List.flatMap_cons, List.length_append, ih]; show 2 + 2 * js.length = 2 * (js.length + 1); omega
  rw [this]; omega
theorem nodup_len {α : Type} [DecidableEq α] : ∀ {l r : List α}, l.Nodup → (∀ x ∈ l, x ∈ r) → l.length ≤ r.length
  | [], _, _, _ => Nat.zero_le _
  | a :: l, r, hn, hs => by
    have ha := hs a (List.mem_cons_self ..)
    have h1 := List.nodup_cons.1 hn
    have := nodup_len (l := l) (r := r.erase a) h1.2 fun x hx => (List.mem_erase_of_ne (fun (e : x = a) => h1.1 (e ▸ hx))).2 (hs x (List.mem_cons_of_mem _ hx))
    rw [List.length_erase_of_mem ha] at this
    have := List.length_pos_of_mem ha
    rw [List.length_cons]; omega
theorem keysT_nodup (l : List Truth) : (keysT l).Nodup := by
  have key : ∀ (l : List Truth) (ks : List Int), ks.Nodup → (l.foldl (fun ks t => if t.adults ∈ ks then ks else ks ++ [t.adults]) ks).Nodup := by
    intro l
    induction l with
    | nil => exact fun _ h => h
    | cons t l ih =>
      intro ks h
      rw [List.foldl_cons]
      refine ih _ ?_
      split
      · exact h
      · rename_i q
        rw [List.nodup_append]
        exact ⟨h, by simp, fun a ha b hb => by rw [List.mem_singleton] at hb; subst hb; exact fun e => q (e ▸ ha)⟩
  exact key l [] List.nodup_nil
theorem keysT_len {l : List Truth} (hl : ∀ u ∈ l, 0 ≤ u.adults ∧ u.adults ≤ 60) : (keysT l).length ≤ 61 := by
  have := nodup_len (r := (List.range 61).map fun (i : Nat) => (i : Int)) (keysT_nodup l) fun a ha => by
    obtain ⟨u, hu, rfl⟩ := (mem_keysT _ _).1 ha
    have := hl u hu
    exact List.mem_map.2 ⟨u.adults.toNat, List.mem_range.2 (by omega), by omega⟩
  simpa using this
def Met (n : Nat) (seen : Array Nat) : Prop := seen.toList.Nodup ∧ ∀ i ∈ seen.toList, i < n
theorem met_push {n : Nat} {seen : Array Nat} (h : Met n seen) {j : Nat} (hj : j ∈ leftM n seen) : Met n (seen.push j) ∧ j < n := by
  have h1 := List.mem_filter.1 hj
  have hjn := List.mem_range.1 h1.1
  have hno : j ∉ seen.toList := fun hm => by
    have h2 := h1.2
    rw [Array.contains_iff_mem.2 (Array.mem_toList_iff.1 hm)] at h2
    cases h2
  refine ⟨⟨?_, ?_⟩, hjn⟩
  · simp only [Array.toList_push]
    rw [List.nodup_append]
    exact ⟨h.1, by simp, fun a ha b hb => by rw [List.mem_singleton] at hb; subst hb; exact fun e => hno (e ▸ ha)⟩
  · simp only [Array.toList_push, List.mem_append, List.mem_singleton]
    rintro i (hi | rfl)
    · exact h.2 i hi
    · exact hjn
theorem met_size {n : Nat} {seen : Array Nat} (h : Met n seen) : seen.size ≤ n := by
  have := nodup_len (r := List.range n) h.1 fun x hx => List.mem_range.2 (h.2 x hx)
  simpa using this
theorem met_done {n : Nat} {seen : Array Nat} (h0 : leftM n seen = []) {i : Nat} (hi : i < n) : i ∈ seen.toList := by
  have := List.filter_eq_nil_iff.1 h0 i (List.mem_range.2 hi)
  rw [Bool.not_eq_true', Bool.not_eq_false, Array.contains_iff_mem] at this
  exact Array.mem_toList_iff.2 this
theorem keyJ_mem {l : List Truth} {j : Nat} (h : j < (keysT l).length) : keyJ l j ∈ keysT l := getD_mem 0 _ j h
theorem keyJ_at {l : List Truth} {j : Nat} (h : j < (keysT l).length) : (keysT l)[j]? = some (keyJ l j) := by
  unfold keyJ; rw [List.getD_eq_getElem?_getD, List.getElem?_eq_getElem h]; rfl
theorem keyJ_in {l : List Truth} (hl : ∀ u ∈ l, 0 ≤ u.adults ∧ u.adults ≤ 60) {j : Nat} (h : j < (keysT l).length) : 0 ≤ keyJ l j ∧ keyJ l j ≤ 60 := by
  obtain ⟨u, hu, e⟩ := (mem_keysT _ _).1 (keyJ_mem h)
  rw [← e]; exact hl u hu
theorem keyR_0 (t : Truth) : (keyR t).getD (0 : Int).toNat 0 = t.adults := rfl
theorem keyR_1 (t : Truth) : (keyR t).getD (1 : Int).toNat 0 = t.children := rfl
theorem ends_done {l : List Truth} (hl : ∀ u ∈ l, 0 ≤ u.adults ∧ u.adults ≤ 60) (h0 : 0 < l.length) {seen : Array Nat} (h : Met (keysT l).length seen) (hd : leftM (keysT l).length seen = []) :
    (sumK l seen.toList).met ≠ 0 ∧ (⟨(sumK l seen.toList).lo, (sumK l seen.toList).hi⟩ : Span) = spanR l 0 ∧ (⟨(sumU l seen.toList).lo, (sumU l seen.toList).hi⟩ : Span) = spanR l 1 := by
  obtain ⟨t0, ht0⟩ : ∃ t, t ∈ l := ⟨l[0], List.getElem_mem h0⟩
  have at_ : ∀ t ∈ l, ∃ j ∈ seen.toList, keyJ l j = t.adults := fun t ht => by
    obtain ⟨j, hj, e⟩ := List.getElem_of_mem ((mem_keysT l t.adults).2 ⟨t, ht, rfl⟩)
    refine ⟨j, met_done hd hj, ?_⟩
    unfold keyJ; rw [List.getD_eq_getElem?_getD, List.getElem?_eq_getElem hj, e]; rfl
  have fr : ∀ j ∈ seen.toList, ∃ t ∈ l, t.adults = keyJ l j := fun j hj => (mem_keysT _ _).1 (keyJ_mem (h.2 j hj))
  have old : ∀ j ∈ seen.toList, ∀ t ∈ l, t.adults = keyJ l j → (oldJ l j).lo ≤ t.children ∧ t.children ≤ (oldJ l j).hi ∧ (∃ u ∈ l, u.children = (oldJ l j).lo) ∧ ∃ u ∈ l, u.children = (oldJ l j).hi := fun j hj t ht e => by
    have hk := keyJ_in hl (h.2 j hj)
    have hm : t ∈ l.filter fun t => t.adults == ((keyJ l j).toNat : Int) := List.mem_filter.2 ⟨ht, by rw [beq_iff_eq]; omega⟩
    have hm2 : t.children ∈ (l.filter fun t => t.adults == ((keyJ l j).toNat : Int)).map fun t => t.children := List.mem_map.2 ⟨t, hm, rfl⟩
    obtain ⟨a1, a2, a3⟩ := foldS_in (List.ne_nil_of_mem hm2)
    unfold oldJ oldA
    rw [spT_foldS]
    obtain ⟨u, hu, eu⟩ := List.mem_map.1 a1
    obtain ⟨w, hw, ew⟩ := List.mem_map.1 a2
    exact ⟨(a3 _ hm2).1, (a3 _ hm2).2, ⟨u, (List.mem_filter.1 hu).1, eu⟩, ⟨w, (List.mem_filter.1 hw).1, ew⟩⟩
  obtain ⟨j0, hj0, _⟩ := at_ t0 ht0
  have hne : seen.toList ≠ [] := List.ne_nil_of_mem hj0
  refine ⟨?_, ?_, ?_⟩
  · rw [sumK_met]
    have := List.length_pos_iff.2 hne
    omega
  · rw [← spT_span (fun t => t.adults) 0 h0 keyR_0, spT_foldS]
    unfold sumK
    obtain ⟨e1, e2⟩ := foldS_ends (xs := seen.toList.map (keyJ l)) (ys := l.map fun t => t.adults) (by simpa using hne) (by simpa using List.ne_nil_of_mem ht0) (fun x hx => by
      obtain ⟨j, hj, rfl⟩ := List.mem_map.1 hx
      obtain ⟨t, ht, e⟩ := fr j hj
      exact ⟨⟨t.adults, List.mem_map.2 ⟨t, ht, rfl⟩, by omega⟩, ⟨t.adults, List.mem_map.2 ⟨t, ht, rfl⟩, by omega⟩⟩) (fun y hy => by
      obtain ⟨t, ht, rfl⟩ := List.mem_map.1 hy
      obtain ⟨j, hj, e⟩ := at_ t ht
      exact ⟨⟨keyJ l j, List.mem_map.2 ⟨j, hj, rfl⟩, by simp only [e]; omega⟩, ⟨keyJ l j, List.mem_map.2 ⟨j, hj, rfl⟩, by simp only [e]; omega⟩⟩)
    rw [e1, e2]
  · rw [← spT_span (fun t => t.children) 1 h0 keyR_1, spT_foldS]
    unfold sumU
    obtain ⟨e1, e2⟩ := foldS_ends (xs := seen.toList.flatMap fun j => [(oldJ l j).lo, (oldJ l j).hi]) (ys := l.map fun t => t.children) (List.ne_nil_of_mem (List.mem_flatMap.2 ⟨j0, hj0, List.mem_cons_self⟩)) (by simpa using List.ne_nil_of_mem ht0) (fun x hx => by
      obtain ⟨j, hj, hx⟩ := List.mem_flatMap.1 hx
      obtain ⟨t, ht, e⟩ := fr j hj
      obtain ⟨_, _, ⟨u, hu, eu⟩, ⟨w, hw, ew⟩⟩ := old j hj t ht e
      have hx2 : x = (oldJ l j).lo ∨ x = (oldJ l j).hi := by simpa using hx
      rcases hx2 with rfl | rfl
      · exact ⟨⟨u.children, List.mem_map.2 ⟨u, hu, rfl⟩, by omega⟩, ⟨u.children, List.mem_map.2 ⟨u, hu, rfl⟩, by omega⟩⟩
      · exact ⟨⟨w.children, List.mem_map.2 ⟨w, hw, rfl⟩, by omega⟩, ⟨w.children, List.mem_map.2 ⟨w, hw, rfl⟩, by omega⟩⟩) (fun y hy => by
      obtain ⟨t, ht, rfl⟩ := List.mem_map.1 hy
      obtain ⟨j, hj, e⟩ := at_ t ht
      obtain ⟨q1, q2, _⟩ := old j hj t ht e.symm
      exact ⟨⟨_, List.mem_flatMap.2 ⟨j, hj, List.mem_cons_self⟩, q1⟩, ⟨_, List.mem_flatMap.2 ⟨j, hj, List.mem_cons_of_mem _ List.mem_cons_self⟩, q2⟩⟩)
    rw [e1, e2]
end
noncomputable section
def leAll : List V → List V → Prop
  | x :: xs, y :: ys => (y = uU ∨ x = y) ∧ leAll xs ys
  | _, [] => True
  | [], _ :: _ => False
theorem vle_leAll : ∀ {xs ys : List V}, leAll xs ys → ∀ j, VLe (xs.getD j uU) (ys.getD j uU)
  | _, [], _, j => by
    rw [List.getD_eq_getElem?_getD (l := []), List.getElem?_nil]
    exact fun _ _ _ _ => .undef _
  | [], _ :: _, h, _ => h.elim
  | x :: xs, y :: ys, h, 0 => by
    rcases h.1 with e | e
    · subst e; exact fun _ _ _ _ => .undef _
    · subst e; exact VLe.refl _
  | x :: xs, y :: ys, h, j + 1 => vle_leAll h.2 j
theorem hl_get (b : Book) (ks : List Int) (vs : List V) (f : Nat → Option Sp) (s u : Sp) (seen : Array Nat) {a : Nat} (ha : a < 61) : (HL b ks vs f s u seen)[7 + a]? = some (slotB f a) := by
  have hl : (slotsL f).length = 61 := by simp [slotsL]
  rw [List.getElem?_append_left (by rw [List.length_append, hl]; show 7 + a < 7 + 61; omega), List.getElem?_append_right (by show 7 ≤ 7 + a; omega)]
  rw [show 7 + a - (fixL b ks vs s u).length = a by show 7 + a - 7 = a; omega]
  exact slots_get f ha
abbrev tM (k : Int) (a : Nat) : List V := (tL.set 12 (iI k)).set 13 (.ref (7 + a) 0 0)
abbrev t13a (k : Int) (a : Nat) : List V := ((((tL.set 50 (.tuple [iI k, .ref (7 + a) 0 0])).set 51 (iI k)).set 52 (.ref (7 + a) 0 0)).set 12 (iI k)).set 13 (.ref (7 + a) 0 0)
theorem reg13 (b : Book) (ks : List Int) (vs : List V) (f : Nat → Option Sp) (s u : Sp) (seen : Array Nat) (j a : Nat) (m : Nat) (ro : Option Nat) (hj : j < ks.length) (hv : vs.getD j uU = .ref (7 + a) 0 0) :
    AWP Try.prog ⟨ro, m⟩ (.region 13 (ops25 13) false) ⟨tL, HL b ks vs f s u (seen.push j), [68]⟩ fun e T => e = .normal ∧ T = ⟨t13a (ks.getD j 0) a, HL b ks vs f s u (seen.push j), [68]⟩ := by
  refine AWP.region ?_
  have e : List.range (ops25 13).size = [0] ++ [1, 2, 3, 4] := by kernel_rfl
  rw [e]
  have h1 : SemOK Try.prog (opAt Try.f24 13 0) [(.tmp 47, .ref 69 0 0)] (HL b ks vs f s u (seen.push j)) (.tuple [iI (ks.getD j 0), .ref (7 + a) 0 0]) (HL b ks vs f s u (seen.push j)) := by
    have e : opAt Try.f24 13 0 = .entry (.tmp 47) := by kernel_rfl
    rw [e, ← hv]
    exact sem_entryV (q := 3) (vs := vs) rfl (hl_iter _ _ _ _ _ _ _) (by simp) hj
  refine AOps.sem (o := (ops25 13).getD 0 default) (us := [(.tmp 47, .ref 69 0 0)]) (v := .tuple [iI (ks.getD j 0), .ref (7 + a) 0 0]) (h' := HL b ks vs f s u (seen.push j)) (by kernel_rfl) (by kernel_rfl) (by kernel_rfl) (by exact h1) (mk68' (hl_mark _ _ _ _ _ _ _)) ?_
  exact AOps.run [1, 2, 3, 4] [] _ ⟨t13a (ks.getD j 0) a, HL b ks vs f s u (seen.push j), [68]⟩ true (by kernel_rfl) (mk68 (hl_mark _ _ _ _ _ _ _)) (AOps.nil ⟨rfl, rfl⟩)
theorem reg14 (b : Book) (ks : List Int) (vs : List V) (f : Nat → Option Sp) (s u : Sp) (seen : Array Nat) (k : Int) (a : Nat) (m : Nat) (ro : Option Nat) (hs : 0 ≤ s.met ∧ s.met ≤ 100000000000) :
    AWP Try.prog ⟨ro, m⟩ (.region 14 (ops25 14) false) ⟨tM k a, HL b ks vs f s u seen, [68]⟩ fun e T => e = .normal ∧ T = ⟨((tM k a).set 53 (iI k)).set 54 (.tuple []), HL b ks vs f (addS s k) u seen, [68]⟩ := by
  refine AWP.region ?_
  have e : List.range (ops25 14).size = [0] ++ [1] := by kernel_rfl
  rw [e]
  refine AOps.run [0] [1] _ ⟨(tM k a).set 53 (iI k), HL b ks vs f s u seen, [68]⟩ true (by kernel_rfl) (mk68 (hl_mark _ _ _ _ _ _ _)) ?_
  have hc := addAt (c79 s k hs) (h := HL b ks vs f s u seen) (i := 5) rfl
  refine AOps.hcall (o := (ops25 14).getD 1 default) (fo := .func 45) (args := #[.tmp 9, .tmp 53]) (ts := #[116, 3]) (g := 45) (first := []) (caps := []) (v := .tuple []) (h' := HL b ks vs f (addS s k) u seen) (by kernel_rfl) (by kernel_rfl) (by kernel_rfl) (by kernel_rfl) (by exact hc) (mk68' (hl_mark _ _ _ _ _ _ _)) ?_
  exact AOps.nil ⟨rfl, rfl⟩
theorem reg15 (b : Book) (ks : List Int) (vs : List V) (f : Nat → Option Sp) (s u : Sp) (seen : Array Nat) (k : Int) (a : Nat) (m : Nat) (ro : Option Nat) (ha : a < 61) (p : Sp) (hp : f a = some p) (hu : 0 ≤ u.met ∧ u.met ≤ 100000000000) :
    AWP Try.prog ⟨ro, m⟩ (.region 15 (ops25 15) false) ⟨tM k a, HL b ks vs f s u seen, [68]⟩ fun e T => e = .normal ∧ T = ⟨(((((tM k a).set 55 (.ref (7 + a) 0 0)).set 56 (.ref (7 + a) 0 0)).set 57 (.ref (7 + a) 0 0)).set 58 (iI p.lo)).set 59 (.tuple []), HL b ks vs f s (addS u p.lo) seen, [68]⟩ := by
  refine AWP.region ?_
  have e : List.range (ops25 15).size = [0, 1, 2] ++ [3, 4] := by kernel_rfl
  rw [e]
  refine AOps.run [0, 1, 2] [3, 4] _ ⟨(((tM k a).set 55 (.ref (7 + a) 0 0)).set 56 (.ref (7 + a) 0 0)).set 57 (.ref (7 + a) 0 0), HL b ks vs f s u seen, [68]⟩ true (by kernel_rfl) (mk68 (hl_mark _ _ _ _ _ _ _)) ?_
  have h3 : SemOK Try.prog (opAt Try.f24 15 3) [(.tmp 57, .ref (7 + a) 0 0)] (HL b ks vs f s u seen) (iI p.lo) (HL b ks vs f s u seen) := by
    have e : opAt Try.f24 15 3 = .load 3 (.tmp 57) := by kernel_rfl
    rw [e]
    exact sem_loadAt (cs := tSp.cells p) (off := 0) (by kernel_rfl) (by kernel_rfl) (by kernel_rfl) (by rw [hl_get _ _ _ _ _ _ _ ha]; unfold slotB; rw [hp]) (by show 0 < 3; decide)
  refine AOps.sem (o := (ops25 15).getD 3 default) (us := [(.tmp 57, .ref (7 + a) 0 0)]) (v := iI p.lo) (h' := HL b ks vs f s u seen) (by kernel_rfl) (by kernel_rfl) (by kernel_rfl) (by exact h3) (mk68' (hl_mark _ _ _ _ _ _ _)) ?_
  have hc := addAt (c79 u p.lo hu) (h := HL b ks vs f s u seen) (i := 6) rfl
  refine AOps.hcall (o := (ops25 15).getD 4 default) (fo := .func 45) (args := #[.tmp 10, .tmp 58]) (ts := #[116, 3]) (g := 45) (first := []) (caps := []) (v := .tuple []) (h' := HL b ks vs f s (addS u p.lo) seen) (by kernel_rfl) (by kernel_rfl) (by kernel_rfl) (by kernel_rfl) (by exact hc) (mk68' (hl_mark _ _ _ _ _ _ _)) ?_
  exact AOps.nil ⟨rfl, rfl⟩
theorem reg16 (b : Book) (ks : List Int) (vs : List V) (f : Nat → Option Sp) (s u : Sp) (seen : Array Nat) (k : Int) (a : Nat) (m : Nat) (ro : Option Nat) (ha : a < 61) (p : Sp) (hp : f a = some p) (hu : 0 ≤ u.met ∧ u.met ≤ 100000000000) :
    AWP Try.prog ⟨ro, m⟩ (.region 16 (ops25 16) false) ⟨tM k a, HL b ks vs f s u seen, [68]⟩ fun e T => e = .normal ∧ T = ⟨(((((tM k a).set 60 (.ref (7 + a) 0 0)).set 61 (.ref (7 + a) 0 0)).set 62 (.ref (7 + a) 0 1)).set 63 (iI p.hi)).set 64 (.tuple []), HL b ks vs f s (addS u p.hi) seen, [68]⟩ := by
  refine AWP.region ?_
  have e : List.range (ops25 16).size = [0, 1, 2] ++ [3, 4] := by kernel_rfl
  rw [e]
  refine AOps.run [0, 1, 2] [3, 4] _ ⟨(((tM k a).set 60 (.ref (7 + a) 0 0)).set 61 (.ref (7 + a) 0 0)).set 62 (.ref (7 + a) 0 1), HL b ks vs f s u seen, [68]⟩ true (by kernel_rfl) (mk68 (hl_mark _ _ _ _ _ _ _)) ?_
  have h3 : SemOK Try.prog (opAt Try.f24 16 3) [(.tmp 62, .ref (7 + a) 0 1)] (HL b ks vs f s u seen) (iI p.hi) (HL b ks vs f s u seen) := by
    have e : opAt Try.f24 16 3 = .load 3 (.tmp 62) := by kernel_rfl
    rw [e]
    exact sem_loadAt (cs := tSp.cells p) (off := 1) (by kernel_rfl) (by kernel_rfl) (by kernel_rfl) (by rw [hl_get _ _ _ _ _ _ _ ha]; unfold slotB; rw [hp]) (by show 1 < 3; decide)
  refine AOps.sem (o := (ops25 16).getD 3 default) (us := [(.tmp 62, .ref (7 + a) 0 1)]) (v := iI p.hi) (h' := HL b ks vs f s u seen) (by kernel_rfl) (by kernel_rfl) (by kernel_rfl) (by exact h3) (mk68' (hl_mark _ _ _ _ _ _ _)) ?_
  have hc := addAt (c79 u p.hi hu) (h := HL b ks vs f s u seen) (i := 6) rfl
  refine AOps.hcall (o := (ops25 16).getD 4 default) (fo := .func 45) (args := #[.tmp 10, .tmp 63]) (ts := #[116, 3]) (g := 45) (first := []) (caps := []) (v := .tuple []) (h' := HL b ks vs f s (addS u p.hi) seen) (by kernel_rfl) (by kernel_rfl) (by kernel_rfl) (by kernel_rfl) (by exact hc) (mk68' (hl_mark _ _ _ _ _ _ _)) ?_
  exact AOps.nil ⟨rfl, rfl⟩
def loop25 : Code := .block 2 (.loop (.seq (.region 12 (ops25 12) false) (.seq (.cond (.tmp 49) .skip (.exit 2)) (.block 3 (.seq (.region 13 (ops25 13) false) (.seq (.region 14 (ops25 14) false) (.seq (.region 15 (ops25 15) false) (.region 16 (ops25 16) false))))))))
abbrev stL (b : Book) (l : List Truth) (seen : Array Nat) : St := ⟨tL, HL b (keysT l) (refsK (keysT l)) (spanA l) (sumK l seen.toList) (sumU l seen.toList) seen, [68]⟩
theorem body25 (b : Book) (l : List Truth) (hl : ∀ u ∈ l, 0 ≤ u.adults ∧ u.adults ≤ 60) (seen : Array Nat) (h : Met (keysT l).length seen) (j : Nat) (hj : j ∈ leftM (keysT l).length seen) (m : Nat) (ro : Option Nat) :
    AWP Try.prog ⟨ro, m⟩ (.seq (.region 13 (ops25 13) false) (.seq (.region 14 (ops25 14) false) (.seq (.region 15 (ops25 15) false) (.region 16 (ops25 16) false))))
      ⟨tL, HL b (keysT l) (refsK (keysT l)) (spanA l) (sumK l seen.toList) (sumU l seen.toList) (seen.push j), [68]⟩ fun e T => e = .normal ∧ T = stL b l (seen.push j) := by
  obtain ⟨hp, hjn⟩ := met_push h hj
  have hk := keyJ_in hl hjn
  have hsz := met_size h
  have hkl := keysT_len hl
  have hv := refsK_get (keyJ_at hjn)
  have ha : (keyJ l j).toNat < 61 := by omega
  have hold : spanA l (keyJ l j).toNat = some (oldJ l j) := spanA_old (by rw [Int.toNat_of_nonneg hk.1]; exact keyJ_mem hjn)
  have m1 := sumK_met l seen.toList
  have m2 := sumU_met l seen.toList
  have hlen : seen.toList.length = seen.size := by simp
  have m3 : (addS (sumU l seen.toList) (oldJ l j).lo).met = 2 * seen.toList.length + 1 := by
    rcases Nat.eq_zero_or_pos seen.toList.length with q | q
    · have : (sumU l seen.toList).met = 0 := by rw [m2, q]; rfl
      unfold addS; rw [if_pos this, q]; rfl
    · rw [addS_pos (by rw [m2]; omega)]; show (sumU l seen.toList).met + 1 = _; rw [m2]
  refine AWP.seq ((reg13 b _ _ _ _ _ seen j (keyJ l j).toNat m ro hjn hv).mono fun e T hT => ?_)
  obtain ⟨rfl, rfl⟩ := hT
  refine AWP.forget (t := tM (keyJ l j) (keyJ l j).toNat) (by simp) (vle_leAll ?_) ?_
  · iterate 72 refine And.intro (by first | exact .inl rfl | exact .inr rfl) ?_
    exact True.intro
  refine AWP.seq ((reg14 b _ _ _ _ _ _ (keyJ l j) (keyJ l j).toNat m ro ⟨by omega, by omega⟩).mono fun e T hT => ?_)
  obtain ⟨rfl, rfl⟩ := hT
  refine AWP.forget (t := tM (keyJ l j) (keyJ l j).toNat) (by simp) (vle_leAll ?_) ?_
  · iterate 72 refine And.intro (by first | exact .inl rfl | exact .inr rfl) ?_
    exact True.intro
  refine AWP.seq ((reg15 b _ _ _ _ _ _ (keyJ l j) (keyJ l j).toNat m ro ha _ hold ⟨by omega, by omega⟩).mono fun e T hT => ?_)
  obtain ⟨rfl, rfl⟩ := hT
  refine AWP.forget (t := tM (keyJ l j) (keyJ l j).toNat) (by simp) (vle_leAll ?_) ?_
  · iterate 72 refine And.intro (by first | exact .inl rfl | exact .inr rfl) ?_
    exact True.intro
  refine AWP.tell (t := tL) ((reg16 b _ _ _ _ _ _ (keyJ l j) (keyJ l j).toNat m ro ha _ hold ⟨by omega, by omega⟩).mono fun e T hT => ?_)
  obtain ⟨rfl, rfl⟩ := hT
  refine ⟨by simp, vle_leAll ?_, rfl, ?_⟩
  · iterate 72 refine And.intro (by first | exact .inl rfl | exact .inr rfl) ?_
    exact True.intro
  · show St.mk _ _ _ = St.mk _ _ _
    rw [Array.toList_push, sumK_snoc, sumU_snoc]
end
noncomputable section
theorem loop25_ok (b : Book) (l : List Truth) (hl : ∀ u ∈ l, 0 ≤ u.adults ∧ u.adults ≤ 60) (m : Nat) (ro : Option Nat) :
    AWP Try.prog ⟨ro, m⟩ loop25 ⟨tL, HL b (keysT l) (refsK (keysT l)) (spanA l) zSp zSp #[], [68]⟩ fun e T => e = .normal ∧ ∃ seen, Met (keysT l).length seen ∧ leftM (keysT l).length seen = [] ∧ T = stL b l seen := by
  refine AWP.block (AWP.loop (fun seen => Met (keysT l).length seen) (stL b l) (fun seen => (keysT l).length - seen.size) (x := #[]) ⟨List.nodup_nil, fun i hi => by simp at hi⟩ fun seen h => ?_)
  by_cases h0 : leftM (keysT l).length seen = []
  · refine AWP.seq ((reg12e b _ _ _ _ _ seen m ro h0).mono fun e T hT => ?_)
    obtain ⟨rfl, rfl⟩ := hT
    refine AWP.seq (AWP.cond (t := false) rfl (fun q => by cases q) fun _ => ?_)
    refine AWP.forget (t := tL) (by simp) (vle_leAll ?_) (AWP.exit ?_)
    · iterate 72 refine And.intro (by first | exact .inl rfl | exact .inr rfl) ?_
      exact True.intro
    · exact ⟨rfl, seen, h, h0, rfl⟩
  · refine AWP.seq ((reg12 b _ _ _ _ _ seen m ro h0).mono fun e T hT => ?_)
    obtain ⟨rfl, j, hj, rfl⟩ := hT
    refine AWP.seq (AWP.cond (t := true) rfl (fun _ => AWP.skip ?_) fun q => by cases q)
    refine AWP.forget (t := tL) (by simp) (vle_leAll ?_) (AWP.block ((body25 b l hl seen h j hj m ro).mono fun e T hT => ?_))
    · iterate 72 refine And.intro (by first | exact .inl rfl | exact .inr rfl) ?_
      exact True.intro
    · obtain ⟨rfl, rfl⟩ := hT
      obtain ⟨hp, hjn⟩ := met_push h hj
      have h1 := met_size hp
      rw [Array.size_push] at h1
      exact ⟨seen.push j, hp, rfl, by show _ - (seen.push j).size < _; rw [Array.size_push]; omega⟩
def o25 : Array Oper := (regOf 18 (Try.f24.body.getD .skip)).getD #[]
abbrev st25 (b : Book) (R : List Blk) (c0 c1 c2 : Bool) : St := ⟨[uU, uU, uU, uU, .ref 1 0 0, .ref 2 0 0, uU, uU, uU, uU, uU, uU, uU, uU, uU, uU, uU, uU, uU, uU, uU, uU, uU, uU, uU, uU, uU, uU, uU, uU, uU, uU, uU, uU, uU, uU, uU, uU, uU, uU, uU, uU, uU, uU, uU, uU, uU, uU, uU, uU, uU, uU, uU, uU, uU, uU, uU, uU, uU, uU, uU, uU, uU, uU, uU, uU, uU, uU, bif c0 then .agg [iI 0, iI 0] else uU, bif c1 then .agg [iI 0, iI 0] else uU, uU, uU], [.cells (cC b), .cells [(bif c2 then iI 0 else iI 0), (bif c2 then iI 0 else iI 0)], .cells [iI 0, iI 0]] ++ R, [68]⟩
abbrev fin25 (b : Book) (R : List Blk) : St := ⟨[uU, uU, uU, uU, .ref 1 0 0, .ref 2 0 0, iI 8, uU, uU, uU, uU, uU, uU, uU, uU, uU, uU, uU, uU, uU, uU, uU, uU, uU, uU, uU, uU, uU, uU, uU, uU, uU, uU, uU, uU, uU, uU, uU, uU, uU, uU, uU, uU, uU, uU, uU, uU, uU, uU, uU, uU, uU, uU, uU, uU, uU, uU, uU, uU, uU, uU, uU, uU, uU, uU, uU, uU, uU, .agg [iI 0, iI 0], .agg [iI 0, iI 0], uU, uU], [.cells (cC b), .cells [iI 0, iI 0], .cells [iI 0, iI 0]] ++ R, [68]⟩
theorem sp25_0 (b : Book) (R : List Blk) (hR : R[65]? = some (.obj (.deferred (some [])))) (c1 : Bool) : AStep Try.prog ⟨none, 0⟩ o25 0 (st25 b R false c1 false) (st25 b R true c1 false) :=
  AStep.of_ops (AOps.run [0] [] _ (st25 b R true c1 false) true (by kernel_rfl) (fun j hj => by have e : j = 68 := (by simpa using hj); subst e; exact ⟨_, hR⟩) (AOps.nil ⟨rfl, rfl⟩))
theorem sp25_1 (b : Book) (R : List Blk) (hR : R[65]? = some (.obj (.deferred (some [])))) (c0 c2 : Bool) : AStep Try.prog ⟨none, 0⟩ o25 1 (st25 b R c0 false c2) (st25 b R c0 true c2) :=
  AStep.of_ops (AOps.run [1] [] _ (st25 b R c0 true c2) true (by kernel_rfl) (fun j hj => by have e : j = 68 := (by simpa using hj); subst e; exact ⟨_, hR⟩) (AOps.nil ⟨rfl, rfl⟩))
theorem sp25_2 (b : Book) (R : List Blk) (hR : R[65]? = some (.obj (.deferred (some [])))) (c1 : Bool) : AStep Try.prog ⟨none, 0⟩ o25 2 (st25 b R true c1 false) (st25 b R true c1 true) :=
  AStep.of_ops (AOps.run [2] [] _ (st25 b R true c1 true) true (by kernel_rfl) (fun j hj => by have e : j = 68 := (by simpa using hj); subst e; exact ⟨_, hR⟩) (AOps.nil ⟨rfl, rfl⟩))
theorem ov25 (b : Book) (R : List Blk) (hR : R[65]? = some (.obj (.deferred (some [])))) : AWP Try.prog ⟨none, 0⟩ (regionOf Try.f24 18) (st25 b R false false false) (fun e T => e = .normal ∧ T = fin25 b R) := by
  have z_sz : o25.size = 5 := by kernel_rfl
  refine AWP.region_anyC (ops := o25) 3 mx (by kernel_rfl) (by omega) (fun j_ z_1 z_2 => ?_) (fun l_ => st25 b R (l_.getD 0 false) (l_.getD 1 false) (l_.getD 2 false)) (fun β_ G_ K_ a_ w_ r_ => ⟨β_, Homes.le_refl _, ?_⟩) (fun l_ i_ z_l z_i z_li z_j z_c z_r => ?_) (fun l_ z_l z_1 z_2 => ?_)
  · rcases show j_ = 3 ∨ j_ = 4 by omega with rfl | rfl
    all_goals kernel_rfl
  · rw [z_sz]; exact r_
  · have z_lt : i_ < l_.size := by omega
    simp only [gset z_lt]
    rcases show i_ = 0 ∨ i_ = 1 ∨ i_ = 2 by omega with rfl | rfl | rfl
    · have z_g2 := dep_not (ops := o25) (i := 2) (j := 0) (by kernel_rfl) z_c z_li
      simp only [Nat.reduceEqDiff, if_true, if_false, reduceIte, z_li, z_g2]
      exact sp25_0 b R hR _
    · simp only [Nat.reduceEqDiff, if_true, if_false, reduceIte, z_li]
      exact sp25_1 b R hR _ _
    · have z_g0 := dep_ready (ops := o25) (i := 2) (j := 0) (by kernel_rfl) z_r
      simp only [Nat.reduceEqDiff, if_true, if_false, reduceIte, z_li, z_g0]
      exact sp25_2 b R hR _
  · simp only [z_1 0 (by omega), z_1 1 (by omega), z_1 2 (by omega)]
    rw [z_sz]
    exact AOps.run [3, 4] [] _ (fin25 b R) true (by kernel_rfl) (fun j hj => by have e : j = 68 := (by simpa using hj); subst e; exact ⟨_, hR⟩) (AOps.nil ⟨rfl, rfl⟩)
def o25e : Array Oper := (regOf 3 (Try.f24.body.getD .skip)).getD #[]
abbrev st25e (b : Book) (er : Int) (c0 c1 c2 c3 c4 : Bool) : St := ⟨[uU, uU, uU, uU, .ref 1 0 0, .ref 2 0 0, iI er, uU, uU, uU, uU, uU, uU, uU, uU, uU, uU, uU, uU, uU, uU, uU, bif c0 then .agg [iI 0, iI 0] else uU, bif c1 then .agg [iI 0, iI 0] else uU, bif c2 then iI er else uU, uU, uU, uU, uU, uU, uU, uU, uU, uU, uU, uU, uU, uU, uU, uU, uU, uU, uU, uU, uU, uU, uU, uU, uU, uU, uU, uU, uU, uU, uU, uU, uU, uU, uU, uU, uU, uU, uU, uU, uU, uU, uU, uU, uU, uU, uU, uU], [.cells (cC b), .cells [(bif c3 then iI 0 else iI 0), (bif c3 then iI 0 else iI 0)], .cells [(bif c4 then iI 0 else iI 0), (bif c4 then iI 0 else iI 0)]], []⟩
abbrev fin25e (b : Book) (er : Int) : St := ⟨[uU, uU, uU, uU, .ref 1 0 0, .ref 2 0 0, iI er, uU, uU, uU, uU, uU, uU, uU, uU, uU, uU, uU, uU, uU, uU, uU, .agg [iI 0, iI 0], .agg [iI 0, iI 0], iI er, uU, uU, uU, uU, uU, uU, uU, uU, uU, uU, uU, uU, uU, uU, uU, uU, uU, uU, uU, uU, uU, uU, uU, uU, uU, uU, uU, uU, uU, uU, uU, uU, uU, uU, uU, uU, uU, uU, uU, uU, uU, uU, uU, uU, uU, uU, uU], [.cells (cC b), .cells [iI 0, iI 0], .cells [iI 0, iI 0]], []⟩
theorem sp25e_0 (b : Book) (er : Int) (c1 c2 c4 : Bool) : AStep Try.prog ⟨none, 0⟩ o25e 0 (st25e b er false c1 c2 false c4) (st25e b er true c1 c2 false c4) :=
  AStep.of_ops (AOps.run [0] [] _ (st25e b er true c1 c2 false c4) true (by kernel_rfl) (fun j hj => absurd hj (List.not_mem_nil)) (AOps.nil ⟨rfl, rfl⟩))
theorem sp25e_1 (b : Book) (er : Int) (c0 c2 c3 : Bool) : AStep Try.prog ⟨none, 0⟩ o25e 1 (st25e b er c0 false c2 c3 false) (st25e b er c0 true c2 c3 false) :=
  AStep.of_ops (AOps.run [1] [] _ (st25e b er c0 true c2 c3 false) true (by kernel_rfl) (fun j hj => absurd hj (List.not_mem_nil)) (AOps.nil ⟨rfl, rfl⟩))
theorem sp25e_2 (b : Book) (er : Int) (c0 c1 c3 c4 : Bool) : AStep Try.prog ⟨none, 0⟩ o25e 2 (st25e b er c0 c1 false c3 c4) (st25e b er c0 c1 true c3 c4) :=
  AStep.of_ops (AOps.run [2] [] _ (st25e b er c0 c1 true c3 c4) true (by kernel_rfl) (fun j hj => absurd hj (List.not_mem_nil)) (AOps.nil ⟨rfl, rfl⟩))
theorem sp25e_3 (b : Book) (er : Int) (c1 c2 c4 : Bool) : AStep Try.prog ⟨none, 0⟩ o25e 3 (st25e b er true c1 c2 false c4) (st25e b er true c1 c2 true c4) :=
  AStep.of_ops (AOps.run [3] [] _ (st25e b er true c1 c2 true c4) true (by kernel_rfl) (fun j hj => absurd hj (List.not_mem_nil)) (AOps.nil ⟨rfl, rfl⟩))
theorem sp25e_4 (b : Book) (er : Int) (c0 c2 c3 : Bool) : AStep Try.prog ⟨none, 0⟩ o25e 4 (st25e b er c0 true c2 c3 false) (st25e b er c0 true c2 c3 true) :=
  AStep.of_ops (AOps.run [4] [] _ (st25e b er c0 true c2 c3 true) true (by kernel_rfl) (fun j hj => absurd hj (List.not_mem_nil)) (AOps.nil ⟨rfl, rfl⟩))
theorem ov25e (b : Book) (er : Int) : AWP Try.prog ⟨none, 0⟩ (regionOf Try.f24 3) (st25e b er false false false false false) (fun e T => e = .normal ∧ T = fin25e b er) := by
  have z_sz : o25e.size = 6 := by kernel_rfl
  refine AWP.region_anyC (ops := o25e) 5 mx (by kernel_rfl) (by omega) (fun j_ z_1 z_2 => ?_) (fun l_ => st25e b er (l_.getD 0 false) (l_.getD 1 false) (l_.getD 2 false) (l_.getD 3 false) (l_.getD 4 false)) (fun β_ G_ K_ a_ w_ r_ => ⟨β_, Homes.le_refl _, ?_⟩) (fun l_ i_ z_l z_i z_li z_j z_c z_r => ?_) (fun l_ z_l z_1 z_2 => ?_)
  · obtain rfl : j_ = 5 := by omega
    kernel_rfl
  · rw [z_sz]; exact r_
  · have z_lt : i_ < l_.size := by omega
    simp only [gset z_lt]
    rcases show i_ = 0 ∨ i_ = 1 ∨ i_ = 2 ∨ i_ = 3 ∨ i_ = 4 by omega with rfl | rfl | rfl | rfl | rfl
    · have z_g3 := dep_not (ops := o25e) (i := 3) (j := 0) (by kernel_rfl) z_c z_li
      simp only [Nat.reduceEqDiff, if_true, if_false, reduceIte, z_li, z_g3]
      exact sp25e_0 b er _ _ _
    · have z_g4 := dep_not (ops := o25e) (i := 4) (j := 1) (by kernel_rfl) z_c z_li
      simp only [Nat.reduceEqDiff, if_true, if_false, reduceIte, z_li, z_g4]
      exact sp25e_1 b er _ _ _
    · simp only [Nat.reduceEqDiff, if_true, if_false, reduceIte, z_li]
      exact sp25e_2 b er _ _ _ _
    · have z_g0 := dep_ready (ops := o25e) (i := 3) (j := 0) (by kernel_rfl) z_r
      simp only [Nat.reduceEqDiff, if_true, if_false, reduceIte, z_li, z_g0]
      exact sp25e_3 b er _ _ _
    · have z_g1 := dep_ready (ops := o25e) (i := 4) (j := 1) (by kernel_rfl) z_r
      simp only [Nat.reduceEqDiff, if_true, if_false, reduceIte, z_li, z_g1]
      exact sp25e_4 b er _ _ _
  · simp only [z_1 0 (by omega), z_1 1 (by omega), z_1 2 (by omega), z_1 3 (by omega), z_1 4 (by omega)]
    rw [z_sz]
    exact AOps.run [5] [] _ (fin25e b er) true (by kernel_rfl) (fun j hj => absurd hj (List.not_mem_nil)) (AOps.nil ⟨rfl, rfl⟩)
inductive P25_e
  | e
inductive R25_e
  | r0 (r0_0 : Int) (r0_1 : Int) (r1_0 : Int) (r1_1 : Int) (r2 : Int)
noncomputable def T25_e (b : Book) (d : Int) : P25_e → Tr P25_e R25_e
  | .e => let c1 : List Blk := [.cells (cC b), .cells [iI 0, iI 0], .cells [iI 0, iI 0]]; let c2 := askedR b d; (.call 16 [.agg (cC b), iI d] (.tuple [.nil, iI c2]) true true (.br (c2 != (0 : Int)) (.wait 1 (.drop ⟨[uU, uU, uU, uU, .nil, .nil, .nil, uU, uU, uU, uU, uU, uU, uU, uU, uU, uU, uU, uU, uU, uU, uU, uU, uU, uU, uU, uU, uU, uU, uU, uU, uU, uU, uU, uU, uU, uU, uU, uU, uU, uU, uU, uU, uU, uU, uU, uU, uU, uU, uU, uU, uU, uU, uU, uU, uU, uU, uU, uU, uU, uU, uU, uU, uU, uU, uU, uU, uU, uU, uU, uU, uU], [.void, .void, .void], []⟩ (.over (regionOf Try.f24 3) ⟨[uU, uU, uU, uU, .ref 1 0 0, .ref 2 0 0, iI c2, uU, uU, uU, uU, uU, uU, uU, uU, uU, uU, uU, uU, uU, uU, uU, uU, uU, uU, uU, uU, uU, uU, uU, uU, uU, uU, uU, uU, uU, uU, uU, uU, uU, uU, uU, uU, uU, uU, uU, uU, uU, uU, uU, uU, uU, uU, uU, uU, uU, uU, uU, uU, uU, uU, uU, uU, uU, uU, uU, uU, uU, uU, uU, uU, uU], c1, []⟩ .normal ⟨[uU, uU, uU, uU, .ref 1 0 0, .ref 2 0 0, iI c2, uU, uU, uU, uU, uU, uU, uU, uU, uU, uU, uU, uU, uU, uU, uU, .agg [iI 0, iI 0], .agg [iI 0, iI 0], iI c2, uU, uU, uU, uU, uU, uU, uU, uU, uU, uU, uU, uU, uU, uU, uU, uU, uU, uU, uU, uU, uU, uU, uU, uU, uU, uU, uU, uU, uU, uU, uU, uU, uU, uU, uU, uU, uU, uU, uU, uU, uU, uU, uU, uU, uU, uU, uU], c1, []⟩ true (.out (.r0 0 0 0 0 c2))))) (.wait 2 .never)))
noncomputable def g25_e (b : Book) (d : Int) : P25_e → List Item × St
  | .e => bd Try.f24 [.agg (cC b), iI d] 70
noncomputable def n25_e : R25_e → Exit × St
  | .r0 r0_0 r0_1 r1_0 r1_1 r2 => (.ret, ⟨mk 72 [(4, .ref 1 0 0), (5, .ref 2 0 0), (6, iI r2)], [.gone, .cells [iI r0_0, iI r0_1], .cells [iI r1_0, iI r1_1]], []⟩)
noncomputable def v25_e : R25_e → V
  | .r0 r0_0 r0_1 r1_0 r1_1 r2 => .tuple [.agg [iI r0_0, iI r0_1], .agg [iI r1_0, iI r1_1], iI r2]
theorem s25_e (b : Book) (d : Int) : Sm 0 (g25_e b d) (T25_e b d) (n25_e)
  | .e => ⟨400, by kernel_rfl⟩
theorem q25_e : ∀ r, bodyQ Try.prog Try.f24 (· = v25_e r) (n25_e r).1 (n25_e r).2
  | .r0 r0_0 r0_1 r1_0 r1_1 r2 => bq (.tuple [.agg [iI r0_0, iI r0_1], .agg [iI r1_0, iI r1_1], iI r2]) (by kernel_rfl)
theorem w25_e (b : Book) (d : Int) {post : V → Prop} (h : WQ (T25_e b d) v25_e post .e) : PC 24 [.agg (cC b), iI d] post :=
  PCalls.wq Try.func24 (s25_e b d) q25_e h
theorem c25e (b : Book) (d : Int) (hs : SmB b) (ha : ¬ askedR b d = 0) : PC 24 [.agg (tBook.cells b), iI d] (· = .tuple [.agg (tSpan.cells (visR b d).1), .agg (tSpan.cells (visR b d).2.1), iI (visR b d).2.2]) := by
  have k63 := c63n b d hs ha
  have hx : explainedR b d (askedR b d) = ([], askedR b d) := by unfold explainedR; rw [if_pos ha]
  have e : visR b d = (⟨0, 0⟩, ⟨0, 0⟩, askedR b d) := by unfold visR; rw [hx, if_pos ha]
  refine w25_e b d (WP.step ?_)
  simp only [T25_e, Go, Ends', v25_e, Tr.sure, SS, ha]
  repeat' with_reducible first | intro _ | apply And.intro
  all_goals first | exact k63 | exact (ov25e _ _) | (simp [e, tSpan, Go, Ends', v25_e, -List.getD_eq_getElem?_getD, *]; done)
end
noncomputable section
abbrev rg (k : Nat) : Code := .region k (ops25 k) false
def code25 : Code := .seq (rg 0) (.seq (rg 1) (.seq (.seq (rg 2) (.cond (.tmp 21) (.seq (regionOf Try.f24 3) .ret) .skip)) (.seq (rg 4) (.seq (rg 5) (.seq (.seq (rg 6) (.block 0 (rangeOf Try.f24))) (.seq (.seq (rg 11) loop25) (.seq (.seq (rg 17) (.cond (.tmp 67) (.seq (regionOf Try.f24 18) .ret) .skip)) (.seq (rg 19) .ret))))))))
theorem code25_eq : Try.f24.body = some code25 := by kernel_rfl
abbrev u25 (n : Nat) : List V := List.replicate n uU
abbrev zz25 : Blk := .cells [iI 0, iI 0]
abbrev h0 (b : Book) : List Blk := [.cells (tBook.cells b), zz25, zz25]
theorem none68 {S : List Blk} : ∀ j, j ∈ ([] : List Nat) → ∃ x, S[j]? = some (.obj x) := fun _ hj => absurd hj List.not_mem_nil
abbrev ta (b : Book) (d : Int) : List V := [.agg (tBook.cells b), iI d] ++ u25 70
theorem reg0 (b : Book) (d : Int) : AWP Try.prog ⟨none, 0⟩ (rg 0) ⟨ta b d, [], []⟩ fun e T => e = .normal ∧ T = ⟨((((ta b d).set 2 (.ref 0 0 0)).set 4 (.ref 1 0 0)).set 5 (.ref 2 0 0)).set 6 (iI 0), h0 b, []⟩ := by
  refine AWP.region ?_
  have e : List.range (ops25 0).size = [0, 1, 2, 3] ++ [] := by kernel_rfl
  rw [e]
  exact AOps.run [0, 1, 2, 3] [] _ ⟨((((ta b d).set 2 (.ref 0 0 0)).set 4 (.ref 1 0 0)).set 5 (.ref 2 0 0)).set 6 (iI 0), h0 b, []⟩ true (by kernel_rfl) none68 (AOps.nil ⟨rfl, rfl⟩)
abbrev tb (d : Int) : List V := [uU, iI d, .ref 0 0 0, uU, .ref 1 0 0, .ref 2 0 0] ++ u25 66
abbrev tc (b : Book) (d : Int) : List V := [uU, uU, .ref 0 0 0, uU, .ref 1 0 0, .ref 2 0 0, iI 0, lk (lookOf b d)] ++ u25 64
abbrev tb2 (b : Book) (d : Int) : List V := ((tb d).set 15 (.agg (tBook.cells b))).set 16 (iI d)
abbrev vb (b : Book) (d : Int) : V := .tuple [lk (lookOf b d), iI 0]
abbrev tb3 (b : Book) (d : Int) : List V := ((((((tb2 b d).set 17 (vb b d)).set 14 (vb b d)).set 18 (lk (lookOf b d))).set 19 (iI 0)).set 7 (lk (lookOf b d))).set 6 (iI 0)
theorem reg1 (b : Book) (d : Int) (ha : askedR b d = 0) : AWP Try.prog ⟨none, 0⟩ (rg 1) ⟨tb d, h0 b, []⟩ fun e T => e = .normal ∧ T = ⟨tb3 b d, h0 b, []⟩ := by
  refine AWP.region ?_
  have e : List.range (ops25 1).size = [0, 1] ++ [2, 3, 4, 5, 6, 7] := by kernel_rfl
  rw [e]
  refine AOps.run [0, 1] [2, 3, 4, 5, 6, 7] _ ⟨tb2 b d, h0 b, []⟩ true (by kernel_rfl) none68 ?_
  refine AOps.call_snap (o := (ops25 1).getD 2 default) (fo := .func 16) (args := #[.tmp 15, .tmp 16]) (ts := #[25, 3]) (g := 16) (first := []) (caps := []) (us := [.agg (tBook.cells b), iI d]) (by kernel_rfl) (by kernel_rfl) (by kernel_rfl) (by kernel_rfl) (by kernel_rfl)
    (fun j hj => ((snap_sound (h0 b) 4).2 [.agg (tBook.cells b), iI d] [.agg (tBook.cells b), iI d] (by kernel_rfl)).2 j hj) (c63y b d ha) (.inl ⟨rfl, by kernel_rfl⟩) fun v hv => ?_
  subst hv
  exact AOps.run [3, 4, 5, 6, 7] [] _ ⟨tb3 b d, h0 b, []⟩ true (by kernel_rfl) none68 (AOps.nil ⟨rfl, rfl⟩)
theorem reg2 (b : Book) (d : Int) : AWP Try.prog ⟨none, 0⟩ (rg 2) ⟨tc b d, h0 b, []⟩ fun e T => e = .normal ∧ T = ⟨((tc b d).set 20 (iI 0)).set 21 (.bool false), h0 b, []⟩ := by
  refine AWP.region ?_
  have e : List.range (ops25 2).size = [0, 1] ++ [] := by kernel_rfl
  rw [e]
  exact AOps.run [0, 1] [] _ ⟨((tc b d).set 20 (iI 0)).set 21 (.bool false), h0 b, []⟩ true (by kernel_rfl) none68 (AOps.nil ⟨rfl, rfl⟩)
theorem reg4 (b : Book) (d : Int) : AWP Try.prog ⟨none, 0⟩ (rg 4) ⟨tc b d, h0 b, []⟩ fun e T => e = .normal ∧ T = ⟨((tc b d).set 25 (.map 3)).set 8 (.ref 4 0 0), h0 b ++ [.maps [] [], .cells [.map 3]], []⟩ := by
  refine AWP.region ?_
  have e : List.range (ops25 4).size = [0] ++ [1, 2] := by kernel_rfl
  rw [e]
  have h1 : SemOK Try.prog (opAt Try.f24 4 0) [] (h0 b) (.map 3) (h0 b ++ [.maps [] []]) := by
    have e : opAt Try.f24 4 0 = .makeMap 114 none := by kernel_rfl
    rw [e]
    exact sem_makeMapV 114
  refine AOps.sem (o := (ops25 4).getD 0 default) (us := []) (v := .map 3) (h' := h0 b ++ [.maps [] []]) (by kernel_rfl) (by kernel_rfl) (by kernel_rfl) (by exact h1) (fun j hj => absurd hj List.not_mem_nil) ?_
  exact AOps.run [1, 2] [] _ ⟨((tc b d).set 25 (.map 3)).set 8 (.ref 4 0 0), h0 b ++ [.maps [] [], .cells [.map 3]], []⟩ true (by kernel_rfl) none68 (AOps.nil ⟨rfl, rfl⟩)
abbrev td (b : Book) (d : Int) : List V := ((tc b d).set 25 (.map 3)).set 8 (.ref 4 0 0)
abbrev h5 (b : Book) : List Blk := h0 b ++ [.maps [] [], .cells [.map 3], .cells (tSp.cells zSp), .cells (tSp.cells zSp)]
theorem reg5 (b : Book) (d : Int) : AWP Try.prog ⟨none, 0⟩ (rg 5) ⟨td b d, h0 b ++ [.maps [] [], .cells [.map 3]], []⟩ fun e T => e = .normal ∧ T = ⟨((td b d).set 9 (.ref 5 0 0)).set 10 (.ref 6 0 0), h5 b, []⟩ := by
  refine AWP.region ?_
  have e : List.range (ops25 5).size = [0, 1] ++ [] := by kernel_rfl
  rw [e]
  exact AOps.run [0, 1] [] _ ⟨((td b d).set 9 (.ref 5 0 0)).set 10 (.ref 6 0 0), h5 b, []⟩ true (by kernel_rfl) none68 (AOps.nil ⟨rfl, rfl⟩)
abbrev te (b : Book) (d : Int) : List V := ((td b d).set 9 (.ref 5 0 0)).set 10 (.ref 6 0 0)
theorem reg6 (b : Book) (d : Int) : AWP Try.prog ⟨none, 0⟩ (rg 6) ⟨te b d, h5 b, []⟩ fun e T => e = .normal ∧ T = ⟨((te b d).set 26 (lk (lookOf b d))).set 27 (fE b d), h5 b, []⟩ := by
  refine AWP.region ?_
  have e : List.range (ops25 6).size = [0] ++ [1] := by kernel_rfl
  rw [e]
  refine AOps.run [0] [1] _ ⟨(te b d).set 26 (lk (lookOf b d)), h5 b, []⟩ true (by kernel_rfl) none68 ?_
  refine AOps.call_snap (o := (ops25 6).getD 1 default) (fo := .func 40) (args := #[.tmp 26]) (ts := #[56]) (g := 40) (first := []) (caps := []) (us := [lk (lookOf b d)]) (by kernel_rfl) (by kernel_rfl) (by kernel_rfl) (by kernel_rfl) (by kernel_rfl)
    (fun j hj => ((snap_sound (h5 b) 4).2 [lk (lookOf b d)] [lk (lookOf b d)] (by kernel_rfl)).2 j hj) (c78 b d) (.inl ⟨rfl, by kernel_rfl⟩) fun v hv => ?_
  subst hv
  exact AOps.nil ⟨rfl, rfl⟩
theorem HT0 (b : Book) : h5 b ++ List.replicate 61 .void = HT25 b [] := by kernel_rfl
theorem reg17 (b : Book) (ks : List Int) (vs : List V) (f : Nat → Option Sp) (s u : Sp) (seen : Array Nat) :
    AWP Try.prog ⟨none, 0⟩ (rg 17) ⟨tL, HL b ks vs f s u seen, [68]⟩ fun e T => e = .normal ∧ T = ⟨((tL.set 65 (.ref 5 0 2)).set 66 (iI s.met)).set 67 (.bool (s.met == 0)), HL b ks vs f s u seen, [68]⟩ := by
  refine AWP.region ?_
  have e : List.range (ops25 17).size = [0, 1, 2] ++ [] := by kernel_rfl
  rw [e]
  exact AOps.run [0, 1, 2] [] _ ⟨((tL.set 65 (.ref 5 0 2)).set 66 (iI s.met)).set 67 (.bool (s.met == 0)), HL b ks vs f s u seen, [68]⟩ true (by kernel_rfl) (mk68 (hl_mark _ _ _ _ _ _ _)) (AOps.nil ⟨rfl, rfl⟩)
abbrev sp2 (s : Sp) : List V := [iI s.lo, iI s.hi]
abbrev HZ (b : Book) (ks : List Int) (vs : List V) (f : Nat → Option Sp) (s u : Sp) (seen : Array Nat) : List Blk := ((HL b ks vs f s u seen).set 1 (.cells (sp2 s))).set 2 (.cells (sp2 u))
theorem reg19 (b : Book) (ks : List Int) (vs : List V) (f : Nat → Option Sp) (s u : Sp) (seen : Array Nat) :
    AWP Try.prog ⟨none, 0⟩ (rg 19) ⟨tL, HL b ks vs f s u seen, [68]⟩ fun e T => e = .normal ∧ T = ⟨((tL.set 70 (.agg (sp2 s))).set 71 (.agg (sp2 u))).set 6 (iI 0), HZ b ks vs f s u seen, [68]⟩ := by
  refine AWP.region ?_
  have e : List.range (ops25 19).size = [0] ++ ([1] ++ [2, 3, 4]) := by kernel_rfl
  rw [e]
  have sn : ∀ (i : Nat) (x : Sp), (HL b ks vs f s u seen)[i]? = some (.cells (tSp.cells x)) → Snap (HL b ks vs f s u seen) (.ref i 0 0) (.cref 3 fun q => (tSp.cells x).getD q uU) := fun i x hi =>
    Snap.ref hi (Nat.le_refl _) fun j hj => by
      rcases show j = 0 ∨ j = 1 ∨ j = 2 by omega with rfl | rfl | rfl
      · exact .imm rfl
      · exact .imm rfl
      · exact .imm rfl
  refine AOps.call_snap (o := (ops25 19).getD 0 default) (fo := .func 46) (args := #[.tmp 9]) (ts := #[116]) (g := 46) (first := []) (caps := []) (us := [.cref 3 fun q => (tSp.cells s).getD q uU]) (by kernel_rfl) (by kernel_rfl) (by kernel_rfl) (by kernel_rfl) (by kernel_rfl)
    (fun j hj => by
      obtain rfl : j = 0 := by simpa using hj
      exact sn 5 s rfl) (c80 s) (.inr fun v hv => by subst hv; rfl) fun v hv => ?_
  subst hv
  refine AOps.call_snap (o := (ops25 19).getD 1 default) (fo := .func 46) (args := #[.tmp 10]) (ts := #[116]) (g := 46) (first := []) (caps := []) (us := [.cref 3 fun q => (tSp.cells u).getD q uU]) (by kernel_rfl) (by kernel_rfl) (by kernel_rfl) (by kernel_rfl) (by kernel_rfl)
    (fun j hj => by
      obtain rfl : j = 0 := by simpa using hj
      exact sn 6 u rfl) (c80 u) (.inr fun v hv => by subst hv; rfl) fun v hv => ?_
  subst hv
  exact AOps.run [2, 3, 4] [] _ ⟨((tL.set 70 (.agg (sp2 s))).set 71 (.agg (sp2 u))).set 6 (iI 0), HZ b ks vs f s u seen, [68]⟩ true (by kernel_rfl) (mk68 (hl_mark _ _ _ _ _ _ _)) (AOps.nil ⟨rfl, rfl⟩)
theorem vis_ok {b : Book} {d : Int} (ha : askedR b d = 0) : ((agreeD b d).length = 0 → visR b d = (⟨0, 0⟩, ⟨0, 0⟩, 8)) ∧ (0 < (agreeD b d).length → visR b d = (spanR (agreeD b d) 0, spanR (agreeD b d) 1, 0)) := by
  refine ⟨fun h => ?_, fun h => ?_⟩
  · have e : explainedR b d (askedR b d) = ([], 8) := by unfold explainedR; rw [if_neg (fun q => q ha), if_pos h]
    unfold visR; rw [e]; rfl
  · have e : explainedR b d (askedR b d) = (agreeD b d, 0) := by unfold explainedR; rw [if_neg (fun q => q ha), if_neg (by omega)]
    unfold visR; rw [e, if_neg (fun q => q rfl)]
theorem c25o (b : Book) (d : Int) (ha : askedR b d = 0) : PC 24 [.agg (tBook.cells b), iI d] (· = .tuple [.agg (tSpan.cells (visR b d).1), .agg (tSpan.cells (visR b d).2.1), iI (visR b d).2.2]) := by
  obtain ⟨h, hd1, hd2, hday⟩ := asked_ok ha
  have hin := agreeD_in h hday
  have hl : ∀ u ∈ agreeD b d, 0 ≤ u.adults ∧ u.adults ≤ 60 := fun u hu => (hin u hu).2.2.1
  obtain ⟨hv0, hv1⟩ := vis_ok ha
  refine PCalls.of_body Try.func24 code25_eq (by kernel_rfl) ?_
  refine show AWP Try.prog ⟨none, 0⟩ code25 ⟨ta b d, [], []⟩ _ from ?_
  refine AWP.seq ((reg0 b d).mono fun e T hT => ?_)
  obtain ⟨rfl, rfl⟩ := hT
  refine AWP.forget (t := tb d) (by simp) (vle_leAll ?_) ?_
  · iterate 72 refine And.intro (by first | exact .inl rfl | exact .inr rfl) ?_
    exact True.intro
  refine AWP.seq ((reg1 b d ha).mono fun e T hT => ?_)
  obtain ⟨rfl, rfl⟩ := hT
  refine AWP.forget (t := tc b d) (by simp) (vle_leAll ?_) ?_
  · iterate 72 refine And.intro (by first | exact .inl rfl | exact .inr rfl) ?_
    exact True.intro
  refine AWP.seq (AWP.seq ((reg2 b d).mono fun e T hT => ?_))
  obtain ⟨rfl, rfl⟩ := hT
  refine AWP.cond (t := false) rfl (fun q => by cases q) fun _ => AWP.skip ?_
  refine AWP.forget (t := tc b d) (by simp) (vle_leAll ?_) ?_
  · iterate 72 refine And.intro (by first | exact .inl rfl | exact .inr rfl) ?_
    exact True.intro
  refine AWP.seq ((reg4 b d).mono fun e T hT => ?_)
  obtain ⟨rfl, rfl⟩ := hT
  refine AWP.seq ((reg5 b d).mono fun e T hT => ?_)
  obtain ⟨rfl, rfl⟩ := hT
  refine AWP.seq (AWP.seq ((reg6 b d).mono fun e T hT => ?_))
  obtain ⟨rfl, rfl⟩ := hT
  refine AWP.block (AWP.reserve 61 ?_)
  refine AWP.forget (t := t25 b d) (by simp) (vle_leAll ?_) ?_
  · iterate 72 refine And.intro (by first | exact .inl rfl | exact .inr rfl) ?_
    exact True.intro
  refine show AWP _ _ _ ⟨t25 b d, h5 b ++ List.replicate 61 .void, []⟩ _ from ?_
  rw [HT0]
  refine (range25 b d ha).mono fun e T hT => ?_
  obtain ⟨rfl, rfl⟩ := hT
  refine AWP.forget (t := tR) (by simp) (vle_leAll ?_) ?_
  · iterate 72 refine And.intro (by first | exact .inl rfl | exact .inr rfl) ?_
    exact True.intro
  generalize hL : agreeD b d = l at *
  refine AWP.seq (AWP.seq ((reg11 b _ _ _ 0 none).mono fun e T hT => ?_))
  obtain ⟨rfl, rfl⟩ := hT
  refine AWP.forget (t := tL) (by simp) (vle_leAll ?_) ?_
  · iterate 72 refine And.intro (by first | exact .inl rfl | exact .inr rfl) ?_
    exact True.intro
  refine (loop25_ok b l hl 0 none).mono fun e T hT => ?_
  obtain ⟨rfl, seen, hm, hdn, rfl⟩ := hT
  refine AWP.seq (AWP.seq ((reg17 b _ _ _ _ _ _).mono fun e T hT => ?_))
  obtain ⟨rfl, rfl⟩ := hT
  rcases Nat.eq_zero_or_pos l.length with q | q
  · obtain rfl := List.length_eq_zero_iff.1 q
    have hs0 : seen.toList = [] := by
      rw [List.eq_nil_iff_forall_not_mem]
      exact fun i hi => absurd (hm.2 i hi) (Nat.not_lt_zero _)
    have hz : (sumK [] seen.toList).met = 0 := by rw [sumK_met, hs0]; rfl
    rw [hv0 q]
    refine AWP.cond (t := true) (by show V.bool _ = _; rw [hz]; rfl) (fun _ => ?_) fun h => by cases h
    refine AWP.forget (t := (st25 b [] false false false).t) (by simp) (vle_leAll ?_) ?_
    · iterate 72 refine And.intro (by first | exact .inl rfl | exact .inr rfl) ?_
      exact True.intro
    refine AWP.seq ((ov25 b ((HL b (keysT []) (refsK (keysT [])) (spanA []) (sumK [] seen.toList) (sumU [] seen.toList) seen).drop 3) (by rw [List.getElem?_drop]; exact hl_mark _ _ _ _ _ _ _)).mono fun e T hT => ?_)
    obtain ⟨rfl, rfl⟩ := hT
    refine AWP.ret ⟨.inr rfl, by simp, .tuple [.agg [iI 0, iI 0], .agg [iI 0, iI 0], iI 8], _, by kernel_rfl, ((snap_sound _ 4).1 _ _ (by kernel_rfl)), rfl⟩
  · obtain ⟨e1, e2, e3⟩ := ends_done hl q hm hdn
    rw [hv1 q, ← e2, ← e3]
    generalize sumK l seen.toList = s at *
    generalize sumU l seen.toList = u at *
    refine AWP.cond (t := false) (by show V.bool _ = _; rw [beq_eq_false_iff_ne.2 e1]) (fun h => by cases h) fun _ => AWP.skip ?_
    refine AWP.forget (t := tL) (by simp) (vle_leAll ?_) ?_
    · iterate 72 refine And.intro (by first | exact .inl rfl | exact .inr rfl) ?_
      exact True.intro
    refine AWP.seq ((reg19 b _ _ _ s u seen).mono fun e T hT => ?_)
    obtain ⟨rfl, rfl⟩ := hT
    refine AWP.ret ⟨.inr rfl, by simp, .tuple [.agg (sp2 s), .agg (sp2 u), iI 0], _, by kernel_rfl, ((snap_sound _ 4).1 _ _ (by kernel_rfl)), rfl⟩
theorem c25 (b : Book) (d : Int) (hs : SmB b) : PC 24 [.agg (tBook.cells b), iI d] (· = .tuple [.agg (tSpan.cells (visR b d).1), .agg (tSpan.cells (visR b d).2.1), iI (visR b d).2.2]) := by
  by_cases ha : askedR b d = 0
  · exact c25o b d ha
  · exact c25e b d hs ha
end
def bkRooms : List Room := [⟨ByteArray.mk #[99, 104, 97, 109, 98, 101, 114], 6, 20⟩]
def bkDay0 : Day := ⟨[⟨ByteArray.mk #[112, 97, 114, 105, 115, 104], 27⟩], ⟨40, 2⟩, [⟨18, 3⟩], 408⟩
def bkDay1 : Day := ⟨[⟨ByteArray.mk #[110, 111, 114, 116, 104], 14⟩, ⟨ByteArray.mk #[115, 111, 117, 116, 104], 12⟩], ⟨30, 0⟩, [⟨25, 1⟩], 198⟩
def bkDay2 : Day := ⟨[], ⟨5, 0⟩, [⟨2, 0⟩], 114⟩
def bkDays : List Day := [bkDay0, bkDay1, bkDay2]
def bkB : Book := ⟨12, bkRooms, bkDays⟩
theorem bk_check : (bookCheck bkB).2.2 = 0 := by decide +kernel
theorem bk_school : schoolR bkB 27 = (150, 0) := by decide +kernel
theorem bk_together : togetherR bkB 1 = (150, 144, 0) := by decide +kernel
theorem bk_could0 : couldR bkB 0 = (⟨336, 450⟩, 0) := by kernel_rfl
theorem bk_could1 : couldR bkB 1 = (⟨0, 0⟩, 8) := by kernel_rfl
theorem bk_first : firstT bkB 0 = (⟨8, 7, [20]⟩, 9, 0) := by kernel_rfl
theorem bk_vis : visR bkB 0 = (⟨8, 12⟩, ⟨1, 7⟩, 0) := by kernel_rfl
theorem bk_room : roomR bkB 0 0 = (⟨18, 20⟩, 0) := by kernel_rfl
theorem bk_split : splitR bkB 0 = (fn4 96 42 150 120, 0) := by kernel_rfl
theorem bk_missed2 : missedR bkB 2 = (3, 0) := by kernel_rfl
theorem bk_missed1 : missedR bkB 1 = (0, 9) := by kernel_rfl
theorem bk_wrong : wrongR bkB = ([⟨1, 0⟩, ⟨2, -1⟩], 0) := by kernel_rfl
end Go.Proofs.Ytfgmckfomckliaa
