/-
  Part of the proof of DoorDays. Conditions: those that stand in each theorem.
-/
import Derived.Test.YtfgmckfomckliaaGreatChecked
import Derived.Test.YtfgmckfomckliaaGreatB13
set_option linter.unusedSimpArgs false
set_option linter.unusedVariables false
set_option maxRecDepth 100000
namespace Ab
theorem rev_take {τ υ : Type} (f : τ → υ) (d : τ) (l : List τ) (i : Nat) (hi : i < l.length) : ((l.take (i + 1)).map f).reverse = f (l.getD i d) :: ((l.take i).map f).reverse := by
  rw [List.take_succ_eq_append_getElem hi, List.map_append, List.reverse_append, List.map_singleton, List.reverse_singleton, List.singleton_append]
  simp only [List.getD_eq_getElem?_getD, List.getElem?_eq_getElem hi, Option.getD_some]
theorem rev_take' {τ υ : Type} (f : τ → υ) (d : τ) (l : List τ) (i : Nat) (hi : i < l.length) : ((l.map f).take (i + 1)).reverse = f (l.getD i d) :: ((l.map f).take i).reverse := by
  rw [← List.map_take, ← List.map_take]; exact rev_take f d l i hi
end Ab
namespace Go.Proofs.YtfgmckfomckliaaGreat
open Ab
def indexS (l : List ByteArray) (s : ByteArray) : Int := match firstI (fun o => same o s) 0 l with | some i => i | none => -1
def tstr : Ty ByteArray := ⟨1, fun s => [.str s], ByteArray.empty⟩
end Go.Proofs.YtfgmckfomckliaaGreat
namespace Go.Proofs.YtfgmckfomckliaaGreat
open Ab Go
noncomputable section
theorem map_take_len {τ υ : Type} (f : τ → υ) (l : List τ) (i : Nat) (hi : i ≤ l.length) : ((l.map f).take i).reverse.length = i := by simp; omega
inductive P91
  | e
inductive R91
  | r0 (r0 : Bool)
noncomputable def T91 (p0 : Int) (p1 : Int) (p2 : Int) : P91 → Tr P91 R91
  | .e => (.br (decide (p0 ≥ p1)) (.out (.r0 (decide (p0 ≤ p2)))) (.out (.r0 false)))
noncomputable def g91 (p0 : Int) (p1 : Int) (p2 : Int) : P91 → List Item × St
  | .e => bd Tryz.f91 [iI p0, iI p1, iI p2] 12
noncomputable def n91 : R91 → Exit × St
  | .r0 r0 => (.ret, ⟨mk 15 [(6, .bool r0)], [], []⟩)
noncomputable def v91 : R91 → V
  | .r0 r0 => .bool r0
theorem s91 (p0 : Int) (p1 : Int) (p2 : Int) : Sm 0 (g91 p0 p1 p2) (T91 p0 p1 p2) (n91)
  | .e => ⟨400, by kernel_rfl⟩
theorem q91 : ∀ r, bodyQ Tryz.prog Tryz.f91 (· = v91 r) (n91 r).1 (n91 r).2
  | .r0 r0 => bq (.bool r0) (by kernel_rfl)
theorem w91 (p0 : Int) (p1 : Int) (p2 : Int) {post : V → Prop} (h : WQ (T91 p0 p1 p2) v91 post .e) : PC 91 [iI p0, iI p1, iI p2] post :=
  PCalls.wq Tryz.func91 (s91 p0 p1 p2) q91 h
theorem c91 (n a b : Int) : PC 91 [iI n, iI a, iI b] (· = .bool (within n a b)) := by
  refine w91 _ _ _ (WP.step ?_)
  simp only [T91, Go, Ends', v91, Tr.sure, SS]
  repeat' with_reducible first | intro _ | apply And.intro
  all_goals simp [within, GE.ge, Go, Ends', v91, -List.getD_eq_getElem?_getD, *]
  all_goals simp_all [within]
inductive P58
  | e
inductive R58
  | r0 (r0 : Bool)
noncomputable def T58 (p0 : Int) (p1 : Int) (p2 : Int) : P58 → Tr P58 R58
  | .e => (.br (decide (p0 ≥ p1)) (.out (.r0 (decide (p0 ≤ p2)))) (.out (.r0 false)))
noncomputable def g58 (p0 : Int) (p1 : Int) (p2 : Int) : P58 → List Item × St
  | .e => bd Tryz.f58 [iI p0, iI p1, iI p2] 12
noncomputable def n58 : R58 → Exit × St
  | .r0 r0 => (.ret, ⟨mk 15 [(6, .bool r0)], [], []⟩)
noncomputable def v58 : R58 → V
  | .r0 r0 => .bool r0
theorem s58 (p0 : Int) (p1 : Int) (p2 : Int) : Sm 0 (g58 p0 p1 p2) (T58 p0 p1 p2) (n58)
  | .e => ⟨400, by kernel_rfl⟩
theorem q58 : ∀ r, bodyQ Tryz.prog Tryz.f58 (· = v58 r) (n58 r).1 (n58 r).2
  | .r0 r0 => bq (.bool r0) (by kernel_rfl)
theorem w58 (p0 : Int) (p1 : Int) (p2 : Int) {post : V → Prop} (h : WQ (T58 p0 p1 p2) v58 post .e) : PC 58 [iI p0, iI p1, iI p2] post :=
  PCalls.wq Tryz.func58 (s58 p0 p1 p2) q58 h
theorem c58 (n a b : Int) : PC 58 [iI n, iI a, iI b] (· = .bool (within n a b)) := by
  refine w58 _ _ _ (WP.step ?_)
  simp only [T58, Go, Ends', v58, Tr.sure, SS]
  repeat' with_reducible first | intro _ | apply And.intro
  all_goals simp [within, GE.ge, Go, Ends', v58, -List.getD_eq_getElem?_getD, *]
  all_goals simp_all [within]
theorem data_get (s : ByteArray) (i : Nat) : s.data.getD i 0 = s.data.toList.getD i 0 := by simp
theorem inR8 (c : UInt8) : inR .i64 (c.toNat : Int) = true := inR64 (by omega) (by have := c.toNat_lt; omega)
inductive P127
  | e
  | l0 (x0_3 : Int)
inductive R127
  | r0 (r0 : Bool)
noncomputable def T127 (p0 : ByteArray) : P127 → Tr P127 R127
  | .e => (.br ((p0.size : Int) == (0 : Int)) (.lit true (.out (.r0 false))) (.br (decide ((p0.size : Int) > (16 : Int))) (.out (.r0 false)) (.go (.l0 0))))
  | .l0 x0_3 => let c1 := ((p0.data.getD (x0_3).toNat 0).toNat : Int); let c2 : Tr P127 R127 := .need (inR .i64 (x0_3 + (1 : Int))) (.go (.l0 (x0_3 + (1 : Int)))); let c3 := decide (0 ≤ x0_3) && decide (x0_3 < (p0.size : Int)); let c4 : Tr P127 R127 := .lit true (.lit true (.out (.r0 false))); let c5 := within c1 97 122; let c6 : Tr P127 R127 := .lit false (.lit false c2); (.br (decide (x0_3 < (p0.size : Int))) (.need c3 (.need (inR .i64 c1) (.call 91 [iI c1, iI 97, iI 122] (.bool c5) true true (.need c3 (.need (inR .i64 c1) (.call 91 [iI c1, iI 48, iI 57] (.bool (within c1 48 57)) true true (.br (within c1 48 57) (.br (!c5) (.br (x0_3 == (0 : Int)) c4 (.lit true (.lit false c2))) c6) (.need c3 (.br (!c5) (.br (x0_3 == (0 : Int)) c4 (.lit true (.br (!(c1 == (46 : Int))) (.out (.r0 false)) c2))) c6))))))))) (.out (.r0 true)))
noncomputable def g127 (p0 : ByteArray) : P127 → List Item × St
  | .e => bd Tryz.f127 [.str p0] 45
  | .l0 x0_3 => (cutOf Tryz.f127 0, ⟨mk 46 [(0, .str p0), (2, .bool false), (3, iI x0_3)], [], []⟩)
noncomputable def n127 : R127 → Exit × St
  | .r0 r0 => (.ret, ⟨mk 46 [(2, .bool r0)], [], []⟩)
noncomputable def v127 : R127 → V
  | .r0 r0 => .bool r0
theorem s127 (p0 : ByteArray) : Sm 0 (g127 p0) (T127 p0) (n127)
  | .e => ⟨400, by kernel_rfl⟩
  | .l0 _ => ⟨400, by kernel_rfl⟩
theorem q127 : ∀ r, bodyQ Tryz.prog Tryz.f127 (· = v127 r) (n127 r).1 (n127 r).2
  | .r0 r0 => bq (.bool r0) (by kernel_rfl)
theorem w127 (p0 : ByteArray) {post : V → Prop} (h : WQ (T127 p0) v127 post .e) : PC 127 [.str p0] post :=
  PCalls.wq Tryz.func127 (s127 p0) q127 h
theorem c127 (s : ByteArray) : PC 127 [.str s] (· = .bool (nameOk s)) := by
  refine w127 _ (WP.step ?_)
  simp only [T127, Tr.sure, Go, Ends', v127]
  refine ⟨fun h => ?_, fun h0 => ⟨fun h => ?_, fun h1 => ?_⟩⟩
  · simp at h; simp [nameOk, h]
  · simp at h; simp [nameOk]; omega
  simp only [beq_eq_false_iff_ne, ne_eq, decide_eq_false_iff_not, Int.not_lt, gt_iff_lt] at h0 h1
  have hs : s.size ≤ 16 := by omega
  have hn : nameOk s = nameFrom true s.data.toList := by
    have h0' : s.size ≠ 0 := by omega
    simp [nameOk, hs, h0']
  refine WP.count (fun i => .l0 i) rfl s.size (fun i => nameFrom true s.data.toList = nameFrom (i == 0) (s.data.toList.drop i)) rfl (fun i hi hI => ?_) fun hI => ?_
  · have hd := drop_cons 0 s.data.toList i hi
    have hr : inR .i64 ((i : Int) + 1) = true := inR64 (by omega) (by omega)
    have hc := inR8 (s.data.toList.getD i 0)
    rw [hd] at hI
    simp only [nameFrom] at hI
    generalize hg : s.data.toList.getD i 0 = c at *
    refine WP.once ?_
    simp only [T127, Tr.sure, SS, hi, data_get, hg]
    repeat' with_reducible first | intro _ | apply And.intro
    all_goals first | exact c91 _ _ _ | (simp [hr, hc, hI, hn, letter, other, Go, Ends', v127, -List.getD_eq_getElem?_getD, *]; done)
  · have he : nameFrom (s.size == 0) (s.data.toList.drop s.size) = true := by rw [← data_len, List.drop_length]; rfl
    refine WP.step ?_
    simp only [T127, Go, Ends', v127, Tr.sure, SS]
    repeat' with_reducible first | intro _ | apply And.intro
    all_goals simp [hn, hI, he, Go, Ends', v127, -List.getD_eq_getElem?_getD, *]
theorem tstr_zero : tstr.zero = ByteArray.empty := rfl
inductive P128
  | e
  | l0 (x0_5 : Int)
inductive R128
  | r0 (r0 : Int)
noncomputable def T128 (p0 : List ByteArray) (p1 : ByteArray) : P128 → Tr P128 R128
  | .e => (.go (.l0 0))
  | .l0 x0_5 => let c1 := x0_5 < (p0.length : Int); (.br (decide c1) (.need (decide (0 ≤ x0_5) && decide c1) (.br ((p0.getD (x0_5).toNat tstr.zero).toList == p1.toList) (.out (.r0 x0_5)) (.need (inR .i64 (x0_5 + (1 : Int))) (.go (.l0 (x0_5 + (1 : Int))))))) (.out (.r0 (-1))))
noncomputable def g128 (p0 : List ByteArray) (p1 : ByteArray) : P128 → List Item × St
  | .e => bd Tryz.f128 [tstr.lst p0, .str p1] 17
  | .l0 x0_5 => (cutOf Tryz.f128 0, ⟨mk 19 [(0, tstr.lst p0), (1, .str p1), (4, iI 0), (5, iI x0_5)], [], []⟩)
noncomputable def n128 : R128 → Exit × St
  | .r0 r0 => (.ret, ⟨mk 19 [(4, iI r0)], [], []⟩)
noncomputable def v128 : R128 → V
  | .r0 r0 => iI r0
theorem s128 (p0 : List ByteArray) (p1 : ByteArray) : Sm 0 (g128 p0 p1) (T128 p0 p1) (n128)
  | .e => ⟨400, by kernel_rfl⟩
  | .l0 _ => ⟨400, by kernel_rfl⟩
theorem q128 : ∀ r, bodyQ Tryz.prog Tryz.f128 (· = v128 r) (n128 r).1 (n128 r).2
  | .r0 r0 => bq (iI r0) (by kernel_rfl)
theorem w128 (p0 : List ByteArray) (p1 : ByteArray) {post : V → Prop} (h : WQ (T128 p0 p1) v128 post .e) : PC 128 [tstr.lst p0, .str p1] post :=
  PCalls.wq Tryz.func128 (s128 p0 p1) q128 h
theorem c128 (l : List ByteArray) (n : ByteArray) (h : l.length ≤ 4) : PC 128 [tstr.lst l, .str n] (· = iI (indexS l n)) := by
  refine w128 _ _ (WP.step ?_)
  simp only [T128, Go, Ends', v128, Tr.sure, SS]
  repeat' with_reducible first | intro _ | apply And.intro
  refine WP.findI (fun i => .l0 i) rfl l ByteArray.empty (fun o => same o n) (fun i hi => ?_) fun hI => ?_
  · have hr : inR .i64 ((i : Int) + 1) = true := inR64 (by omega) (by omega)
    refine WP.once ?_
    simp only [T128, Tr.sure, SS, hi]
    repeat' with_reducible first | intro _ | apply And.intro
    all_goals first | (simp [hr, same, tstr_zero, indexS, Go, Ends', v128, -List.getD_eq_getElem?_getD, *]; done) | (simp_all [hr, same, tstr_zero, indexS, Go, Ends', v128, -List.getD_eq_getElem?_getD]; done)
  · refine WP.step ?_
    simp only [T128, Go, Ends', v128, Tr.sure, SS]
    repeat' with_reducible first | intro _ | apply And.intro
    all_goals simp [hI, indexS, Go, Ends', v128, -List.getD_eq_getElem?_getD, *]
theorem indexS_ge (l : List ByteArray) (n : ByteArray) : (0 ≤ indexS l n) ↔ l.any (fun o => same o n) = true := by
  rw [← firstI_any _ l 0, indexS]
  cases firstI (fun o => same o n) 0 l <;> simp
inductive P101
  | e
inductive R101
  | r0 (r0 : Int)
noncomputable def T101 (p0 : ByteArray) (p1 : List ByteArray) : P101 → Tr P101 R101
  | .e => (.call 127 [.str p0] (.bool (nameOk p0)) true true (.br (!(nameOk p0)) (.out (.r0 6)) (.call 128 [tstr.lst p1, .str p0] (iI (indexS p1 p0)) true true (.br (decide ((indexS p1 p0) ≥ (0 : Int))) (.out (.r0 5)) (.out (.r0 0))))))
noncomputable def g101 (p0 : ByteArray) (p1 : List ByteArray) : P101 → List Item × St
  | .e => bd Tryz.f101 [.str p0, tstr.lst p1] 10
noncomputable def n101 : R101 → Exit × St
  | .r0 r0 => (.ret, ⟨mk 12 [(4, iI r0)], [], []⟩)
noncomputable def v101 : R101 → V
  | .r0 r0 => iI r0
theorem s101 (p0 : ByteArray) (p1 : List ByteArray) : Sm 0 (g101 p0 p1) (T101 p0 p1) (n101)
  | .e => ⟨400, by kernel_rfl⟩
theorem q101 : ∀ r, bodyQ Tryz.prog Tryz.f101 (· = v101 r) (n101 r).1 (n101 r).2
  | .r0 r0 => bq (iI r0) (by kernel_rfl)
theorem w101 (p0 : ByteArray) (p1 : List ByteArray) {post : V → Prop} (h : WQ (T101 p0 p1) v101 post .e) : PC 101 [.str p0, tstr.lst p1] post :=
  PCalls.wq Tryz.func101 (s101 p0 p1) q101 h
theorem c101 (n : ByteArray) (l : List ByteArray) (h : l.length ≤ 4) : PC 101 [.str n, tstr.lst l] (· = iI (newErr n l)) := by
  have hi := indexS_ge l n
  refine w101 _ _ (WP.step ?_)
  simp only [T101, Go, Ends', v101, Tr.sure, SS]
  repeat' with_reducible first | intro _ | apply And.intro
  all_goals first | exact c127 _ | exact c128 _ _ h | (simp [newErr, Go, Ends', v101, -List.getD_eq_getElem?_getD, *]; done) | (simp_all [newErr, Go, Ends', v101, -List.getD_eq_getElem?_getD]; done)
theorem c101r (n : ByteArray) (l : List ByteArray) (h : l.length ≤ 4) : PC 101 [.str n, .list 1 l.reverse.length (rowsRev tstr l.reverse)] (· = iI (newErr n l)) :=
  PCalls.arg (pre := [.str n]) (c101 n l h) (by have := VLe.rev tstr l.reverse; rwa [List.reverse_reverse] at this)
theorem less_end (a b : List Int) (h : a.length = 0 ∨ b.length = 0) : less a b = decide (a.length < b.length) := by
  cases a <;> cases b <;> simp_all [less]
theorem less_drop (a b : List Int) {i : Nat} (ha : i < a.length) (hb : i < b.length) : less (a.drop i) (b.drop i) = if a.getD i 0 = b.getD i 0 then less (a.drop (i + 1)) (b.drop (i + 1)) else decide (a.getD i 0 < b.getD i 0) := by
  rw [drop_cons 0 a i ha, drop_cons 0 b i hb]; rfl
inductive P41
  | e
  | l0 (x0_6 : Int)
inductive R41
  | r0 (r0 : Bool)
noncomputable def T41 (p0 : List Int) (p1 : List Int) : P41 → Tr P41 R41
  | .e => (.go (.l0 0))
  | .l0 x0_6 => let c1 := ((decide (0 ≤ x0_6) && decide (x0_6 < (p0.length : Int))) && ((decide (0 ≤ x0_6) && decide (x0_6 < (p1.length : Int))) && true)) && true; let c2 := p1.getD (x0_6).toNat tint.zero; let c3 := p0.getD (x0_6).toNat tint.zero; (.br (decide (x0_6 < (min (p0.length : Int) (p1.length : Int)))) (.front [] [] c1 true (.br (c3 != c2) (.front [] [] c1 true (.out (.r0 (decide (c3 < c2))))) (.need (inR .i64 (x0_6 + (1 : Int))) (.go (.l0 (x0_6 + (1 : Int))))))) (.out (.r0 (decide ((p0.length : Int) < (p1.length : Int))))))
noncomputable def g41 (p0 : List Int) (p1 : List Int) : P41 → List Item × St
  | .e => bd Tryz.f41 [tint.lst p0, tint.lst p1] 38
  | .l0 x0_6 => (cutOf Tryz.f41 0, ⟨mk 40 [(0, tint.lst p0), (1, tint.lst p1), (5, iI (min (p0.length : Int) (p1.length : Int))), (6, iI x0_6)], [], []⟩)
noncomputable def n41 : R41 → Exit × St
  | .r0 r0 => (.ret, ⟨mk 40 [(4, .bool r0)], [], []⟩)
noncomputable def v41 : R41 → V
  | .r0 r0 => .bool r0
theorem s41 (p0 : List Int) (p1 : List Int) : Sm 0 (g41 p0 p1) (T41 p0 p1) (n41)
  | .e => ⟨400, by kernel_rfl⟩
  | .l0 _ => ⟨400, by kernel_rfl⟩
theorem q41 : ∀ r, bodyQ Tryz.prog Tryz.f41 (· = v41 r) (n41 r).1 (n41 r).2
  | .r0 r0 => bq (.bool r0) (by kernel_rfl)
theorem w41 (p0 : List Int) (p1 : List Int) {post : V → Prop} (h : WQ (T41 p0 p1) v41 post .e) : PC 41 [tint.lst p0, tint.lst p1] post :=
  PCalls.wq Tryz.func41 (s41 p0 p1) q41 h
theorem e41 : ∀ xs w, (callFunc 41 xs).run Tryz.prog w = .ok (.enter 41 xs) w := PCalls.enters Tryz.func41 (c := Tryz.f41.body.getD .skip) (by kernel_rfl) (by kernel_rfl)
theorem c41 (a b : List Int) : PC 41 [tint.lst a, tint.lst b] (· = .bool (less a b)) := by
  refine PCalls.assume e41 0 (by simp) .list fun hl => ?_
  refine w41 _ _ (WP.step ?_)
  simp only [T41, Go, Ends', v41, Tr.sure, SS]
  repeat' with_reducible first | intro _ | apply And.intro
  refine WP.count (fun i => .l0 i) rfl (min a.length b.length) (fun i => less a b = less (a.drop i) (b.drop i)) rfl (fun i hi hI => ?_) fun hI => ?_
  · have hia : i < a.length := by omega
    have hib : i < b.length := by omega
    have hr := inRi hia hl
    have hd := less_drop a b hia hib
    have hi' : ((i : Nat) : Int) < min (a.length : Int) (b.length : Int) := by omega
    have hd1 : a.getD i 0 = b.getD i 0 → less a b = less (a.drop (i + 1)) (b.drop (i + 1)) := fun h => by rw [hI, hd, if_pos h]
    have hd2 : ¬ a.getD i 0 = b.getD i 0 → less a b = decide (a.getD i 0 < b.getD i 0) := fun h => by rw [hI, hd, if_neg h]
    clear hI hd
    refine WP.once ?_
    simp only [T41, Tr.sure, SS, hi', hia, hib, z1]
    repeat' with_reducible first | intro _ | apply And.intro
    all_goals simp [hr, Go, Ends', v41, -List.getD_eq_getElem?_getD, *]
    all_goals (right; simp only [Go, Ends', v41]; rw [hd2 (by assumption)]; rfl)
  · have hge : ¬ ((min a.length b.length : Nat) : Int) < min (a.length : Int) (b.length : Int) := by omega
    have he : less a b = decide ((a.length : Int) < (b.length : Int)) := by
      rw [hI, less_end _ _ (by simp only [List.length_drop]; omega)]
      simp only [List.length_drop]
      congr 1
      simp only [eq_iff_iff]; omega
    refine WP.step ?_
    simp only [T41, Go, Ends', v41, Tr.sure, SS, hge]
    repeat' with_reducible first | intro _ | apply And.intro
    all_goals simp [he, Go, Ends', v41, -List.getD_eq_getElem?_getD, *]
inductive P92
  | e
  | l0 (x0_5 : Int)
inductive R92
  | r0 (r0 : Bool)
noncomputable def T92 (p0 : List Int) (p1 : Int) : P92 → Tr P92 R92
  | .e => (.go (.l0 0))
  | .l0 x0_5 => let c1 := x0_5 < (p0.length : Int); (.br (decide c1) (.need (decide (0 ≤ x0_5) && decide c1) (.br ((p0.getD (x0_5).toNat tint.zero) == p1) (.out (.r0 true)) (.need (inR .i64 (x0_5 + (1 : Int))) (.go (.l0 (x0_5 + (1 : Int))))))) (.out (.r0 false)))
noncomputable def g92 (p0 : List Int) (p1 : Int) : P92 → List Item × St
  | .e => bd Tryz.f92 [tint.lst p0, iI p1] 16
  | .l0 x0_5 => (cutOf Tryz.f92 0, ⟨mk 18 [(0, tint.lst p0), (1, iI p1), (4, .bool false), (5, iI x0_5)], [], []⟩)
noncomputable def n92 : R92 → Exit × St
  | .r0 r0 => (.ret, ⟨mk 18 [(4, .bool r0)], [], []⟩)
noncomputable def v92 : R92 → V
  | .r0 r0 => .bool r0
theorem s92 (p0 : List Int) (p1 : Int) : Sm 0 (g92 p0 p1) (T92 p0 p1) (n92)
  | .e => ⟨400, by kernel_rfl⟩
  | .l0 _ => ⟨400, by kernel_rfl⟩
theorem q92 : ∀ r, bodyQ Tryz.prog Tryz.f92 (· = v92 r) (n92 r).1 (n92 r).2
  | .r0 r0 => bq (.bool r0) (by kernel_rfl)
theorem w92 (p0 : List Int) (p1 : Int) {post : V → Prop} (h : WQ (T92 p0 p1) v92 post .e) : PC 92 [tint.lst p0, iI p1] post :=
  PCalls.wq Tryz.func92 (s92 p0 p1) q92 h
theorem e92 : ∀ xs w, (callFunc 92 xs).run Tryz.prog w = .ok (.enter 92 xs) w := PCalls.enters Tryz.func92 (c := Tryz.f92.body.getD .skip) (by kernel_rfl) (by kernel_rfl)
theorem c92 (l : List Int) (n : Int) : PC 92 [tint.lst l, iI n] (· = .bool (hasN l n)) := by
  refine PCalls.assume e92 0 (by simp) .list fun hl => ?_
  refine w92 _ _ (WP.step ?_)
  simp only [T92, Go, Ends', v92, Tr.sure, SS]
  repeat' with_reducible first | intro _ | apply And.intro
  refine WP.findI (fun i => .l0 i) rfl l 0 (· == n) (fun i hi => ?_) fun hI => ?_
  · have hr := inRi hi hl
    have ha : firstI (· == n) 0 l = some i → l.any (· == n) = true := any_of_firstI
    refine WP.once ?_
    simp only [T92, Tr.sure, SS, hi, z1]
    repeat' with_reducible first | intro _ | apply And.intro
    all_goals first | (simp [hr, hasN, Go, Ends', v92, -List.getD_eq_getElem?_getD, *]; done) | (simp_all [hr, hasN, Go, Ends', v92, -List.getD_eq_getElem?_getD]; done)
  · have ha := any_of_none hI
    refine WP.step ?_
    simp only [T92, Go, Ends', v92, Tr.sure, SS, Int.lt_irrefl]
    repeat' with_reducible first | intro _ | apply And.intro
    all_goals simp [hasN, ha, Go, Ends', v92, -List.getD_eq_getElem?_getD, *]
def fewer (a b : List Int) : Bool := if a.length ≠ b.length then decide (a.length < b.length) else less a b
end
noncomputable section
inductive P59
  | e
  | l0 (x0_5 : Int) (a0_0 : List ByteArray)
inductive R59
  | r0 (r0 : Int) (r1 : Int)
noncomputable def T59 (l : List Room) : P59 → Tr P59 R59
  | .e => (.br (decide ((l.length : Int) > (3 : Int))) (.out (.r0 0 3)) (.wait 3 (.own 4 9 1 (.go (.l0 0 ([]))))))
  | .l0 x0_5 a0_0 => let c1 := l.getD (x0_5).toNat tRoom.zero; let c2 : Tr P59 R59 := .need (inR .i64 (x0_5 + (1 : Int))) (.go (.l0 (x0_5 + (1 : Int)) (c1.name :: a0_0))); let c3 := decide (0 ≤ x0_5) && decide (x0_5 < (l.length : Int)); let c4 := newErr (c1.name) a0_0.reverse; let c5 : Tr P59 R59 := .br ((7 : Int) != (0 : Int)) (.out (.r0 x0_5 7)) c2; let c6 : Tr P59 R59 := .br (c4 != (0 : Int)) (.out (.r0 x0_5 c4)) c2; (.br (decide (x0_5 < (l.length : Int))) (.need c3 (.call 101 [.str (c1.name), .list 1 a0_0.length (rowsRev tstr a0_0)] (iI c4) ((decide (a0_0.length ≤ a0_0.length)) && true) true (.need c3 (.need ((decide (a0_0.length = a0_0.length) && decide (a0_0.length + 1 ≤ 4294967296)) && decide (1 ≤ 1)) (.scal (fun _ => true) (.br (c4 == (0 : Int)) (.need c3 (.call 58 [iI (c1.more), iI 0, iI 20] (.bool (within (c1.more) 0 20)) true true (.br (!(within (c1.more) 0 20)) (.lit true (.lit true c5)) (.need c3 (.call 58 [iI (c1.full), iI 0, iI 60] (.bool (within (c1.full) 0 60)) true true (.lit true (.br (!(within (c1.full) 0 60)) c5 c6))))))) (.lit false (.lit false c6)))))))) (.out (.r0 0 0)))
noncomputable def g59 (l : List Room) : P59 → List Item × St
  | .e => bd Tryz.f59 [tRoom.lst l] 54
  | .l0 x0_5 a0_0 => (cutOf Tryz.f59 0, ⟨mk 55 [(0, tRoom.lst l), (4, .row 0 a0_0.length), (5, iI x0_5)], [.rows 9 1 a0_0.length (rowsRev tstr a0_0)], []⟩)
noncomputable def n59 : R59 → Exit × St
  | .r0 r0 r1 => (.ret, ⟨mk 55 [(2, iI r0), (3, iI r1)], [], []⟩)
noncomputable def v59 : R59 → V
  | .r0 r0 r1 => .tuple [iI r0, iI r1]
theorem s59 (l : List Room) : Sm 0 (g59 l) (T59 l) (n59)
  | .e => ⟨400, by kernel_rfl⟩
  | .l0 _ _ => ⟨400, by kernel_rfl⟩
theorem q59 : ∀ r, bodyQ Tryz.prog Tryz.f59 (· = v59 r) (n59 r).1 (n59 r).2
  | .r0 r0 r1 => bq (.tuple [iI r0, iI r1]) (by kernel_rfl)
theorem w59 (l : List Room) {post : V → Prop} (h : WQ (T59 l) v59 post .e) : PC 59 [tRoom.lst l] post :=
  PCalls.wq Tryz.func59 (s59 l) q59 h
theorem c59 (l : List Room) : PC 59 [tRoom.lst l] (· = .tuple [iI (roomsErr l).1, iI (roomsErr l).2]) := by
  refine w59 _ (WP.step ?_)
  simp only [T59, Go, Ends', v59, Tr.sure, SS]
  repeat' with_reducible first | intro _ | apply And.intro
  all_goals first | (simp [roomsErr, Go, Ends', v59, -List.getD_eq_getElem?_getD, *]; done) | skip
  rename_i h1
  have hm : l.length ≤ 3 := by omega
  refine WP.findE (fun i => .l0 i (((l.map (·.name)).take i).reverse)) rfl l zRoom (roomAt l) (fun i hi => ?_) fun hI => ?_
  · have hr : inR .i64 ((i : Int) + 1) = true := inR64 (by omega) (by omega)
    have hl := map_take_len (·.name) l i (by omega)
    have hl' : ((l.map (·.name)).take i).length ≤ 4 := by simp; omega
    have ht := rev_take' (·.name) zRoom l i hi
    have hb : i + 1 ≤ 4294967296 := by omega
    refine WP.once ?_
    simp only [T59, Tr.sure, SS, hi, z2, List.reverse_reverse]
    repeat' with_reducible first | intro _ | apply And.intro
    all_goals first | exact c101r _ _ hl' | exact c58 _ _ _ | (simp [hr, roomsErr, firstR, roomAt, ht, hb, hl, Go, Ends', v59, -List.getD_eq_getElem?_getD, *]; done) | (simp_all [hr, roomsErr, firstR, roomAt, ht, hb, hl, Go, Ends', v59, -List.getD_eq_getElem?_getD]; done) | (simp +contextual [hr, roomsErr, firstR, roomAt, ht, hb, hl, Go, Ends', v59, -List.getD_eq_getElem?_getD, *]; done)
  · refine WP.step ?_
    simp only [T59, Go, Ends', v59, Tr.sure, SS, z2]
    repeat' with_reducible first | intro _ | apply And.intro
    all_goals simp [roomsErr, firstR, hI, Go, Ends', v59, -List.getD_eq_getElem?_getD, *]
inductive P102
  | e
  | l0 (x0_4 : Int) (x0_5 : Int) (a0_0 : List ByteArray)
inductive R102
  | r0 (r0 : Int)
noncomputable def T102 (l : List School) : P102 → Tr P102 R102
  | .e => (.br (decide ((l.length : Int) > (3 : Int))) (.out (.r0 3)) (.wait 3 (.own 3 9 1 (.go (.l0 0 0 ([]))))))
  | .l0 x0_4 x0_5 a0_0 => let c3 := decide (0 ≤ x0_5) && decide (x0_5 < (l.length : Int)); let c4 := l.getD (x0_5).toNat tSchool.zero; let c1 : Tr P102 R102 := .need c3 (.need (inR .i64 (x0_4 + c4.children)) (.need (inR .i64 (x0_5 + (1 : Int))) (.go (.l0 (x0_4 + c4.children) (x0_5 + (1 : Int)) (c4.name :: a0_0))))); let c2 := newErr (c4.name) a0_0.reverse; let c5 : Tr P102 R102 := .br (c2 != (0 : Int)) (.out (.r0 c2)) c1; let c6 := within (c4.children) 1 60; (.br (decide (x0_5 < (l.length : Int))) (.need c3 (.call 101 [.str (c4.name), .list 1 a0_0.length (rowsRev tstr a0_0)] (iI c2) ((decide (a0_0.length ≤ a0_0.length)) && true) true (.need c3 (.need ((decide (a0_0.length = a0_0.length) && decide (a0_0.length + 1 ≤ 4294967296)) && decide (1 ≤ 1)) (.scal (fun _ => true) (.br (c2 == (0 : Int)) (.need c3 (.call 58 [iI (c4.children), iI 1, iI 60] (.bool c6) true true (.br (!c6) (.br ((7 : Int) != (0 : Int)) (.out (.r0 7)) c1) c5))) (.lit false c5))))))) (.br (decide (x0_4 > (60 : Int))) (.out (.r0 9)) (.out (.r0 0))))
noncomputable def g102 (l : List School) : P102 → List Item × St
  | .e => bd Tryz.f102 [tSchool.lst l] 53
  | .l0 x0_4 x0_5 a0_0 => (cutOf Tryz.f102 0, ⟨mk 54 [(0, tSchool.lst l), (3, .row 0 a0_0.length), (4, iI x0_4), (5, iI x0_5)], [.rows 9 1 a0_0.length (rowsRev tstr a0_0)], []⟩)
noncomputable def n102 : R102 → Exit × St
  | .r0 r0 => (.ret, ⟨mk 54 [(2, iI r0)], [], []⟩)
noncomputable def v102 : R102 → V
  | .r0 r0 => iI r0
theorem s102 (l : List School) : Sm 0 (g102 l) (T102 l) (n102)
  | .e => ⟨400, by kernel_rfl⟩
  | .l0 _ _ _ => ⟨400, by kernel_rfl⟩
theorem q102 : ∀ r, bodyQ Tryz.prog Tryz.f102 (· = v102 r) (n102 r).1 (n102 r).2
  | .r0 r0 => bq (iI r0) (by kernel_rfl)
theorem w102 (l : List School) {post : V → Prop} (h : WQ (T102 l) v102 post .e) : PC 102 [tSchool.lst l] post :=
  PCalls.wq Tryz.func102 (s102 l) q102 h
theorem c102 (l : List School) : PC 102 [tSchool.lst l] (· = iI (schoolsErr l)) := by
  refine w102 _ (WP.step ?_)
  simp only [T102, Go, Ends', v102, Tr.sure, SS]
  repeat' with_reducible first | intro _ | apply And.intro
  all_goals first | (simp [schoolsErr, Go, Ends', v102, -List.getD_eq_getElem?_getD, *]; done) | skip
  rename_i h1
  have hm : l.length ≤ 3 := by omega
  refine WP.findEI (fun i => .l0 (sumS l i) i (((l.map (·.name)).take i).reverse)) rfl l zSchool (schoolAt l) (fun i => 0 ≤ sumS l i ∧ sumS l i ≤ 60 * i) ⟨Int.le_refl _, Int.le_refl _⟩ (fun i hi hS => ?_) fun hI hS => ?_
  · have hr : inR .i64 ((i : Int) + 1) = true := inR64 (by omega) (by omega)
    have hl := map_take_len (·.name) l i (by omega)
    have hl' : ((l.map (·.name)).take i).length ≤ 4 := by simp; omega
    have ht := rev_take' (·.name) zSchool l i hi
    have hb : i + 1 ≤ 4294967296 := by omega
    rw [sumS_next]
    have hw : within (l.getD i zSchool).children 1 60 = true → inR .i64 (sumS l i + (l.getD i zSchool).children) = true ∧ 0 ≤ sumS l i + (l.getD i zSchool).children ∧ sumS l i + (l.getD i zSchool).children ≤ 60 * ((i : Int) + 1) := fun hw => by
      rw [within_iff] at hw
      exact ⟨inR64 (by omega) (by omega), by omega, by omega⟩
    refine WP.once ?_
    simp only [T102, Tr.sure, SS, hi, z3, List.reverse_reverse]
    repeat' with_reducible first | intro _ | apply And.intro
    all_goals first | exact c101r _ _ hl' | exact c58 _ _ _ | (simp [hr, schoolsErr, schoolAt, ht, hb, hl, Go, Ends', v102, -List.getD_eq_getElem?_getD, *]; done) | (simp_all [hr, schoolsErr, schoolAt, ht, hb, hl, Go, Ends', v102, -List.getD_eq_getElem?_getD]; done) | (simp +contextual [hr, schoolsErr, schoolAt, ht, hb, hl, Go, Ends', v102, -List.getD_eq_getElem?_getD, *]; done)
  · refine WP.step ?_
    simp only [T102, Go, Ends', v102, Tr.sure, SS, z3]
    repeat' with_reducible first | intro _ | apply And.intro
    all_goals simp [schoolsErr, hI, Go, Ends', v102, -List.getD_eq_getElem?_getD, *]
inductive P103
  | e
inductive R103
  | r0 (r0 : Bool)
noncomputable def T103 (c : Count) : P103 → Tr P103 R103
  | .e => (.call 58 [iI c.seen, iI 0, iI 60] (.bool (within c.seen 0 60)) true true (.br (within c.seen 0 60) (.call 58 [iI c.miss, iI 0, iI 5] (.bool (within c.miss 0 5)) true true (.out (.r0 (within c.miss 0 5)))) (.out (.r0 false))))
noncomputable def g103 (c : Count) : P103 → List Item × St
  | .e => bd Tryz.f103 [.agg [iI c.seen, iI c.miss]] 10
noncomputable def n103 : R103 → Exit × St
  | .r0 r0 => (.ret, ⟨mk 11 [(2, .bool r0)], [], []⟩)
noncomputable def v103 : R103 → V
  | .r0 r0 => .bool r0
theorem s103 (c : Count) : Sm 0 (g103 c) (T103 c) (n103)
  | .e => ⟨400, by kernel_rfl⟩
theorem q103 : ∀ r, bodyQ Tryz.prog Tryz.f103 (· = v103 r) (n103 r).1 (n103 r).2
  | .r0 r0 => bq (.bool r0) (by kernel_rfl)
theorem w103 (c : Count) {post : V → Prop} (h : WQ (T103 c) v103 post .e) : PC 103 [.agg [iI c.seen, iI c.miss]] post :=
  PCalls.wq Tryz.func103 (s103 c) q103 h
theorem c103 (c : Count) : PC 103 [.agg (tCount.cells c)] (· = .bool (countOk c)) := by
  refine w103 _ (WP.step ?_)
  simp only [T103, Go, Ends', v103, Tr.sure, SS]
  repeat' with_reducible first | intro _ | apply And.intro
  all_goals first | exact c58 _ _ _ | (simp [countOk, Go, Ends', v103, -List.getD_eq_getElem?_getD, *]; done)
inductive P60
  | e
  | l0 (x0_6 : Bool) (x0_7 : Int)
inductive R60
  | r0 (r0 : Int)
noncomputable def T60 (b : Book) (d : Day) : P60 → Tr P60 R60
  | .e => let c1 : Tr P60 R60 := .call 103 [.agg [iI d.door.seen, iI d.door.miss]] (.bool (countOk d.door)) true true (.br (countOk d.door) (.call 58 [iI d.taken, iI 0, iI 10000] (.bool (within d.taken 0 10000)) true true (.go (.l0 (within d.taken 0 10000) 0))) (.go (.l0 false 0))); let c2 := schoolsErr d.schools; let c3 : Tr P60 R60 := .br (c2 != (0 : Int)) (.out (.r0 c2)) c1; (.call 102 [tSchool.lst d.schools] (iI c2) true true (.br (c2 == (0 : Int)) (.br ((d.rooms.length : Int) != (b.rooms.length : Int)) (.br ((3 : Int) != (0 : Int)) (.out (.r0 3)) c1) c3) (.lit false c3)))
  | .l0 x0_6 x0_7 => let c1 := d.rooms.getD (x0_7).toNat tCount.zero; let c2 := x0_7 + (1 : Int); let c3 := x0_7 < (d.rooms.length : Int); (.br (decide c3) (.br x0_6 (.need (decide (0 ≤ x0_7) && decide c3) (.call 103 [.agg [iI (c1.seen), iI (c1.miss)]] (.bool (countOk c1)) true true (.need (inR .i64 c2) (.go (.l0 (countOk c1) c2))))) (.need (inR .i64 c2) (.go (.l0 false c2)))) (.br (!x0_6) (.out (.r0 7)) (.out (.r0 0))))
noncomputable def g60 (b : Book) (d : Day) : P60 → List Item × St
  | .e => bd Tryz.f60 [.agg (cC b), .agg [tSchool.lst d.schools, iI d.door.seen, iI d.door.miss, tCount.lst d.rooms, iI d.taken]] 49
  | .l0 x0_6 x0_7 => (cutOf Tryz.f60 0, ⟨mk 51 [(3, .ref 1 0 0), (6, .bool x0_6), (7, iI x0_7)], [.gone, .cells [tSchool.lst d.schools, iI d.door.seen, iI d.door.miss, tCount.lst d.rooms, iI d.taken]], []⟩)
noncomputable def n60 : R60 → Exit × St
  | .r0 r0 => (.ret, ⟨mk 51 [(4, iI r0)], [], []⟩)
noncomputable def v60 : R60 → V
  | .r0 r0 => iI r0
theorem s60 (b : Book) (d : Day) : Sm 0 (g60 b d) (T60 b d) (n60)
  | .e => ⟨400, by kernel_rfl⟩
  | .l0 _ _ => ⟨400, by kernel_rfl⟩
theorem q60 : ∀ r, bodyQ Tryz.prog Tryz.f60 (· = v60 r) (n60 r).1 (n60 r).2
  | .r0 r0 => bq (iI r0) (by kernel_rfl)
theorem w60 (b : Book) (d : Day) {post : V → Prop} (h : WQ (T60 b d) v60 post .e) : PC 60 [.agg (cC b), .agg [tSchool.lst d.schools, iI d.door.seen, iI d.door.miss, tCount.lst d.rooms, iI d.taken]] post :=
  PCalls.wq Tryz.func60 (s60 b d) q60 h
theorem c60 (b : Book) (d : Day) (h : b.rooms.length ≤ 3) : PC 60 [.agg (tBook.cells b), .agg (tDay.cells d)] (· = iI (dayErr b d)) := by
  have hmain : ¬ schoolsErr d.schools ≠ 0 → (d.rooms.length : Int) = b.rooms.length → WP Tryz.prog ⟨none, 0⟩ (T60 b d) (Ends' fun r => v60 r = iI (dayErr b d)) (.l0 (countOk d.door && within d.taken 0 10000) 0) := fun h1 h2 => by
    refine WP.run (fun i => .l0 (countOk d.door && within d.taken 0 10000 && (d.rooms.take i).all countOk) i) (by simp) d.rooms.length (fun i hi => ?_) ?_
    · have hr : inR .i64 ((i : Int) + 1) = true := inR64 (by omega) (by omega)
      have hi' : (i : Int) < d.rooms.length := by omega
      have ht : (d.rooms.take (i + 1)).all countOk = ((d.rooms.take i).all countOk && countOk (d.rooms.getD i zCount)) := by rw [take_snoc zCount d.rooms i hi, List.all_append]; simp
      rw [ht, ← Bool.and_assoc]
      generalize (countOk d.door && within d.taken 0 10000 && (d.rooms.take i).all countOk) = A
      cases A with
      | true =>
        refine WP.once ?_
        simp only [T60, Tr.sure, SS, hi', hi, z5]
        repeat' with_reducible first | intro _ | apply And.intro
        all_goals first | exact (c103 _) | (simp [hr, Go, Ends', v60, -List.getD_eq_getElem?_getD, *]; done)
      | false =>
        refine WP.once ?_
        simp only [T60, Tr.sure, SS, hi', hi, z5]
        repeat' with_reducible first | intro _ | apply And.intro
        all_goals simp [hr, Go, Ends', v60, -List.getD_eq_getElem?_getD, *]
    · rw [List.take_length]
      have e : dayErr b d = if (countOk d.door && within d.taken 0 10000 && d.rooms.all countOk) = true then 0 else 7 := by
        unfold dayErr; rw [if_neg h1, if_neg (fun q => q h2)]
      generalize (countOk d.door && within d.taken 0 10000 && d.rooms.all countOk) = A at *
      cases A with
      | true =>
        refine WP.step ?_
        simp only [T60, Go, Ends', v60, Tr.sure, SS, Int.lt_irrefl]
        repeat' with_reducible first | intro _ | apply And.intro
        all_goals simp [e, Go, Ends', v60, -List.getD_eq_getElem?_getD, *]
      | false =>
        refine WP.step ?_
        simp only [T60, Go, Ends', v60, Tr.sure, SS, Int.lt_irrefl]
        repeat' with_reducible first | intro _ | apply And.intro
        all_goals simp [e, Go, Ends', v60, -List.getD_eq_getElem?_getD, *]
  by_cases h1 : schoolsErr d.schools ≠ 0
  · have e : dayErr b d = schoolsErr d.schools := by unfold dayErr; rw [if_pos h1]
    refine w60 b d (WP.step ?_)
    simp only [T60, Go, Ends', v60, Tr.sure, SS]
    repeat' with_reducible first | intro _ | apply And.intro
    all_goals first | exact (c102 _) | exact (c103 _) | exact (c58 _ _ _) | (simp [e, Go, Ends', v60, -List.getD_eq_getElem?_getD, *]; done) | (simp_all [e, Go, Ends', v60, -List.getD_eq_getElem?_getD]; done)
  · by_cases h2 : (d.rooms.length : Int) = b.rooms.length
    · have hm := hmain h1 h2
      have h1' := Decidable.not_not.1 h1
      cases hc : countOk d.door with
      | true =>
        rw [hc, Bool.true_and] at hm
        refine w60 b d (WP.step ?_)
        simp only [T60, Go, Ends', v60, Tr.sure, SS]
        repeat' with_reducible first | intro _ | apply And.intro
        all_goals first | exact (c102 _) | exact (c103 _) | exact (c58 _ _ _) | exact hm | (simp_all [hc, h1', h2, Go, Ends', v60, -List.getD_eq_getElem?_getD]; done)
      | false =>
        rw [hc, Bool.false_and] at hm
        refine w60 b d (WP.step ?_)
        simp only [T60, Go, Ends', v60, Tr.sure, SS]
        repeat' with_reducible first | intro _ | apply And.intro
        all_goals first | exact (c102 _) | exact (c103 _) | exact (c58 _ _ _) | exact hm | (simp_all [hc, h1', h2, Go, Ends', v60, -List.getD_eq_getElem?_getD]; done)
    · have h1' := Decidable.not_not.1 h1
      have e : dayErr b d = 3 := by unfold dayErr; rw [if_neg h1, if_pos h2]
      refine w60 b d (WP.step ?_)
      simp only [T60, Go, Ends', v60, Tr.sure, SS]
      repeat' with_reducible first | intro _ | apply And.intro
      all_goals first | exact (c102 _) | exact (c103 _) | exact (c58 _ _ _) | (simp [e, h1', h2, Go, Ends', v60, -List.getD_eq_getElem?_getD, *]; done) | (simp_all [e, h1', h2, Go, Ends', v60, -List.getD_eq_getElem?_getD]; done)
inductive P14
  | e
  | l0 (x0_7 : Int)
inductive R14
  | r0 (r0 : Int) (r1 : Int) (r2 : Int)
noncomputable def T14 (b : Book) : P14 → Tr P14 R14
  | .e => let c1 := roomsErr b.rooms; (.call 58 [iI b.price, iI 2, iI 60] (.bool (within b.price 2 60)) true true (.br (!(within b.price 2 60)) (.out (.r0 1 0 7)) (.need (decide ((2 : Int) ≠ 0)) (.br ((b.price.tmod (2 : Int)) == (1 : Int)) (.out (.r0 1 0 2)) (.call 59 [tRoom.lst b.rooms] (.tuple [iI (c1.1), iI (c1.2)]) true true (.br (c1.2 != (0 : Int)) (.out (.r0 2 (c1.1) (c1.2))) (.br (decide ((b.days.length : Int) > (4 : Int))) (.out (.r0 3 0 3)) (.go (.l0 0)))))))))
  | .l0 x0_7 => let c1 := b.days.getD (x0_7).toNat tDay.zero; let c2 := x0_7 < (b.days.length : Int); (.br (decide c2) (.front [] [] (((decide (0 ≤ x0_7) && decide c2) && true) && true) true (.call 60 [.agg (cC b), .agg [tSchool.lst (c1.schools), iI (c1.door.seen), iI (c1.door.miss), tCount.lst (c1.rooms), iI (c1.taken)]] (iI (dayErr b c1)) true true (.br ((dayErr b c1) != (0 : Int)) (.out (.r0 3 x0_7 (dayErr b c1))) (.need (inR .i64 (x0_7 + (1 : Int))) (.go (.l0 (x0_7 + (1 : Int)))))))) (.out (.r0 0 0 0)))
noncomputable def g14 (b : Book) : P14 → List Item × St
  | .e => bd Tryz.f14 [.agg (cC b)] 47
  | .l0 x0_7 => (cutOf Tryz.f14 0, ⟨mk 48 [(1, .ref 0 0 0), (7, iI x0_7)], [.cells (cC b)], []⟩)
noncomputable def n14 : R14 → Exit × St
  | .r0 r0 r1 r2 => (.ret, ⟨mk 48 [(2, iI r0), (3, iI r1), (4, iI r2)], [], []⟩)
noncomputable def v14 : R14 → V
  | .r0 r0 r1 r2 => .tuple [iI r0, iI r1, iI r2]
theorem s14 (b : Book) : Sm 0 (g14 b) (T14 b) (n14)
  | .e => ⟨400, by kernel_rfl⟩
  | .l0 _ => ⟨400, by kernel_rfl⟩
theorem q14 : ∀ r, bodyQ Tryz.prog Tryz.f14 (· = v14 r) (n14 r).1 (n14 r).2
  | .r0 r0 r1 r2 => bq (.tuple [iI r0, iI r1, iI r2]) (by kernel_rfl)
theorem w14 (b : Book) {post : V → Prop} (h : WQ (T14 b) v14 post .e) : PC 14 [.agg (cC b)] post :=
  PCalls.wq Tryz.func14 (s14 b) q14 h
theorem c14 (b : Book) : PC 14 [.agg (tBook.cells b)] (· = .tuple [iI (bookCheck b).1, iI (bookCheck b).2.1, iI (bookCheck b).2.2]) := by
  refine w14 _ (WP.step ?_)
  simp only [T14, Go, Ends', v14, Tr.sure, SS]
  repeat' with_reducible first | intro _ | apply And.intro
  all_goals first | exact c58 _ _ _ | exact c59 _ | (simp [bookCheck, Go, Ends', v14, -List.getD_eq_getElem?_getD, *]; done) | skip
  rename_i h1 h2 h3 h4 h5
  have h6 := (okRooms h4).1
  refine WP.findE (fun i => .l0 i) rfl b.days tDay.zero (fun _ d => dayErr b d) (fun i hi => ?_) fun hI => ?_
  · have hr : inR .i64 ((i : Int) + 1) = true := inR64 (by omega) (by omega)
    refine WP.once ?_
    simp only [T14, Tr.sure, SS, hi]
    repeat' with_reducible first | intro _ | apply And.intro
    all_goals first | exact c60 _ _ h6 | (simp [hr, bookCheck, Go, Ends', v14, -List.getD_eq_getElem?_getD, *]; done) | (simp +contextual [hr, bookCheck, Go, Ends', v14, -List.getD_eq_getElem?_getD, *]; done)
  · refine WP.step ?_
    simp only [T14, Go, Ends', v14, Tr.sure, SS]
    repeat' with_reducible first | intro _ | apply And.intro
    all_goals simp [bookCheck, hI, Go, Ends', v14, -List.getD_eq_getElem?_getD, *]
end
noncomputable section
theorem tel_one (n : Int) {r j : Nat} (hr : r < 1) (hj : j < 1) : VLe (litC 1 1 [iI n] r j) (rowsRev tint [n] r j) := by
  obtain rfl : r = 0 := by omega
  obtain rfl : j = 0 := by omega
  exact VLe.refl _
inductive P48
  | e
  | l0 (x0_4 : Int) (a0_1 : List Int)
inductive R48
  | r0 (r0 : List Int)
noncomputable def T48 (b : Book) : P48 → Tr P48 R48
  | .e => (.wait 8 (.telb 1 1 1 (litC 1 1 [iI (-1)]) (rowsRev tint ([(-1)])) (.go (.l0 0 ([(-1)])))))
  | .l0 x0_4 a0_1 => let c1 := (decide (a0_1.length = a0_1.length) && decide (a0_1.length + 1 ≤ 4294967296)) && decide (1 ≤ 1); (.br (decide (x0_4 < (b.rooms.length : Int))) (.need c1 (.scal (fun _ => true) (.need (inR .i64 (x0_4 + (1 : Int))) (.telb 2 1 1 (litC 1 1 [iI x0_4]) (rowsRev tint ([x0_4])) (.go (.l0 (x0_4 + (1 : Int)) (x0_4 :: a0_1))))))) (.need c1 (.scal (fun _ => true) (.out (.r0 (3 :: a0_1))))))
noncomputable def g48 (b : Book) : P48 → List Item × St
  | .e => bd Tryz.f48 [.agg (cC b)] 19
  | .l0 x0_4 a0_1 => (cutOf Tryz.f48 0, ⟨mk 20 [(1, .ref 0 0 0), (3, .row 1 a0_1.length), (4, iI x0_4)], [.cells (cC b), .rows 3 1 a0_1.length (rowsRev tint a0_1)], []⟩)
noncomputable def n48 : R48 → Exit × St
  | .r0 r0 => (.ret, ⟨mk 20 [(2, .row 1 r0.length)], [.gone, .rows 3 1 r0.length (rowsRev tint r0)], []⟩)
noncomputable def v48 : R48 → V
  | .r0 r0 => tint.lst r0.reverse
theorem s48 (b : Book) : Sm 0 (g48 b) (T48 b) (n48)
  | .e => ⟨400, by kernel_rfl⟩
  | .l0 _ _ => ⟨400, by kernel_rfl⟩
theorem q48 : ∀ r, bodyQ Tryz.prog Tryz.f48 (· = v48 r) (n48 r).1 (n48 r).2
  | .r0 r0 => ⟨.inr rfl, by simp [n48], (.row 1 r0.length), (tint.lst r0.reverse), by kernel_rfl, (.weak (.row rfl (Nat.le_refl _)) (VLe.rev tint r0)), rfl⟩
theorem w48 (b : Book) {post : V → Prop} (h : WQ (T48 b) v48 post .e) : PC 48 [.agg (cC b)] post :=
  PCalls.wq Tryz.func48 (s48 b) q48 h
theorem c48 (b : Book) (h : OkBook b) : PC 48 [.agg (tBook.cells b)] (· = tint.lst (entriesR b)) := by
  have h3 := h.nr
  have hmain : WP Tryz.prog ⟨none, 0⟩ (T48 b) (Ends' fun r => v48 r = tint.lst (entriesR b)) (.l0 0 [-1]) := by
   refine WP.run (fun i => .l0 (i : Int) (((List.range i).map fun (k : Nat) => (k : Int)).reverse ++ [-1])) rfl b.rooms.length (fun i hi => ?_) ?_
   · have hr : inR .i64 ((i : Int) + 1) = true := inR64 (by omega) (by omega)
     have hi' : (i : Int) < b.rooms.length := by omega
     have hn : ((List.range (i + 1)).map fun (k : Nat) => (k : Int)).reverse ++ [-1] = (i : Int) :: (((List.range i).map fun (k : Nat) => (k : Int)).reverse ++ [-1]) := by simp [List.range_succ]
     rw [hn]
     have hl : (((List.range i).map fun (k : Nat) => (k : Int)).reverse ++ [-1] : List Int).length + 1 ≤ 4294967296 := by simp; omega
     generalize ((List.range i).map fun (k : Nat) => (k : Int)).reverse ++ [-1] = B at *
     refine WP.once ?_
     simp only [T48, Tr.sure, SS, hi']
     repeat' with_reducible first | intro _ | apply And.intro
     all_goals first | exact (by with_reducible exact tel_one _ ‹_› ‹_›) | (simp [hr, hl, Go, Ends', v48, -List.getD_eq_getElem?_getD, *]; done)
   · have hl : (((List.range b.rooms.length).map fun (k : Nat) => (k : Int)).reverse ++ [-1] : List Int).length + 1 ≤ 4294967296 := by simp; omega
     have he : (3 :: (((List.range b.rooms.length).map fun (k : Nat) => (k : Int)).reverse ++ [-1] : List Int)).reverse = entriesR b := by simp [entriesR]
     generalize ((List.range b.rooms.length).map fun (k : Nat) => (k : Int)).reverse ++ [-1] = B at *
     refine WP.step ?_
     simp only [T48, Go, Ends', v48, Tr.sure, SS, Int.lt_irrefl]
     repeat' with_reducible first | intro _ | apply And.intro
     all_goals simp [hl, he, Go, Ends', v48, -List.getD_eq_getElem?_getD, *]
  refine w48 b (WP.step ?_)
  simp only [T48, Go, Ends', v48, Tr.sure, SS]
  repeat' with_reducible first | intro _ | apply And.intro
  all_goals first | exact (by with_reducible exact tel_one _ ‹_› ‹_›) | exact hmain
end
noncomputable section
theorem first_how (b : Book) (d : Int) : (∃ f, firstT b d = (zTruth, 0, f) ∧ f ≠ 0 ∧ (askedR b d = 0 → f = 8 ∧ (agreeD b d).length = 0)) ∨ (askedR b d = 0 ∧ 0 < (agreeD b d).length ∧ firstT b d = (bestD (agreeD b d), ((agreeD b d).length : Int), 0)) := by
  by_cases ha : askedR b d = 0
  · by_cases hz : (agreeD b d).length = 0
    · have hx : explainedR b d (askedR b d) = ([], 8) := by unfold explainedR; rw [if_neg (fun q => q ha), if_pos hz]
      left
      refine ⟨8, ?_, by decide, fun _ => ⟨rfl, hz⟩⟩
      unfold firstT; rw [hx]; rfl
    · have hx : explainedR b d (askedR b d) = (agreeD b d, 0) := by unfold explainedR; rw [if_neg (fun q => q ha), if_neg hz]
      right
      refine ⟨ha, by omega, ?_⟩
      unfold firstT; rw [hx]; rfl
  · have hx : explainedR b d (askedR b d) = ([], askedR b d) := by unfold explainedR; rw [if_pos ha]
    left
    refine ⟨askedR b d, ?_, ha, fun h => absurd h ha⟩
    unfold firstT; rw [hx, if_pos ha]; rfl
theorem first_len (b : Book) (d : Int) : (firstT b d).1.rooms.length ≤ 1000 := by
  rcases first_how b d with ⟨f, e, _⟩ | ⟨ha, h0, e⟩
  · rw [e]; show (0 : Nat) ≤ 1000; decide
  · rw [e]
    obtain ⟨h, hd1, hd2, hday⟩ := asked_ok ha
    have h1 := (agreeD_in h hday _ (bestD_mem h0)).1
    have h2 := h.nr
    show (bestD (agreeD b d)).rooms.length ≤ 1000
    omega
theorem alike_self (t : Truth) : alikeR t t = true := by simp [alikeR, sameI]
end
noncomputable section
def validR (b : Book) : Bool := (bookCheck b).2.2 == 0
inductive P36
  | e
inductive R36
  | r0 (r0 : Bool)
noncomputable def T36 (b : Book) : P36 → Tr P36 R36
  | .e => let c1 := bookCheck b; (.call 14 [.agg (cC b)] (.tuple [iI (c1.1), iI (c1.2.1), iI (c1.2.2)]) true true (.out (.r0 (c1.2.2 == (0 : Int)))))
noncomputable def g36 (b : Book) : P36 → List Item × St
  | .e => bd Tryz.f36 [.agg (cC b)] 13
noncomputable def n36 : R36 → Exit × St
  | .r0 r0 => (.ret, ⟨mk 14 [(2, .bool r0)], [], []⟩)
noncomputable def v36 : R36 → V
  | .r0 r0 => .bool r0
theorem s36 (b : Book) : Sm 0 (g36 b) (T36 b) (n36)
  | .e => ⟨400, by kernel_rfl⟩
theorem q36 : ∀ r, bodyQ Tryz.prog Tryz.f36 (· = v36 r) (n36 r).1 (n36 r).2
  | .r0 r0 => bq (.bool r0) (by kernel_rfl)
theorem w36 (b : Book) {post : V → Prop} (h : WQ (T36 b) v36 post .e) : PC 36 [.agg (cC b)] post :=
  PCalls.wq Tryz.func36 (s36 b) q36 h
theorem c36 (b : Book) : PC 36 [.agg (tBook.cells b)] (· = .bool (validR b)) := by
  refine w36 b (WP.step ?_)
  simp only [T36, Go, Ends', v36, Tr.sure, SS]
  repeat' with_reducible first | intro _ | apply And.intro
  all_goals first | exact (c14 b) | (simp [validR, Go, Ends', v36, -List.getD_eq_getElem?_getD, *]; done)
def ofDay (d : Int) (l : List Entry) : List Int := (l.filter fun e => e.day == d).map fun e => e.of
inductive P40
  | e
  | l0 (x0_6 : Int) (a0_0 : List Int)
inductive R40
  | r0 (r0 : List Int)
noncomputable def T40 (l : List Entry) (d : Int) : P40 → Tr P40 R40
  | .e => (.wait 4 (.own 5 3 1 (.go (.l0 0 ([])))))
  | .l0 x0_6 a0_0 => let c1 := decide (0 ≤ x0_6) && decide (x0_6 < (l.length : Int)); let c2 := x0_6 + (1 : Int); let c3 := l.getD (x0_6).toNat tEntry.zero; (.br (decide (x0_6 < (l.length : Int))) (.need c1 (.br (c3.day == d) (.need c1 (.need ((decide (a0_0.length = a0_0.length) && decide (a0_0.length + 1 ≤ 4294967296)) && decide (1 ≤ 1)) (.scal (fun _ => true) (.need (inR .i64 c2) (.go (.l0 c2 (c3.of :: a0_0))))))) (.need (inR .i64 c2) (.go (.l0 c2 a0_0))))) (.out (.r0 a0_0)))
noncomputable def g40 (l : List Entry) (d : Int) : P40 → List Item × St
  | .e => bd Tryz.f40 [tEntry.lst l, iI d] 27
  | .l0 x0_6 a0_0 => (cutOf Tryz.f40 0, ⟨mk 29 [(0, tEntry.lst l), (1, iI d), (5, .row 0 a0_0.length), (6, iI x0_6)], [.rows 3 1 a0_0.length (rowsRev tint a0_0)], []⟩)
noncomputable def n40 : R40 → Exit × St
  | .r0 r0 => (.ret, ⟨mk 29 [(4, .row 0 r0.length)], [.rows 3 1 r0.length (rowsRev tint r0)], []⟩)
noncomputable def v40 : R40 → V
  | .r0 r0 => tint.lst r0.reverse
theorem s40 (l : List Entry) (d : Int) : Sm 0 (g40 l d) (T40 l d) (n40)
  | .e => ⟨400, by kernel_rfl⟩
  | .l0 _ _ => ⟨400, by kernel_rfl⟩
theorem q40 : ∀ r, bodyQ Tryz.prog Tryz.f40 (· = v40 r) (n40 r).1 (n40 r).2
  | .r0 r0 => ⟨.inr rfl, by simp [n40], (.row 0 r0.length), (tint.lst r0.reverse), by kernel_rfl, (.weak (.row rfl (Nat.le_refl _)) (VLe.rev tint r0)), rfl⟩
theorem w40 (l : List Entry) (d : Int) {post : V → Prop} (h : WQ (T40 l d) v40 post .e) : PC 40 [tEntry.lst l, iI d] post :=
  PCalls.wq Tryz.func40 (s40 l d) q40 h
theorem ofDay_next (d : Int) (l : List Entry) {i : Nat} (hi : i < l.length) : (ofDay d (l.take (i + 1))).reverse = if (l.getD i zEntry).day == d then (l.getD i zEntry).of :: (ofDay d (l.take i)).reverse else (ofDay d (l.take i)).reverse := by
  unfold ofDay
  rw [take_snoc zEntry l i hi, List.filter_append, List.map_append, List.reverse_append]
  cases h : (l.getD i zEntry).day == d
  · simp only [List.filter, h]; rfl
  · simp only [List.filter, h]; rfl
theorem c40 (l : List Entry) (d : Int) (hm : l.length ≤ 1000000) : PC 40 [tEntry.lst l, iI d] (· = tint.lst (ofDay d l)) := by
  refine w40 l d (WP.step ?_)
  simp only [T40, Go, Ends', v40, Tr.sure, SS]
  repeat' with_reducible first | intro _ | apply And.intro
  refine WP.run (fun i => .l0 (i : Int) (ofDay d (l.take i)).reverse) rfl l.length (fun i hi => ?_) ?_
  · have hr : inR .i64 ((i : Int) + 1) = true := inR64 (by omega) (by omega)
    have hi' : (i : Int) < l.length := by omega
    have hn := ofDay_next d l hi
    have hle : (ofDay d (l.take i)).reverse.length + 1 ≤ 4294967296 := by
      have h1 := List.length_filter_le (fun e : Entry => e.day == d) (l.take i)
      rw [List.length_reverse]; unfold ofDay; rw [List.length_map]; rw [List.length_take] at h1; omega
    generalize (ofDay d (l.take (i + 1))).reverse = B at *
    generalize (ofDay d (l.take i)).reverse = A at *
    generalize hx : l.getD i zEntry = x at *
    refine WP.once ?_
    simp only [T40, Tr.sure, SS, hi', hi, hx, z11]
    repeat' with_reducible first | intro _ | apply And.intro
    all_goals simp [hr, hle, hn, Go, Ends', v40, -List.getD_eq_getElem?_getD, *]
  · rw [List.take_length]
    refine WP.step ?_
    simp only [T40, Go, Ends', v40, Tr.sure, SS, Int.lt_irrefl]
    repeat' with_reducible first | intro _ | apply And.intro
    all_goals simp [Go, Ends', v40, -List.getD_eq_getElem?_getD, *]
end
noncomputable section
theorem getD_app_left (p : List Int) (n : Int) {k : Nat} (h : k < p.length) : (p ++ [n]).getD k 0 = p.getD k 0 := by
  rw [List.getD_eq_getElem?_getD, List.getElem?_append_left h, List.getD_eq_getElem?_getD]
theorem getD_app_last (p : List Int) (n : Int) : (p ++ [n]).getD p.length 0 = n := by
  rw [List.getD_eq_getElem?_getD, List.getElem?_append_right (Nat.le_refl _), Nat.sub_self]; rfl
theorem mem_roomsN {b : Book} {D : Day} {all : Int} {off : List Int} : ∀ (i : Nat) (l : List Int), l ∈ roomsN b D all off i ↔ l.length = i ∧ ∀ k, k < i → (spanAt b D all off k).lo ≤ l.getD k 0 ∧ l.getD k 0 ≤ (spanAt b D all off k).hi
  | 0, l => by
    simp only [roomsN, List.mem_singleton]
    constructor
    · rintro rfl; exact ⟨rfl, fun k hk => absurd hk (Nat.not_lt_zero _)⟩
    · exact fun h => List.length_eq_zero_iff.1 h.1
  | i + 1, l => by
    simp only [roomsN, List.mem_flatMap, growL, List.mem_map, mem_rangeI]
    constructor
    · rintro ⟨p, hp, n, hn, rfl⟩
      obtain ⟨h1, h2⟩ := (mem_roomsN i p).1 hp
      refine ⟨by simp [h1], fun k hk => ?_⟩
      rcases Nat.lt_or_ge k i with q | q
      · rw [getD_app_left p n (by omega)]; exact h2 k q
      · obtain rfl : k = p.length := by omega
        rw [getD_app_last, h1]; exact hn
    · rintro ⟨h1, h2⟩
      refine ⟨l.take i, (mem_roomsN i _).2 ⟨by rw [List.length_take]; omega, fun k hk => ?_⟩, l.getD i 0, h2 i (by omega), ?_⟩
      · have := h2 k (by omega)
        rw [List.getD_eq_getElem?_getD, List.getElem?_take_of_lt hk, ← List.getD_eq_getElem?_getD]; exact this
      · rw [← take_snoc 0 l i (by omega), List.take_of_length_le (by omega)]
theorem extra_app (b : Book) (p : List Int) (n : Int) : ∀ i, i ≤ p.length → extraTo b (p ++ [n]) i = extraTo b p i
  | 0, _ => rfl
  | i + 1, h => by rw [extra_next, extra_next, extra_app b p n i (by omega), getD_app_left p n (by omega)]
theorem mem_extN {b : Book} {D : Day} {all : Int} {off : List Int} : ∀ (i : Nat) (v : Int), v ∈ extN b D all off i ↔ ∃ l ∈ roomsN b D all off i, extraTo b l i = v
  | 0, v => by
    simp only [extN, roomsN, List.mem_singleton]
    constructor
    · rintro rfl; exact ⟨[], rfl, rfl⟩
    · rintro ⟨l, rfl, rfl⟩; rfl
  | i + 1, v => by
    rw [extN, mem_addAll]
    simp only [List.not_mem_nil, false_or, List.mem_flatMap, candL, List.mem_map, mem_rangeI]
    constructor
    · rintro ⟨x, hx, n, hn, rfl⟩
      obtain ⟨p, hp, rfl⟩ := (mem_extN i x).1 hx
      have hl := ((mem_roomsN i p).1 hp).1
      refine ⟨p ++ [n], ?_, ?_⟩
      · simp only [roomsN, List.mem_flatMap, growL, List.mem_map, mem_rangeI]
        exact ⟨p, hp, n, hn, rfl⟩
      · rw [extra_next, extra_app b p n i (by omega)]
        subst hl
        rw [getD_app_last]
    · rintro ⟨l, hl, rfl⟩
      simp only [roomsN, List.mem_flatMap, growL, List.mem_map, mem_rangeI] at hl
      obtain ⟨p, hp, n, hn, rfl⟩ := hl
      have hl := ((mem_roomsN i p).1 hp).1
      refine ⟨extraTo b p i, (mem_extN i _).2 ⟨p, hp, rfl⟩, n, hn, ?_⟩
      rw [extra_next, extra_app b p n i (by omega)]
      subst hl
      rw [getD_app_last]
theorem mem_extras {b : Book} {d all : Int} {off : List Int} {v : Int} : v ∈ extrasR b d all off ↔ ∃ l ∈ inRoomsR b d all off, extraR b l = v := by
  unfold extrasR inRoomsR
  rw [mem_extN]
  constructor
  · rintro ⟨l, hl, e⟩
    refine ⟨l, hl, ?_⟩
    unfold extraR; rw [((mem_roomsN _ _).1 hl).1]; exact e
  · rintro ⟨l, hl, e⟩
    refine ⟨l, hl, ?_⟩
    unfold extraR at e; rw [((mem_roomsN _ _).1 hl).1] at e; exact e
theorem valid_ok {b : Book} (h : validR b = true) : OkBook b := okBook (by simpa [validR] using h)
theorem asked_in {b : Book} (h : validR b = true) {d : Int} (hd : 0 ≤ d ∧ d < b.days.length) : askedR b d = 0 := by
  have h0 : (bookCheck b).2.2 = 0 := by simpa [validR] using h
  unfold askedR
  rw [if_neg (by rw [h0]; simp), if_pos]
  unfold within
  simp only [Bool.and_eq_true, decide_eq_true_eq]; omega
theorem which_in {w : Int} (hw : 0 ≤ w) {n : Nat} (h : 0 < n) : 0 ≤ w.tmod (n : Int) ∧ w.tmod (n : Int) < (n : Int) := by
  rw [Int.tmod_eq_emod_of_nonneg hw]
  exact ⟨Int.emod_nonneg _ (by omega), Int.emod_lt_of_pos _ (by omega)⟩
end
noncomputable section
structure Asc (b : Book) (l : List Entry) : Prop where
  day : ∀ i : Nat, i < l.length → 0 ≤ (l.getD i zEntry).day ∧ (l.getD i zEntry).day < b.days.length
  of : ∀ i : Nat, i < l.length → hasN (entriesR b) (l.getD i zEntry).of = true
  less : ∀ i : Nat, i + 1 < l.length → less [(l.getD i zEntry).day, (l.getD i zEntry).of] [(l.getD (i + 1) zEntry).day, (l.getD (i + 1) zEntry).of] = true
theorem c41l (a b c d : Int) : PC 41 [.list 1 2 (litC 1 2 [iI a, iI b]), .list 1 2 (litC 1 2 [iI c, iI d])] (· = .bool (less [a, b] [c, d])) := by
  have h1 := PCalls.arg (pre := []) (c41 [a, b] [c, d]) (VLe.lit tint [a, b] rfl rfl (fun _ => rfl) : VLe (.list 1 2 (litC 1 2 [iI a, iI b])) _)
  exact PCalls.arg (pre := [.list 1 2 (litC 1 2 [iI a, iI b])]) h1 (VLe.lit tint [c, d] rfl rfl (fun _ => rfl))
inductive P46
  | e
  | l0 (x0_5 : Int)
inductive R46
  | r0 (r0 : Bool)
noncomputable def T46 (b : Book) (l : List Entry) : P46 → Tr P46 R46
  | .e => (.go (.l0 0))
  | .l0 x0_5 => let c1 := l.getD (x0_5).toNat tEntry.zero; let c2 := decide (0 ≤ x0_5) && decide (x0_5 < (l.length : Int)); let c3 := l.getD ((x0_5 - (1 : Int))).toNat tEntry.zero; let c4 := decide (0 ≤ (x0_5 - (1 : Int))) && decide ((x0_5 - (1 : Int)) < (l.length : Int)); let c5 := decide (c1.day < (0 : Int)); let c6 := decide (c1.day ≥ (b.days.length : Int)); let c7 : Tr P46 R46 := .need (inR .i64 (x0_5 + (1 : Int))) (.go (.l0 (x0_5 + (1 : Int)))); let c8 := less ([c3.day, c3.of] : List Int) ([c1.day, c1.of] : List Int); let c9 := decide (x0_5 > (0 : Int)); let c10 : Tr P46 R46 := .out (.r0 false); let c11 := entriesR b; let c12 := inR .i64 (x0_5 - (1 : Int)); (.br (decide (x0_5 < (l.length : Int))) (.br c5 (.front [] [(6, true)] ((c2 && ((c5 == true) && true)) && true) true (.lit true c10)) (.br c6 (.front [] [(6, false), (17, true)] ((c2 && ((c5 == false) && (c2 && ((c6 == true) && true)))) && true) true (.lit true c10)) (.front [(19, 48, [.agg (cC b)], tint.lst c11), (25, 92, [tint.lst c11, iI (c1.of)], .bool (hasN c11 (c1.of)))] [(6, false), (17, false)] ((c2 && ((c5 == false) && (c2 && ((c6 == false) && (c2 && true))))) && true) true (.br (!(hasN c11 (c1.of))) c10 (.br c9 (.front [(27, 41, [.list 1 2 (litC 1 2 [iI (c3.day), iI (c3.of)]), .list 1 2 (litC 1 2 [iI (c1.day), iI (c1.of)])], .bool c8)] [(2, true)] (((c9 == true) && (c12 && (c4 && (c12 && (c4 && (c2 && (c2 && true))))))) && true) true (.br (!c8) c10 c7)) (.front [] [(2, false)] (((c9 == false) && true) && true) true (.lit false c7))))))) (.out (.r0 true)))
noncomputable def g46 (b : Book) (l : List Entry) : P46 → List Item × St
  | .e => bd Tryz.f46 [.agg (cC b), tEntry.lst l] 68
  | .l0 x0_5 => (cutOf Tryz.f46 0, ⟨mk 70 [(1, tEntry.lst l), (2, .ref 0 0 0), (5, iI x0_5)], [.cells (cC b)], []⟩)
noncomputable def n46 : R46 → Exit × St
  | .r0 r0 => (.ret, ⟨mk 70 [(4, .bool r0)], [], []⟩)
noncomputable def v46 : R46 → V
  | .r0 r0 => .bool r0
theorem s46 (b : Book) (l : List Entry) : Sm 0 (g46 b l) (T46 b l) (n46)
  | .e => ⟨400, by kernel_rfl⟩
  | .l0 _ => ⟨400, by kernel_rfl⟩
theorem q46 : ∀ r, bodyQ Tryz.prog Tryz.f46 (· = v46 r) (n46 r).1 (n46 r).2
  | .r0 r0 => bq (.bool r0) (by kernel_rfl)
theorem w46 (b : Book) (l : List Entry) {post : V → Prop} (h : WQ (T46 b l) v46 post .e) : PC 46 [.agg (cC b), tEntry.lst l] post :=
  PCalls.wq Tryz.func46 (s46 b l) q46 h
theorem c46 (b : Book) (l : List Entry) (h : OkBook b) (ha : Asc b l) (hm : l.length ≤ 1000000) : PC 46 [.agg (tBook.cells b), tEntry.lst l] (· = .bool true) := by
  have k48 := c48 b h
  refine w46 b l (WP.step ?_)
  simp only [T46, Go, Ends', v46, Tr.sure, SS]
  repeat' with_reducible first | intro _ | apply And.intro
  refine WP.run (fun i => .l0 (i : Int)) rfl l.length (fun i hi => ?_) ?_
  · have hr : inR .i64 ((i : Int) + 1) = true := inR64 (by omega) (by omega)
    have hi' : (i : Int) < l.length := by omega
    have hd := ha.day i hi
    have ho := ha.of i hi
    have hd1 : ¬ (l.getD i zEntry).day < 0 := by omega
    have hd2 : ¬ (b.days.length : Int) ≤ (l.getD i zEntry).day := by omega
    cases i with
    | zero =>
      have hz : (((0 : Nat) : Int)) = 0 := rfl
      rw [hz] at hr hi'
      have i0 : Int.toNat 0 = 0 := rfl
      generalize hx : l.getD 0 zEntry = x at *
      refine WP.once ?_
      simp only [T46, Tr.sure, SS, hz, hi', i0, hx, z11]
      repeat' with_reducible first | intro _ | apply And.intro
      all_goals first | exact k48 | exact (c92 _ _) | (simp [hr, hd1, hd2, ho, Go, Ends', v46, -List.getD_eq_getElem?_getD, *]; done) | (simp_all [hr, hd1, hd2, ho, Go, Ends', v46, -List.getD_eq_getElem?_getD]; done)
    | succ j =>
      have hl := ha.less j hi
      have hz : (((j + 1 : Nat) : Int)) = (j : Int) + 1 := by omega
      have hj1 : (j : Int) + 1 - 1 = j := by omega
      have hj2 : ((j : Int) + 1).toNat = j + 1 := by omega
      have hj3 : ((j : Int)).toNat = j := by omega
      have hj4 : (0 : Int) < (j : Int) + 1 := by omega
      have hj5 : (0 : Int) ≤ (j : Int) := by omega
      have hj6 : (j : Int) < l.length := by omega
      have hj7 : (0 : Int) ≤ (j : Int) + 1 := by omega
      have r1 : inR .i64 ((j : Int) + 1 - 1) = true := inR64 (by omega) (by omega)
      rw [hj1] at r1
      rw [hz] at hr hi'
      generalize hx : l.getD (j + 1) zEntry = x at *
      generalize hy : l.getD j zEntry = y at *
      refine WP.once ?_
      simp only [T46, Tr.sure, SS, hz, hi', hj1, hj2, hj3, hj4, hj5, hj6, hj7, hx, hy, z11]
      repeat' with_reducible first | intro _ | apply And.intro
      all_goals first | exact k48 | exact (c92 _ _) | exact (c41l _ _ _ _) | (simp [hr, hd1, hd2, ho, hl, r1, Go, Ends', v46, -List.getD_eq_getElem?_getD, *]; done) | (simp_all [hr, hd1, hd2, ho, hl, r1, Go, Ends', v46, -List.getD_eq_getElem?_getD]; done)
  · refine WP.step ?_
    simp only [T46, Go, Ends', v46, Tr.sure, SS, Int.lt_irrefl]
    repeat' with_reducible first | intro _ | apply And.intro
end
noncomputable section
def offsN (n : Nat) : List (List Int) := (allP ((n + 2 : Nat) : Int) (n + 2)).map (offN n) ++ [entriesN n]
def okOff (n : Nat) (o : List Int) : Bool := o.all (fun x => hasN (entriesN n) x) && decide (o.Pairwise (· < ·)) && decide (o.length ≤ 5)
def ordOff (n : Nat) : Bool := decide ((offsN n).Pairwise fun x y => fewer y x = false) && (offsN n).all (fun x => !fewer x x)
theorem offs_ok : ∀ n : Nat, n < 4 → ∀ o ∈ offsN n, okOff n o = true := by decide +kernel
theorem offs_ord : ∀ n : Nat, n < 4 → ordOff n = true := by decide +kernel
theorem find_min {α : Type} {p : α → Bool} {r : α → α → Prop} : ∀ {L : List α}, L.Pairwise r → ∀ {x : α}, L.find? p = some x → p x = true ∧ x ∈ L ∧ ∀ y ∈ L, p y = true → x = y ∨ r x y
  | [], _, x, h => by cases h
  | a :: L, hp, x, h => by
    rw [List.pairwise_cons] at hp
    by_cases ha : p a = true
    · rw [List.find?_cons_of_pos ha] at h
      cases h
      refine ⟨ha, List.mem_cons_self, fun y hy _ => ?_⟩
      rcases List.mem_cons.1 hy with q | q
      · exact .inl q.symm
      · exact .inr (hp.1 y q)
    · rw [List.find?_cons_of_neg ha] at h
      obtain ⟨h1, h2, h3⟩ := find_min hp.2 h
      refine ⟨h1, List.mem_cons_of_mem _ h2, fun y hy hpy => ?_⟩
      rcases List.mem_cons.1 hy with q | q
      · subst q; exact absurd hpy ha
      · exact h3 y q hpy
theorem explains_all {b : Book} {d : Int} (h : OkBook b) (hd : OkDay b (dayOf b d)) : explainsR b d (entriesR b) = true := by
  have hnr := h.nr
  have hpu := pupils_in hd
  have has : ∀ x, x ∈ entriesR b → hasN (entriesR b) x = true := fun x hx => hasN_iff.2 hx
  have h1 : hasN (entriesR b) (-1) = true := has _ (by simp [entriesR])
  have h3 : hasN (entriesR b) 3 = true := has _ (by simp [entriesR])
  have hr : ∀ i : Nat, i < b.rooms.length → hasN (entriesR b) (i : Int) = true := fun i hi => has _ (by
    unfold entriesR
    exact List.mem_append_left _ (List.mem_cons_of_mem _ (List.mem_map.2 ⟨i, List.mem_range.2 hi, rfl⟩)))
  have hdo : doorO b d (entriesR b) = ⟨0, 60⟩ := by unfold doorO between; rw [if_pos h1]
  unfold explainsR
  rw [List.any_eq_true]
  refine ⟨60, mem_rangeI.2 ⟨?_, ?_⟩, ?_⟩
  · unfold firstO; rw [hdo]; show max 0 (pupilsD b d) ≤ 60; omega
  · rw [hdo]; exact Int.le_refl _
  · unfold explAt
    rw [h3, Bool.and_true, Bool.or_eq_true]
    refine .inl (decide_eq_true ?_)
    have hm : extraR b (List.replicate b.rooms.length 0) ∈ extrasR b d 60 (entriesR b) := mem_extras.2 ⟨_, (mem_roomsN _ _).2 ⟨by simp, fun k hk => ?_⟩, rfl⟩
    · exact List.length_pos_of_mem hm
    · have hf := (h.room _ (getD_mem zRoom b.rooms k hk)).2
      have e0 : (List.replicate b.rooms.length (0 : Int)).getD k 0 = 0 := by
        rw [List.getD_eq_getElem?_getD, List.getElem?_replicate, if_pos hk]; rfl
      have e1 : spanAt b (dayOf b d) 60 (entriesR b) k = ⟨0, min 60 (b.rooms.getD k zRoom).full⟩ := by unfold spanAt between; rw [if_pos (hr k hk)]
      rw [e0, e1]
      exact ⟨Int.le_refl _, by show 0 ≤ min 60 (b.rooms.getD k zRoom).full; omega⟩
theorem off_find {b : Book} {d : Int} (h : OkBook b) (hd : OkDay b (dayOf b d)) : (offsN b.rooms.length).find? (explainsR b d) = some (offR b d) := by
  unfold offsN
  rw [List.find?_append, List.find?_map]
  have hk : (entriesR b).length = b.rooms.length + 2 := entries_len b
  have e : offR b d = match (allP ((b.rooms.length + 2 : Nat) : Int) (b.rooms.length + 2)).find? (explainsR b d ∘ offN b.rooms.length) with
    | some l => offN b.rooms.length l
    | none => entriesN b.rooms.length := by
    unfold offR; rw [hk]; rfl
  rw [e]
  cases hf : (allP ((b.rooms.length + 2 : Nat) : Int) (b.rooms.length + 2)).find? (explainsR b d ∘ offN b.rooms.length) with
  | some l => rfl
  | none =>
    have := explains_all h hd
    rw [entriesR_eq] at this
    simp [this]
theorem off_how {b : Book} {d : Int} (h : OkBook b) (hd : OkDay b (dayOf b d)) : explainsR b d (offR b d) = true ∧ offR b d ∈ offsN b.rooms.length ∧ ∀ o ∈ offsN b.rooms.length, explainsR b d o = true → fewer o (offR b d) = false := by
  have ho := offs_ord b.rooms.length (by have := h.nr; omega)
  unfold ordOff at ho
  rw [Bool.and_eq_true, decide_eq_true_eq, List.all_eq_true] at ho
  obtain ⟨h1, h2, h3⟩ := find_min ho.1 (off_find h hd)
  refine ⟨h1, h2, fun o hm hp => ?_⟩
  rcases h3 o hm hp with e | e
  · rw [← e]; have := ho.2 _ h2; simpa using this
  · exact e
theorem less_pair {a b c d : Int} : less [a, b] [c, d] = true ↔ a < c ∨ (a = c ∧ b < d) := by
  unfold less
  by_cases h : a = c
  · rw [if_pos h]
    unfold less
    by_cases h2 : b = d
    · rw [if_pos h2]; subst h; subst h2; simp [less]
    · rw [if_neg h2]; simp only [decide_eq_true_eq]; subst h; constructor
      · exact fun q => .inr ⟨rfl, q⟩
      · rintro (q | q)
        · omega
        · exact q.2
  · rw [if_neg h]; simp only [decide_eq_true_eq]; constructor
    · exact .inl
    · rintro (q | q)
      · exact q
      · exact absurd q.1 h
theorem ofDay_app (d : Int) (l m : List Entry) : ofDay d (l ++ m) = ofDay d l ++ ofDay d m := by unfold ofDay; rw [List.filter_append, List.map_append]
theorem ofDay_ent (d e : Int) (l : List Int) : ofDay d (entE e l) = if e = d then l else [] := by
  unfold ofDay entE
  rw [List.filter_map]
  by_cases h : e = d
  · subst h; rw [if_pos rfl]
    have : l.filter ((fun e_1 : Entry => e_1.day == e) ∘ fun o => (⟨e, o⟩ : Entry)) = l := List.filter_eq_self.2 fun x _ => by simp
    rw [this, List.map_map]
    exact List.map_id _
  · rw [if_neg h]
    have : l.filter ((fun e_1 : Entry => e_1.day == d) ∘ fun o => (⟨e, o⟩ : Entry)) = [] := List.filter_eq_nil_iff.2 fun x _ => by simpa using h
    rw [this]; rfl
theorem wrongAll_next (b : Book) (n : Nat) : wrongAll b (n + 1) = wrongAll b n ++ entE (n : Int) (offR b n) := by
  unfold wrongAll; rw [List.range_succ, List.flatMap_append]; simp
theorem ofDay_wrong (b : Book) : ∀ (n d : Nat), ofDay (d : Int) (wrongAll b n) = if d < n then offR b d else []
  | 0, d => rfl
  | n + 1, d => by
    rw [wrongAll_next, ofDay_app, ofDay_wrong b n d, ofDay_ent]
    by_cases h1 : d < n
    · rw [if_pos h1, if_neg (by omega), if_pos (by omega), List.append_nil]
    · rw [if_neg h1]
      by_cases h2 : n = d
      · subst h2; rw [if_pos rfl, if_pos (by omega), List.nil_append]
      · rw [if_neg (by omega), if_neg (by omega)]; rfl
theorem wrong_len {b : Book} (h : OkBook b) : ∀ n : Nat, (wrongAll b n).length ≤ 5 * n
  | 0 => Nat.le_refl _
  | n + 1 => by
    have h1 := wrong_len h n
    have h2 := off_len b n h
    rw [wrongAll_next, List.length_append]
    unfold entE; rw [List.length_map]; omega
theorem off_list {b : Book} {d : Int} (h : OkBook b) (hd : OkDay b (dayOf b d)) : (∀ x ∈ offR b d, hasN (entriesR b) x = true) ∧ (offR b d).Pairwise (· < ·) := by
  have := offs_ok b.rooms.length (by have := h.nr; omega) _ (off_how h hd).2.1
  unfold okOff at this
  rw [Bool.and_eq_true, Bool.and_eq_true, List.all_eq_true, decide_eq_true_eq] at this
  exact ⟨this.1.1, this.1.2⟩
theorem wrong_asc {b : Book} (h : OkBook b) : ∀ n : Nat, n ≤ b.days.length → (∀ e ∈ wrongAll b n, (0 ≤ e.day ∧ e.day < n) ∧ hasN (entriesR b) e.of = true) ∧ (wrongAll b n).Pairwise fun e f => less [e.day, e.of] [f.day, f.of] = true
  | 0, _ => ⟨fun e he => absurd he List.not_mem_nil, List.Pairwise.nil⟩
  | n + 1, hn => by
    obtain ⟨h1, h2⟩ := wrong_asc h n (by omega)
    have hd : OkDay b (dayOf b n) := h.day _ (getD_mem zDay b.days (n : Int).toNat (by omega))
    obtain ⟨h3, h4⟩ := off_list h hd
    rw [wrongAll_next]
    refine ⟨fun e he => ?_, ?_⟩
    · rcases List.mem_append.1 he with q | q
      · have := h1 e q; exact ⟨⟨this.1.1, by omega⟩, this.2⟩
      · obtain ⟨o, ho, rfl⟩ := List.mem_map.1 q
        exact ⟨⟨by show (0 : Int) ≤ (n : Int); omega, by show (n : Int) < ((n + 1 : Nat) : Int); omega⟩, h3 o ho⟩
    · rw [List.pairwise_append]
      refine ⟨h2, ?_, fun e he f hf => ?_⟩
      · unfold entE
        rw [List.pairwise_map]
        exact h4.imp fun q => less_pair.2 (.inr ⟨rfl, q⟩)
      · obtain ⟨o, ho, rfl⟩ := List.mem_map.1 hf
        exact less_pair.2 (.inl (h1 e he).1.2)
theorem asc_wrong {b : Book} (h : OkBook b) : Asc b (wrongAll b b.days.length) := by
  obtain ⟨h1, h2⟩ := wrong_asc h b.days.length (Nat.le_refl _)
  have mem : ∀ i : Nat, i < (wrongAll b b.days.length).length → (wrongAll b b.days.length).getD i zEntry ∈ wrongAll b b.days.length := fun i hi => getD_mem zEntry _ i hi
  refine ⟨fun i hi => (h1 _ (mem i hi)).1, fun i hi => (h1 _ (mem i hi)).2, fun i hi => ?_⟩
  have := List.pairwise_iff_getElem.1 h2 i (i + 1) (by omega) hi (by omega)
  rw [List.getD_eq_getElem?_getD, List.getElem?_eq_getElem (by omega), List.getD_eq_getElem?_getD, List.getElem?_eq_getElem hi]
  exact this
theorem wrong_ok {b : Book} (hv : validR b = true) : wrongR b = (wrongAll b b.days.length, 0) := by
  have h0 : (bookCheck b).2.2 = 0 := by simpa [validR] using hv
  unfold wrongR; rw [if_neg (by rw [h0]; simp)]
theorem wrong_no {b : Book} (hv : validR b = false) : wrongR b = ([], (bookCheck b).2.2) ∧ (bookCheck b).2.2 ≠ 0 := by
  have h0 : (bookCheck b).2.2 ≠ 0 := by simpa [validR] using hv
  unfold wrongR; rw [if_pos h0]; exact ⟨rfl, h0⟩
end
noncomputable section
def oneR (b : Book) (d : Int) : Book := ⟨b.price, b.rooms, (b.days.drop d.toNat).take 1⟩
theorem one_days {b : Book} {d : Int} (hd : 0 ≤ d ∧ d < b.days.length) : (oneR b d).days = [dayOf b d] := by
  unfold oneR dayOf
  rw [drop_cons zDay b.days d.toNat (by omega)]; rfl
theorem one_day {b : Book} {d : Int} (hd : 0 ≤ d ∧ d < b.days.length) : dayOf (oneR b d) 0 = dayOf b d := by
  unfold dayOf
  rw [one_days hd]; rfl
theorem one_check {b : Book} {d : Int} (hv : validR b = true) (hd : 0 ≤ d ∧ d < b.days.length) : validR (oneR b d) = true := by
  have h0 : (bookCheck b).2.2 = 0 := by simpa [validR] using hv
  have hdays := one_days hd
  have hmem : dayOf b d ∈ b.days := getD_mem zDay b.days d.toNat (by omega)
  have hp : (oneR b d).price = b.price := rfl
  have hr : (oneR b d).rooms = b.rooms := rfl
  have hnd := (valid_ok hv).nd
  unfold validR
  simp only [beq_iff_eq]
  simp only [bookCheck] at h0 ⊢
  rw [hp, hr]
  split at h0
  · cases h0
  rename_i g1
  rw [if_neg g1]
  split at h0
  · cases h0
  rename_i g2
  rw [if_neg g2]
  split at h0
  · rename_i g3; exact absurd h0 g3
  rename_i g3
  rw [if_neg g3]
  split at h0
  · cases h0
  rename_i g4
  rw [if_neg (by rw [hdays]; show ¬ (4 : Int) < ((1 : Nat) : Int); decide)]
  split at h0
  · rename_i he; exact absurd h0 (firstE_ne he)
  rename_i he
  obtain ⟨j, hj⟩ := firstE_none he _ hmem
  rw [hdays]
  have hj' : dayErr (oneR b d) (dayOf b d) = 0 := hj
  simp only [firstE]
  rw [if_pos hj']
theorem agree_congr {b b' : Book} {d d' : Int} (hp : b.price = b'.price) (hr : b.rooms = b'.rooms) (hD : dayOf b d = dayOf b' d') : agreeD b d = agreeD b' d' := by
  obtain ⟨p, r, ds⟩ := b
  obtain ⟨p', r', ds'⟩ := b'
  simp only at hp hr
  subst hp; subst hr
  have rn : ∀ (D : Day) (all : Int) (off : List Int) (i : Nat), roomsN ⟨p, r, ds⟩ D all off i = roomsN ⟨p, r, ds'⟩ D all off i := fun D all off i => by
    induction i with
    | zero => rfl
    | succ i ih => unfold roomsN; rw [ih]; rfl
  have e1 : firstN ⟨p, r, ds⟩ d = firstN ⟨p, r, ds'⟩ d' := by unfold firstN doorS pupilsD; rw [hD]
  have e2 : doorS ⟨p, r, ds⟩ d = doorS ⟨p, r, ds'⟩ d' := by unfold doorS; rw [hD]
  have e3 : agreeN ⟨p, r, ds⟩ d = agreeN ⟨p, r, ds'⟩ d' := by
    funext n
    unfold agreeN
    have q1 : inRoomsR ⟨p, r, ds⟩ d n [] = inRoomsR ⟨p, r, ds'⟩ d' n [] := by unfold inRoomsR; rw [hD]; exact rn _ _ _ _
    have q2 : agreeAt ⟨p, r, ds⟩ d n = agreeAt ⟨p, r, ds'⟩ d' n := by
      funext l
      have q3 : leftR ⟨p, r, ds⟩ d n l = leftR ⟨p, r, ds'⟩ d' n l := by unfold leftR feesD pupilsD; rw [hD]; rfl
      unfold agreeAt pupilsD; rw [q3, hD]
    rw [q1, q2]
  unfold agreeD
  rw [e1, e2, e3]
theorem explains_congr {b b' : Book} {d d' : Int} (hp : b.price = b'.price) (hr : b.rooms = b'.rooms) (hD : dayOf b d = dayOf b' d') (off : List Int) : explainsR b d off = explainsR b' d' off := by
  obtain ⟨p, r, ds⟩ := b
  obtain ⟨p', r', ds'⟩ := b'
  simp only at hp hr
  subst hp; subst hr
  have rn : ∀ (D : Day) (all : Int) (off : List Int) (i : Nat), extN ⟨p, r, ds⟩ D all off i = extN ⟨p, r, ds'⟩ D all off i := fun D all off i => by
    induction i with
    | zero => rfl
    | succ i ih => unfold extN; rw [ih]; rfl
  have e1 : firstO ⟨p, r, ds⟩ d off = firstO ⟨p, r, ds'⟩ d' off := by unfold firstO doorO pupilsD; rw [hD]
  have e2 : doorO ⟨p, r, ds⟩ d off = doorO ⟨p, r, ds'⟩ d' off := by unfold doorO; rw [hD]
  have e3 : explAt ⟨p, r, ds⟩ d off = explAt ⟨p, r, ds'⟩ d' off := by
    funext n
    unfold explAt
    have q1 : extrasR ⟨p, r, ds⟩ d n off = extrasR ⟨p, r, ds'⟩ d' n off := by unfold extrasR; rw [hD]; exact rn _ _ _ _
    have q2 : payOk ⟨p, r, ds⟩ d n = payOk ⟨p, r, ds'⟩ d' n := by
      funext v
      unfold payOk feesD pupilsD; rw [hD]; rfl
    rw [q1, q2]
  unfold explainsR
  rw [e1, e2, e3]
theorem off_congr {b b' : Book} {d d' : Int} (hp : b.price = b'.price) (hr : b.rooms = b'.rooms) (hD : dayOf b d = dayOf b' d') : offR b d = offR b' d' := by
  have e : entriesR b = entriesR b' := by unfold entriesR; rw [hr]
  have e2 : (fun l => explainsR b d (offOf b l)) = fun l => explainsR b' d' (offOf b' l) := by
    funext l
    have : offOf b l = offOf b' l := by unfold offOf; rw [e]
    rw [this]; exact explains_congr hp hr hD _
  have e3 : offOf b = offOf b' := by funext l; unfold offOf; rw [e]
  unfold offR
  rw [e2, e, e3]
theorem VLe.cut {τ : Type} (E : Ty τ) (l : List τ) (lo k n : Nat) (hn : n = k) (h : lo + k ≤ l.length) : VLe (.list E.w n (fun i j => rowsOf E l (lo + i) j)) (E.lst ((l.drop lo).take k)) := by
  subst hn
  have hl : ((l.drop lo).take n).length = n := by rw [List.length_take, List.length_drop]; omega
  show VLe _ (.list E.w ((l.drop lo).take n).length (rowsOf E ((l.drop lo).take n)))
  rw [hl]
  refine VLe.list fun i j hi hj => ?_
  show (E.cells (l.getD (lo + i) E.zero)).getD j uU = (E.cells (((l.drop lo).take n).getD i E.zero)).getD j uU
  rw [List.getD_eq_getElem?_getD (l := l), List.getD_eq_getElem?_getD (l := (l.drop lo).take n), List.getElem?_take_of_lt hi, List.getElem?_drop]
theorem VLe.agg3 {a b c c' : V} (h : VLe c c') : VLe (.agg [a, b, c]) (.agg [a, b, c']) := fun G β x hx => by
  cases hx with
  | agg hl hr => exact .agg hl fun j hj => VLe.at h [a, b] [] j _ _ _ (hr j hj)
theorem one_tell (b : Book) {d : Int} (hd : 0 ≤ d ∧ d < b.days.length) : VLe (.agg [iI b.price, tRoom.lst b.rooms, .list 5 ((d + 1).toNat - d.toNat) (fun i j => rowsOf tDay b.days (d.toNat + i) j)]) (.agg (tBook.cells (oneR b d))) :=
  VLe.agg3 (VLe.cut tDay b.days d.toNat 1 _ (by omega) (by omega))
inductive P12
  | e
inductive R12
  | r0 (r0 : Bool)
noncomputable def T12 (b : Book) (w : Int) : P12 → Tr P12 R12
  | .e => let c6 : Tr P12 R12 := .call 21 [] (.bool true) true true (.out (.r0 true)); let c13 := (b.days.length : Int); let c1 := w.tmod c13; let c2 := firstT (oneR b c1) 0; let c3 := (wrongR (oneR b c1)).1; let c5 := firstT b c1; let c7 := ofDay c1 ((wrongR b).1); let c8 : List V := [iI ((c2.1).adults), iI ((c2.1).children), tint.lst ((c2.1).rooms)]; let c9 : List V := [iI (c5.1.adults), iI (c5.1.children), tint.lst (c5.1.rooms)]; let c10 := c1 + (1 : Int); let c12 := ofDay 0 c3; let c14 : Tr P12 R12 := .out (.r0 false); let c4 : Tr P12 R12 := .lit false c14; let c11 : Tr P12 R12 := .lit false (.lit false c4); let c15 := (wrongR b).2 != (0 : Int); let c16 := (c10).toNat - (c1).toNat; (.call 33 [.agg (cC b)] (.tuple [tEntry.lst ((wrongR b).1), iI ((wrongR b).2)]) true true (.call 36 [.agg (cC b)] (.bool (validR b)) true true (.br (!(validR b)) (.br c15 (.br ((((wrongR b).1.length) : Int) == (0 : Int)) c6 c14) c4) (.br c15 (.lit true c14) (.call 46 [.agg (cC b), tEntry.lst ((wrongR b).1)] (.bool true) true true (.lit false (.br (c13 == (0 : Int)) c6 (.need (inR .i64 w) (.need (decide (c13 ≠ 0)) (.need (inR .i64 c10) (.need ((decide (0 ≤ c1) && decide (c1 ≤ c10)) && decide (c10 ≤ c13)) (.call 33 [.agg [iI b.price, tRoom.lst b.rooms, .list 5 c16 (fun i j => rowsOf tDay b.days ((c1).toNat + i) j)]] (.tuple [tEntry.lst c3, iI ((wrongR (oneR b c1)).2)]) true true (.call 22 [.agg (cC b), iI c1] (.tuple [.agg c9, iI (c5.2.1), iI (c5.2.2)]) true true (.call 22 [.agg [iI b.price, tRoom.lst b.rooms, .list 5 c16 (fun i j => rowsOf tDay b.days ((c1).toNat + i) j)], iI 0] (.tuple [.agg c8, iI (c2.2.1), iI (c2.2.2)]) true true (.br ((wrongR (oneR b c1)).2 == (0 : Int)) (.call 40 [tEntry.lst c3, iI 0] (tint.lst c12) true true (.call 40 [tEntry.lst ((wrongR b).1), iI c1] (tint.lst c7) true true (.call 52 [tint.lst c12, tint.lst c7] (.bool (sameI c12 c7)) true true (.br (sameI c12 c7) (.call 40 [tEntry.lst c3, iI 0] (tint.lst c12) true true (.br (((c12.length) : Int) == ((c3.length) : Int)) (.br (c5.2.2 == c2.2.2) (.br (c5.2.1 == c2.2.1) (.call 24 [.agg c9, .agg c8] (.bool (alikeR (c5.1) (c2.1))) true true (.br (alikeR (c5.1) (c2.1)) c6 c14)) c4) (.lit false c4)) c11)) (.lit false c11))))) (.lit false (.lit false c11)))))))))))))))))
noncomputable def g12 (b : Book) (w : Int) : P12 → List Item × St
  | .e => bd Tryz.f12 [.agg (cC b), .int .u8 w] 114
noncomputable def n12 : R12 → Exit × St
  | .r0 r0 => (.ret, ⟨mk 116 [(4, .bool r0)], [], []⟩)
noncomputable def v12 : R12 → V
  | .r0 r0 => .bool r0
theorem s12 (b : Book) (w : Int) : Sm 0 (g12 b w) (T12 b w) (n12)
  | .e => ⟨400, by kernel_rfl⟩
theorem q12 : ∀ r, bodyQ Tryz.prog Tryz.f12 (· = v12 r) (n12 r).1 (n12 r).2
  | .r0 r0 => bq (.bool r0) (by kernel_rfl)
theorem w12 (b : Book) (w : Int) {post : V → Prop} (h : WQ (T12 b w) v12 post .e) : PC 12 [.agg (cC b), .int .u8 w] post :=
  PCalls.wq Tryz.func12 (s12 b w) q12 h
theorem one_wrong {b : Book} (hv : validR b = true) {d : Int} (hd : 0 ≤ d ∧ d < b.days.length) : wrongR (oneR b d) = (entE 0 (offR b d), 0) := by
  have hv1 := one_check hv hd
  rw [wrong_ok hv1]
  have hl : (oneR b d).days.length = 1 := by rw [one_days hd]; rfl
  rw [hl]
  have ho : offR (oneR b d) 0 = offR b d := off_congr rfl rfl (one_day hd)
  show ((List.range 1).flatMap fun (d' : Nat) => entE d' (offR (oneR b d) d'), (0 : Int)) = _
  rw [show List.range 1 = [0] from rfl]
  simp only [List.flatMap_cons, List.flatMap_nil, List.append_nil]
  rw [show ((0 : Nat) : Int) = 0 from rfl, ho]
theorem one_first {b : Book} (hv : validR b = true) {d : Int} (hd : 0 ≤ d ∧ d < b.days.length) : firstT (oneR b d) 0 = firstT b d := by
  have hv1 := one_check hv hd
  have hl : (oneR b d).days.length = 1 := by rw [one_days hd]; rfl
  have ha := asked_in hv hd
  have ha1 : askedR (oneR b d) 0 = 0 := asked_in hv1 (by rw [hl]; decide)
  have hag : agreeD (oneR b d) 0 = agreeD b d := agree_congr rfl rfl (one_day hd)
  unfold firstT explainedR
  rw [ha, ha1, hag]
theorem smB_one {b : Book} (hs : SmB b) (d : Int) : SmB (oneR b d) := by
  refine ⟨hs.rooms, ?_, fun D hD => hs.each D ?_⟩
  · have h1 : (oneR b d).days.length ≤ b.days.length := by
      unfold oneR; simp only [List.length_take, List.length_drop]; omega
    exact Nat.le_trans h1 hs.days
  · exact List.mem_of_mem_drop (List.mem_of_mem_take hD)
theorem sameI_same (l : List Int) : sameI l l = true := by simp [sameI]
set_option maxHeartbeats 4000000 in
theorem c12 (b : Book) (w : Int) (hw : 0 ≤ w ∧ w ≤ 255) (hs : SmB b) : PC 12 [.agg (tBook.cells b), .int .u8 w] (· = .bool true) := by
  have k33 := c33 b hs
  cases hv : validR b with
  | true =>
    have hok := valid_ok hv
    have hnd := hok.nd
    have e := wrong_ok hv
    have e1 : (wrongR b).1 = wrongAll b b.days.length := by rw [e]
    have e2 : (wrongR b).2 = 0 := by rw [e]
    rw [e] at k33
    have hwl := wrong_len hok b.days.length
    have k46 := c46 b _ hok (asc_wrong hok) (by omega)
    by_cases hl : b.days.length = 0
    · refine w12 b w (WP.step ?_)
      simp only [T12, Go, Ends', v12, Tr.sure, SS, e1, e2]
      repeat' with_reducible first | intro _ | apply And.intro
      all_goals first | exact (c36 b) | exact k33 | exact k46 | exact c21 | (simp [hv, hl, Go, Ends', v12, -List.getD_eq_getElem?_getD, *]; done) | (simp_all [hv, hl, Go, Ends', v12, -List.getD_eq_getElem?_getD]; done)
    · have hz : ¬ (b.days.length : Int) = 0 := by omega
      have hzb : ((b.days.length : Int) == 0) = false := beq_eq_false_iff_ne.2 hz
      have hcv : inR .i64 w = true := inR64 (by omega) (by omega)
      have hd := which_in hw.1 (show 0 < b.days.length by omega)
      have k33o := PCalls.arg (pre := []) (c33 (oneR b (w.tmod (b.days.length : Int))) (smB_one hs _)) (one_tell b hd)
      have k22o := PCalls.arg (pre := []) (c22 (oneR b (w.tmod (b.days.length : Int))) 0 (smB_one hs _)) (one_tell b hd)
      have ew := one_wrong hv hd
      have ef := one_first hv hd
      rw [ew] at k33o
      rw [ef] at k22o
      have ew1 : (wrongR (oneR b (w.tmod (b.days.length : Int)))).1 = entE 0 (offR b (w.tmod (b.days.length : Int))) := by rw [ew]
      have ew2 : (wrongR (oneR b (w.tmod (b.days.length : Int)))).2 = 0 := by rw [ew]
      have hv2 : validR b = true := hv
      generalize hone : oneR b (w.tmod (b.days.length : Int)) = one at *
      generalize hdd : w.tmod (b.days.length : Int) = d at *
      have hday := hok.day _ (getD_mem zDay b.days d.toNat (by omega))
      have r1 : inR .i64 (d + 1) = true := inR64 (by omega) (by omega)
      have hd1 : d ≤ d + 1 := by omega
      have hd2 : d + 1 ≤ (b.days.length : Int) := by omega
      have hof : ofDay d (wrongAll b b.days.length) = offR b d := by
        have := ofDay_wrong b b.days.length d.toNat
        rw [Int.toNat_of_nonneg hd.1, if_pos (by omega)] at this; exact this
      have hof0 : ofDay 0 (entE 0 (offR b d)) = offR b d := by rw [ofDay_ent, if_pos rfl]
      have hel : (entE 0 (offR b d)).length = (offR b d).length := by unfold entE; rw [List.length_map]
      have h5 := off_len b d hok
      have k40 := c40 (wrongAll b b.days.length) d (by omega)
      have k40o := c40 (entE 0 (offR b d)) 0 (by rw [hel]; omega)
      rw [hof] at k40
      rw [hof0] at k40o
      have k22 := c22 b d hs
      have k24 := c24 (firstT b d).1 (firstT b d).1 (first_len b d) (first_len b d)
      clear ew
      refine w12 b w (WP.step ?_)
      simp only [T12, Go, Ends', v12, Tr.sure, SS, hone, hdd, e1, e2, ew1, ew2, ef, hzb, hz, hof, hof0, hel]
      repeat' with_reducible first | intro _ | apply And.intro
      all_goals first | exact (c36 b) | exact k33 | exact k33o | exact k46 | exact k22 | exact k22o | exact k40 | exact k40o | exact k24 | exact (c52 _ _) | exact c21 | (simp [hv2, hcv, r1, hd, hd1, hd2, sameI_same, alike_self, Go, Ends', v12, -List.getD_eq_getElem?_getD, *]; done) | (simp_all [hv2, hcv, r1, hd, hd1, hd2, sameI_same, alike_self, Go, Ends', v12, -List.getD_eq_getElem?_getD]; done)
  | false =>
    obtain ⟨e, h0⟩ := wrong_no hv
    have e1 : (wrongR b).1 = [] := by rw [e]
    have e2 : (wrongR b).2 = (bookCheck b).2.2 := by rw [e]
    rw [e] at k33
    have hb : ((bookCheck b).2.2 != 0) = true := bne_iff_ne.2 h0
    refine w12 b w (WP.step ?_)
    simp only [T12, Go, Ends', v12, Tr.sure, SS, e1, e2, hb]
    repeat' with_reducible first | intro _ | apply And.intro
    all_goals first | exact (c36 b) | exact k33 | exact c21 | (simp_all [hv, Go, Ends', v12, -List.getD_eq_getElem?_getD]; done)
end
end Go.Proofs.YtfgmckfomckliaaGreat
