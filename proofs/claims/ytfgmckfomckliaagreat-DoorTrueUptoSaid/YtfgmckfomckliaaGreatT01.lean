/-
  Part of the proof of DoorTrue. Conditions: those that stand in each theorem.
-/
import Derived.Test.YtfgmckfomckliaaGreatChecked
import Derived.Test.YtfgmckfomckliaaGreatB13
set_option linter.unusedSimpArgs false
set_option linter.unusedVariables false
set_option maxRecDepth 100000
namespace Ab
theorem rev_take {τ υ : Type} (f : τ → υ) (d : τ) (l : List τ) (i : Nat) (hi : i < l.length) : ((l.take (i + 1)).map f).reverse = f (l.getD i d) :: ((l.take i).map f).reverse := by
  rw [List.take_succ_eq_append_getElem hi, List.map_append, List.reverse_append, List.map_singleton, List.reverse_singleton, List.singleton_append]
  simp only [List.getD_eq_getElem?_getD, List.getElem?_eq_getElem hi, Option.getD_some]
theorem rev_take' {τ υ : Type} (f : τ → υ) (d : τ) (l : List τ) (i : Nat) (hi : i < l.length) : ((l.map f).take (i + 1)).reverse = f (l.getD i d) :: ((l.map f).take i).reverse := by
  rw [← List.map_take, ← List.map_take]; exact rev_take f d l i hi
end Ab
namespace Go.Proofs.YtfgmckfomckliaaGreat
open Ab
def indexS (l : List ByteArray) (s : ByteArray) : Int := match firstI (fun o => same o s) 0 l with | some i => i | none => -1
def tstr : Ty ByteArray := ⟨1, fun s => [.str s], ByteArray.empty⟩
def tu16 : Ty Int := ⟨1, fun n => [.int .u16 n], 0⟩
end Go.Proofs.YtfgmckfomckliaaGreat
namespace Go.Proofs.YtfgmckfomckliaaGreat
open Ab Go
noncomputable section
theorem map_take_len {τ υ : Type} (f : τ → υ) (l : List τ) (i : Nat) (hi : i ≤ l.length) : ((l.map f).take i).reverse.length = i := by simp; omega
inductive P91
  | e
inductive R91
  | r0 (r0 : Bool)
noncomputable def T91 (p0 : Int) (p1 : Int) (p2 : Int) : P91 → Tr P91 R91
  | .e => (.br (decide (p0 ≥ p1)) (.out (.r0 (decide (p0 ≤ p2)))) (.out (.r0 false)))
noncomputable def g91 (p0 : Int) (p1 : Int) (p2 : Int) : P91 → List Item × St
  | .e => bd Tryz.f91 [iI p0, iI p1, iI p2] 12
noncomputable def n91 : R91 → Exit × St
  | .r0 r0 => (.ret, ⟨mk 15 [(6, .bool r0)], [], []⟩)
noncomputable def v91 : R91 → V
  | .r0 r0 => .bool r0
theorem s91 (p0 : Int) (p1 : Int) (p2 : Int) : Sm 0 (g91 p0 p1 p2) (T91 p0 p1 p2) (n91)
  | .e => ⟨400, by kernel_rfl⟩
theorem q91 : ∀ r, bodyQ Tryz.prog Tryz.f91 (· = v91 r) (n91 r).1 (n91 r).2
  | .r0 r0 => bq (.bool r0) (by kernel_rfl)
theorem w91 (p0 : Int) (p1 : Int) (p2 : Int) {post : V → Prop} (h : WQ (T91 p0 p1 p2) v91 post .e) : PC 91 [iI p0, iI p1, iI p2] post :=
  PCalls.wq Tryz.func91 (s91 p0 p1 p2) q91 h
theorem c91 (n a b : Int) : PC 91 [iI n, iI a, iI b] (· = .bool (within n a b)) := by
  refine w91 _ _ _ (WP.step ?_)
  simp only [T91, Go, Ends', v91, Tr.sure, SS]
  repeat' with_reducible first | intro _ | apply And.intro
  all_goals simp [within, GE.ge, Go, Ends', v91, -List.getD_eq_getElem?_getD, *]
  all_goals simp_all [within]
inductive P58
  | e
inductive R58
  | r0 (r0 : Bool)
noncomputable def T58 (p0 : Int) (p1 : Int) (p2 : Int) : P58 → Tr P58 R58
  | .e => (.br (decide (p0 ≥ p1)) (.out (.r0 (decide (p0 ≤ p2)))) (.out (.r0 false)))
noncomputable def g58 (p0 : Int) (p1 : Int) (p2 : Int) : P58 → List Item × St
  | .e => bd Tryz.f58 [iI p0, iI p1, iI p2] 12
noncomputable def n58 : R58 → Exit × St
  | .r0 r0 => (.ret, ⟨mk 15 [(6, .bool r0)], [], []⟩)
noncomputable def v58 : R58 → V
  | .r0 r0 => .bool r0
theorem s58 (p0 : Int) (p1 : Int) (p2 : Int) : Sm 0 (g58 p0 p1 p2) (T58 p0 p1 p2) (n58)
  | .e => ⟨400, by kernel_rfl⟩
theorem q58 : ∀ r, bodyQ Tryz.prog Tryz.f58 (· = v58 r) (n58 r).1 (n58 r).2
  | .r0 r0 => bq (.bool r0) (by kernel_rfl)
theorem w58 (p0 : Int) (p1 : Int) (p2 : Int) {post : V → Prop} (h : WQ (T58 p0 p1 p2) v58 post .e) : PC 58 [iI p0, iI p1, iI p2] post :=
  PCalls.wq Tryz.func58 (s58 p0 p1 p2) q58 h
theorem c58 (n a b : Int) : PC 58 [iI n, iI a, iI b] (· = .bool (within n a b)) := by
  refine w58 _ _ _ (WP.step ?_)
  simp only [T58, Go, Ends', v58, Tr.sure, SS]
  repeat' with_reducible first | intro _ | apply And.intro
  all_goals simp [within, GE.ge, Go, Ends', v58, -List.getD_eq_getElem?_getD, *]
  all_goals simp_all [within]
theorem data_get (s : ByteArray) (i : Nat) : s.data.getD i 0 = s.data.toList.getD i 0 := by simp
theorem inR8 (c : UInt8) : inR .i64 (c.toNat : Int) = true := inR64 (by omega) (by have := c.toNat_lt; omega)
inductive P127
  | e
  | l0 (x0_3 : Int)
inductive R127
  | r0 (r0 : Bool)
noncomputable def T127 (p0 : ByteArray) : P127 → Tr P127 R127
  | .e => (.br ((p0.size : Int) == (0 : Int)) (.lit true (.out (.r0 false))) (.br (decide ((p0.size : Int) > (16 : Int))) (.out (.r0 false)) (.go (.l0 0))))
  | .l0 x0_3 => let c1 := ((p0.data.getD (x0_3).toNat 0).toNat : Int); let c2 : Tr P127 R127 := .need (inR .i64 (x0_3 + (1 : Int))) (.go (.l0 (x0_3 + (1 : Int)))); let c3 := decide (0 ≤ x0_3) && decide (x0_3 < (p0.size : Int)); let c4 : Tr P127 R127 := .lit true (.lit true (.out (.r0 false))); let c5 := within c1 97 122; let c6 : Tr P127 R127 := .lit false (.lit false c2); (.br (decide (x0_3 < (p0.size : Int))) (.need c3 (.need (inR .i64 c1) (.call 91 [iI c1, iI 97, iI 122] (.bool c5) true true (.need c3 (.need (inR .i64 c1) (.call 91 [iI c1, iI 48, iI 57] (.bool (within c1 48 57)) true true (.br (within c1 48 57) (.br (!c5) (.br (x0_3 == (0 : Int)) c4 (.lit true (.lit false c2))) c6) (.need c3 (.br (!c5) (.br (x0_3 == (0 : Int)) c4 (.lit true (.br (!(c1 == (46 : Int))) (.out (.r0 false)) c2))) c6))))))))) (.out (.r0 true)))
noncomputable def g127 (p0 : ByteArray) : P127 → List Item × St
  | .e => bd Tryz.f127 [.str p0] 45
  | .l0 x0_3 => (cutOf Tryz.f127 0, ⟨mk 46 [(0, .str p0), (2, .bool false), (3, iI x0_3)], [], []⟩)
noncomputable def n127 : R127 → Exit × St
  | .r0 r0 => (.ret, ⟨mk 46 [(2, .bool r0)], [], []⟩)
noncomputable def v127 : R127 → V
  | .r0 r0 => .bool r0
theorem s127 (p0 : ByteArray) : Sm 0 (g127 p0) (T127 p0) (n127)
  | .e => ⟨400, by kernel_rfl⟩
  | .l0 _ => ⟨400, by kernel_rfl⟩
theorem q127 : ∀ r, bodyQ Tryz.prog Tryz.f127 (· = v127 r) (n127 r).1 (n127 r).2
  | .r0 r0 => bq (.bool r0) (by kernel_rfl)
theorem w127 (p0 : ByteArray) {post : V → Prop} (h : WQ (T127 p0) v127 post .e) : PC 127 [.str p0] post :=
  PCalls.wq Tryz.func127 (s127 p0) q127 h
theorem c127 (s : ByteArray) : PC 127 [.str s] (· = .bool (nameOk s)) := by
  refine w127 _ (WP.step ?_)
  simp only [T127, Tr.sure, Go, Ends', v127]
  refine ⟨fun h => ?_, fun h0 => ⟨fun h => ?_, fun h1 => ?_⟩⟩
  · simp at h; simp [nameOk, h]
  · simp at h; simp [nameOk]; omega
  simp only [beq_eq_false_iff_ne, ne_eq, decide_eq_false_iff_not, Int.not_lt, gt_iff_lt] at h0 h1
  have hs : s.size ≤ 16 := by omega
  have hn : nameOk s = nameFrom true s.data.toList := by
    have h0' : s.size ≠ 0 := by omega
    simp [nameOk, hs, h0']
  refine WP.count (fun i => .l0 i) rfl s.size (fun i => nameFrom true s.data.toList = nameFrom (i == 0) (s.data.toList.drop i)) rfl (fun i hi hI => ?_) fun hI => ?_
  · have hd := drop_cons 0 s.data.toList i hi
    have hr : inR .i64 ((i : Int) + 1) = true := inR64 (by omega) (by omega)
    have hc := inR8 (s.data.toList.getD i 0)
    rw [hd] at hI
    simp only [nameFrom] at hI
    generalize hg : s.data.toList.getD i 0 = c at *
    refine WP.once ?_
    simp only [T127, Tr.sure, SS, hi, data_get, hg]
    repeat' with_reducible first | intro _ | apply And.intro
    all_goals first | exact c91 _ _ _ | (simp [hr, hc, hI, hn, letter, other, Go, Ends', v127, -List.getD_eq_getElem?_getD, *]; done)
  · have he : nameFrom (s.size == 0) (s.data.toList.drop s.size) = true := by rw [← data_len, List.drop_length]; rfl
    refine WP.step ?_
    simp only [T127, Go, Ends', v127, Tr.sure, SS]
    repeat' with_reducible first | intro _ | apply And.intro
    all_goals simp [hn, hI, he, Go, Ends', v127, -List.getD_eq_getElem?_getD, *]
theorem tstr_zero : tstr.zero = ByteArray.empty := rfl
inductive P128
  | e
  | l0 (x0_5 : Int)
inductive R128
  | r0 (r0 : Int)
noncomputable def T128 (p0 : List ByteArray) (p1 : ByteArray) : P128 → Tr P128 R128
  | .e => (.go (.l0 0))
  | .l0 x0_5 => let c1 := x0_5 < (p0.length : Int); (.br (decide c1) (.need (decide (0 ≤ x0_5) && decide c1) (.br ((p0.getD (x0_5).toNat tstr.zero).toList == p1.toList) (.out (.r0 x0_5)) (.need (inR .i64 (x0_5 + (1 : Int))) (.go (.l0 (x0_5 + (1 : Int))))))) (.out (.r0 (-1))))
noncomputable def g128 (p0 : List ByteArray) (p1 : ByteArray) : P128 → List Item × St
  | .e => bd Tryz.f128 [tstr.lst p0, .str p1] 17
  | .l0 x0_5 => (cutOf Tryz.f128 0, ⟨mk 19 [(0, tstr.lst p0), (1, .str p1), (4, iI 0), (5, iI x0_5)], [], []⟩)
noncomputable def n128 : R128 → Exit × St
  | .r0 r0 => (.ret, ⟨mk 19 [(4, iI r0)], [], []⟩)
noncomputable def v128 : R128 → V
  | .r0 r0 => iI r0
theorem s128 (p0 : List ByteArray) (p1 : ByteArray) : Sm 0 (g128 p0 p1) (T128 p0 p1) (n128)
  | .e => ⟨400, by kernel_rfl⟩
  | .l0 _ => ⟨400, by kernel_rfl⟩
theorem q128 : ∀ r, bodyQ Tryz.prog Tryz.f128 (· = v128 r) (n128 r).1 (n128 r).2
  | .r0 r0 => bq (iI r0) (by kernel_rfl)
theorem w128 (p0 : List ByteArray) (p1 : ByteArray) {post : V → Prop} (h : WQ (T128 p0 p1) v128 post .e) : PC 128 [tstr.lst p0, .str p1] post :=
  PCalls.wq Tryz.func128 (s128 p0 p1) q128 h
theorem c128 (l : List ByteArray) (n : ByteArray) (h : l.length ≤ 4) : PC 128 [tstr.lst l, .str n] (· = iI (indexS l n)) := by
  refine w128 _ _ (WP.step ?_)
  simp only [T128, Go, Ends', v128, Tr.sure, SS]
  repeat' with_reducible first | intro _ | apply And.intro
  refine WP.findI (fun i => .l0 i) rfl l ByteArray.empty (fun o => same o n) (fun i hi => ?_) fun hI => ?_
  · have hr : inR .i64 ((i : Int) + 1) = true := inR64 (by omega) (by omega)
    refine WP.once ?_
    simp only [T128, Tr.sure, SS, hi]
    repeat' with_reducible first | intro _ | apply And.intro
    all_goals first | (simp [hr, same, tstr_zero, indexS, Go, Ends', v128, -List.getD_eq_getElem?_getD, *]; done) | (simp_all [hr, same, tstr_zero, indexS, Go, Ends', v128, -List.getD_eq_getElem?_getD]; done)
  · refine WP.step ?_
    simp only [T128, Go, Ends', v128, Tr.sure, SS]
    repeat' with_reducible first | intro _ | apply And.intro
    all_goals simp [hI, indexS, Go, Ends', v128, -List.getD_eq_getElem?_getD, *]
theorem indexS_ge (l : List ByteArray) (n : ByteArray) : (0 ≤ indexS l n) ↔ l.any (fun o => same o n) = true := by
  rw [← firstI_any _ l 0, indexS]
  cases firstI (fun o => same o n) 0 l <;> simp
inductive P101
  | e
inductive R101
  | r0 (r0 : Int)
noncomputable def T101 (p0 : ByteArray) (p1 : List ByteArray) : P101 → Tr P101 R101
  | .e => (.call 127 [.str p0] (.bool (nameOk p0)) true true (.br (!(nameOk p0)) (.out (.r0 6)) (.call 128 [tstr.lst p1, .str p0] (iI (indexS p1 p0)) true true (.br (decide ((indexS p1 p0) ≥ (0 : Int))) (.out (.r0 5)) (.out (.r0 0))))))
noncomputable def g101 (p0 : ByteArray) (p1 : List ByteArray) : P101 → List Item × St
  | .e => bd Tryz.f101 [.str p0, tstr.lst p1] 10
noncomputable def n101 : R101 → Exit × St
  | .r0 r0 => (.ret, ⟨mk 12 [(4, iI r0)], [], []⟩)
noncomputable def v101 : R101 → V
  | .r0 r0 => iI r0
theorem s101 (p0 : ByteArray) (p1 : List ByteArray) : Sm 0 (g101 p0 p1) (T101 p0 p1) (n101)
  | .e => ⟨400, by kernel_rfl⟩
theorem q101 : ∀ r, bodyQ Tryz.prog Tryz.f101 (· = v101 r) (n101 r).1 (n101 r).2
  | .r0 r0 => bq (iI r0) (by kernel_rfl)
theorem w101 (p0 : ByteArray) (p1 : List ByteArray) {post : V → Prop} (h : WQ (T101 p0 p1) v101 post .e) : PC 101 [.str p0, tstr.lst p1] post :=
  PCalls.wq Tryz.func101 (s101 p0 p1) q101 h
theorem c101 (n : ByteArray) (l : List ByteArray) (h : l.length ≤ 4) : PC 101 [.str n, tstr.lst l] (· = iI (newErr n l)) := by
  have hi := indexS_ge l n
  refine w101 _ _ (WP.step ?_)
  simp only [T101, Go, Ends', v101, Tr.sure, SS]
  repeat' with_reducible first | intro _ | apply And.intro
  all_goals first | exact c127 _ | exact c128 _ _ h | (simp [newErr, Go, Ends', v101, -List.getD_eq_getElem?_getD, *]; done) | (simp_all [newErr, Go, Ends', v101, -List.getD_eq_getElem?_getD]; done)
theorem c101r (n : ByteArray) (l : List ByteArray) (h : l.length ≤ 4) : PC 101 [.str n, .list 1 l.reverse.length (rowsRev tstr l.reverse)] (· = iI (newErr n l)) :=
  PCalls.arg (pre := [.str n]) (c101 n l h) (by have := VLe.rev tstr l.reverse; rwa [List.reverse_reverse] at this)
theorem less_end (a b : List Int) (h : a.length = 0 ∨ b.length = 0) : less a b = decide (a.length < b.length) := by
  cases a <;> cases b <;> simp_all [less]
theorem less_drop (a b : List Int) {i : Nat} (ha : i < a.length) (hb : i < b.length) : less (a.drop i) (b.drop i) = if a.getD i 0 = b.getD i 0 then less (a.drop (i + 1)) (b.drop (i + 1)) else decide (a.getD i 0 < b.getD i 0) := by
  rw [drop_cons 0 a i ha, drop_cons 0 b i hb]; rfl
inductive P41
  | e
  | l0 (x0_6 : Int)
inductive R41
  | r0 (r0 : Bool)
noncomputable def T41 (p0 : List Int) (p1 : List Int) : P41 → Tr P41 R41
  | .e => (.go (.l0 0))
  | .l0 x0_6 => let c1 := ((decide (0 ≤ x0_6) && decide (x0_6 < (p0.length : Int))) && ((decide (0 ≤ x0_6) && decide (x0_6 < (p1.length : Int))) && true)) && true; let c2 := p1.getD (x0_6).toNat tint.zero; let c3 := p0.getD (x0_6).toNat tint.zero; (.br (decide (x0_6 < (min (p0.length : Int) (p1.length : Int)))) (.front [] [] c1 true (.br (c3 != c2) (.front [] [] c1 true (.out (.r0 (decide (c3 < c2))))) (.need (inR .i64 (x0_6 + (1 : Int))) (.go (.l0 (x0_6 + (1 : Int))))))) (.out (.r0 (decide ((p0.length : Int) < (p1.length : Int))))))
noncomputable def g41 (p0 : List Int) (p1 : List Int) : P41 → List Item × St
  | .e => bd Tryz.f41 [tint.lst p0, tint.lst p1] 38
  | .l0 x0_6 => (cutOf Tryz.f41 0, ⟨mk 40 [(0, tint.lst p0), (1, tint.lst p1), (5, iI (min (p0.length : Int) (p1.length : Int))), (6, iI x0_6)], [], []⟩)
noncomputable def n41 : R41 → Exit × St
  | .r0 r0 => (.ret, ⟨mk 40 [(4, .bool r0)], [], []⟩)
noncomputable def v41 : R41 → V
  | .r0 r0 => .bool r0
theorem s41 (p0 : List Int) (p1 : List Int) : Sm 0 (g41 p0 p1) (T41 p0 p1) (n41)
  | .e => ⟨400, by kernel_rfl⟩
  | .l0 _ => ⟨400, by kernel_rfl⟩
theorem q41 : ∀ r, bodyQ Tryz.prog Tryz.f41 (· = v41 r) (n41 r).1 (n41 r).2
  | .r0 r0 => bq (.bool r0) (by kernel_rfl)
theorem w41 (p0 : List Int) (p1 : List Int) {post : V → Prop} (h : WQ (T41 p0 p1) v41 post .e) : PC 41 [tint.lst p0, tint.lst p1] post :=
  PCalls.wq Tryz.func41 (s41 p0 p1) q41 h
theorem e41 : ∀ xs w, (callFunc 41 xs).run Tryz.prog w = .ok (.enter 41 xs) w := PCalls.enters Tryz.func41 (c := Tryz.f41.body.getD .skip) (by kernel_rfl) (by kernel_rfl)
theorem c41 (a b : List Int) : PC 41 [tint.lst a, tint.lst b] (· = .bool (less a b)) := by
  refine PCalls.assume e41 0 (by simp) .list fun hl => ?_
  refine w41 _ _ (WP.step ?_)
  simp only [T41, Go, Ends', v41, Tr.sure, SS]
  repeat' with_reducible first | intro _ | apply And.intro
  refine WP.count (fun i => .l0 i) rfl (min a.length b.length) (fun i => less a b = less (a.drop i) (b.drop i)) rfl (fun i hi hI => ?_) fun hI => ?_
  · have hia : i < a.length := by omega
    have hib : i < b.length := by omega
    have hr := inRi hia hl
    have hd := less_drop a b hia hib
    have hi' : ((i : Nat) : Int) < min (a.length : Int) (b.length : Int) := by omega
    have hd1 : a.getD i 0 = b.getD i 0 → less a b = less (a.drop (i + 1)) (b.drop (i + 1)) := fun h => by rw [hI, hd, if_pos h]
    have hd2 : ¬ a.getD i 0 = b.getD i 0 → less a b = decide (a.getD i 0 < b.getD i 0) := fun h => by rw [hI, hd, if_neg h]
    clear hI hd
    refine WP.once ?_
    simp only [T41, Tr.sure, SS, hi', hia, hib, z1]
    repeat' with_reducible first | intro _ | apply And.intro
    all_goals simp [hr, Go, Ends', v41, -List.getD_eq_getElem?_getD, *]
    all_goals (right; simp only [Go, Ends', v41]; rw [hd2 (by assumption)]; rfl)
  · have hge : ¬ ((min a.length b.length : Nat) : Int) < min (a.length : Int) (b.length : Int) := by omega
    have he : less a b = decide ((a.length : Int) < (b.length : Int)) := by
      rw [hI, less_end _ _ (by simp only [List.length_drop]; omega)]
      simp only [List.length_drop]
      congr 1
      simp only [eq_iff_iff]; omega
    refine WP.step ?_
    simp only [T41, Go, Ends', v41, Tr.sure, SS, hge]
    repeat' with_reducible first | intro _ | apply And.intro
    all_goals simp [he, Go, Ends', v41, -List.getD_eq_getElem?_getD, *]
def fewer (a b : List Int) : Bool := if a.length ≠ b.length then decide (a.length < b.length) else less a b
end
noncomputable section
inductive P59
  | e
  | l0 (x0_5 : Int) (a0_0 : List ByteArray)
inductive R59
  | r0 (r0 : Int) (r1 : Int)
noncomputable def T59 (l : List Room) : P59 → Tr P59 R59
  | .e => (.br (decide ((l.length : Int) > (3 : Int))) (.out (.r0 0 3)) (.wait 3 (.own 4 9 1 (.go (.l0 0 ([]))))))
  | .l0 x0_5 a0_0 => let c1 := l.getD (x0_5).toNat tRoom.zero; let c2 : Tr P59 R59 := .need (inR .i64 (x0_5 + (1 : Int))) (.go (.l0 (x0_5 + (1 : Int)) (c1.name :: a0_0))); let c3 := decide (0 ≤ x0_5) && decide (x0_5 < (l.length : Int)); let c4 := newErr (c1.name) a0_0.reverse; let c5 : Tr P59 R59 := .br ((7 : Int) != (0 : Int)) (.out (.r0 x0_5 7)) c2; let c6 : Tr P59 R59 := .br (c4 != (0 : Int)) (.out (.r0 x0_5 c4)) c2; (.br (decide (x0_5 < (l.length : Int))) (.need c3 (.call 101 [.str (c1.name), .list 1 a0_0.length (rowsRev tstr a0_0)] (iI c4) ((decide (a0_0.length ≤ a0_0.length)) && true) true (.need c3 (.need ((decide (a0_0.length = a0_0.length) && decide (a0_0.length + 1 ≤ 4294967296)) && decide (1 ≤ 1)) (.scal (fun _ => true) (.br (c4 == (0 : Int)) (.need c3 (.call 58 [iI (c1.more), iI 0, iI 20] (.bool (within (c1.more) 0 20)) true true (.br (!(within (c1.more) 0 20)) (.lit true (.lit true c5)) (.need c3 (.call 58 [iI (c1.full), iI 0, iI 60] (.bool (within (c1.full) 0 60)) true true (.lit true (.br (!(within (c1.full) 0 60)) c5 c6))))))) (.lit false (.lit false c6)))))))) (.out (.r0 0 0)))
noncomputable def g59 (l : List Room) : P59 → List Item × St
  | .e => bd Tryz.f59 [tRoom.lst l] 54
  | .l0 x0_5 a0_0 => (cutOf Tryz.f59 0, ⟨mk 55 [(0, tRoom.lst l), (4, .row 0 a0_0.length), (5, iI x0_5)], [.rows 9 1 a0_0.length (rowsRev tstr a0_0)], []⟩)
noncomputable def n59 : R59 → Exit × St
  | .r0 r0 r1 => (.ret, ⟨mk 55 [(2, iI r0), (3, iI r1)], [], []⟩)
noncomputable def v59 : R59 → V
  | .r0 r0 r1 => .tuple [iI r0, iI r1]
theorem s59 (l : List Room) : Sm 0 (g59 l) (T59 l) (n59)
  | .e => ⟨400, by kernel_rfl⟩
  | .l0 _ _ => ⟨400, by kernel_rfl⟩
theorem q59 : ∀ r, bodyQ Tryz.prog Tryz.f59 (· = v59 r) (n59 r).1 (n59 r).2
  | .r0 r0 r1 => bq (.tuple [iI r0, iI r1]) (by kernel_rfl)
theorem w59 (l : List Room) {post : V → Prop} (h : WQ (T59 l) v59 post .e) : PC 59 [tRoom.lst l] post :=
  PCalls.wq Tryz.func59 (s59 l) q59 h
theorem c59 (l : List Room) : PC 59 [tRoom.lst l] (· = .tuple [iI (roomsErr l).1, iI (roomsErr l).2]) := by
  refine w59 _ (WP.step ?_)
  simp only [T59, Go, Ends', v59, Tr.sure, SS]
  repeat' with_reducible first | intro _ | apply And.intro
  all_goals first | (simp [roomsErr, Go, Ends', v59, -List.getD_eq_getElem?_getD, *]; done) | skip
  rename_i h1
  have hm : l.length ≤ 3 := by omega
  refine WP.findE (fun i => .l0 i (((l.map (·.name)).take i).reverse)) rfl l zRoom (roomAt l) (fun i hi => ?_) fun hI => ?_
  · have hr : inR .i64 ((i : Int) + 1) = true := inR64 (by omega) (by omega)
    have hl := map_take_len (·.name) l i (by omega)
    have hl' : ((l.map (·.name)).take i).length ≤ 4 := by simp; omega
    have ht := rev_take' (·.name) zRoom l i hi
    have hb : i + 1 ≤ 4294967296 := by omega
    refine WP.once ?_
    simp only [T59, Tr.sure, SS, hi, z2, List.reverse_reverse]
    repeat' with_reducible first | intro _ | apply And.intro
    all_goals first | exact c101r _ _ hl' | exact c58 _ _ _ | (simp [hr, roomsErr, firstR, roomAt, ht, hb, hl, Go, Ends', v59, -List.getD_eq_getElem?_getD, *]; done) | (simp_all [hr, roomsErr, firstR, roomAt, ht, hb, hl, Go, Ends', v59, -List.getD_eq_getElem?_getD]; done) | (simp +contextual [hr, roomsErr, firstR, roomAt, ht, hb, hl, Go, Ends', v59, -List.getD_eq_getElem?_getD, *]; done)
  · refine WP.step ?_
    simp only [T59, Go, Ends', v59, Tr.sure, SS, z2]
    repeat' with_reducible first | intro _ | apply And.intro
    all_goals simp [roomsErr, firstR, hI, Go, Ends', v59, -List.getD_eq_getElem?_getD, *]
inductive P102
  | e
  | l0 (x0_4 : Int) (x0_5 : Int) (a0_0 : List ByteArray)
inductive R102
  | r0 (r0 : Int)
noncomputable def T102 (l : List School) : P102 → Tr P102 R102
  | .e => (.br (decide ((l.length : Int) > (3 : Int))) (.out (.r0 3)) (.wait 3 (.own 3 9 1 (.go (.l0 0 0 ([]))))))
  | .l0 x0_4 x0_5 a0_0 => let c3 := decide (0 ≤ x0_5) && decide (x0_5 < (l.length : Int)); let c4 := l.getD (x0_5).toNat tSchool.zero; let c1 : Tr P102 R102 := .need c3 (.need (inR .i64 (x0_4 + c4.children)) (.need (inR .i64 (x0_5 + (1 : Int))) (.go (.l0 (x0_4 + c4.children) (x0_5 + (1 : Int)) (c4.name :: a0_0))))); let c2 := newErr (c4.name) a0_0.reverse; let c5 : Tr P102 R102 := .br (c2 != (0 : Int)) (.out (.r0 c2)) c1; let c6 := within (c4.children) 1 60; (.br (decide (x0_5 < (l.length : Int))) (.need c3 (.call 101 [.str (c4.name), .list 1 a0_0.length (rowsRev tstr a0_0)] (iI c2) ((decide (a0_0.length ≤ a0_0.length)) && true) true (.need c3 (.need ((decide (a0_0.length = a0_0.length) && decide (a0_0.length + 1 ≤ 4294967296)) && decide (1 ≤ 1)) (.scal (fun _ => true) (.br (c2 == (0 : Int)) (.need c3 (.call 58 [iI (c4.children), iI 1, iI 60] (.bool c6) true true (.br (!c6) (.br ((7 : Int) != (0 : Int)) (.out (.r0 7)) c1) c5))) (.lit false c5))))))) (.br (decide (x0_4 > (60 : Int))) (.out (.r0 9)) (.out (.r0 0))))
noncomputable def g102 (l : List School) : P102 → List Item × St
  | .e => bd Tryz.f102 [tSchool.lst l] 53
  | .l0 x0_4 x0_5 a0_0 => (cutOf Tryz.f102 0, ⟨mk 54 [(0, tSchool.lst l), (3, .row 0 a0_0.length), (4, iI x0_4), (5, iI x0_5)], [.rows 9 1 a0_0.length (rowsRev tstr a0_0)], []⟩)
noncomputable def n102 : R102 → Exit × St
  | .r0 r0 => (.ret, ⟨mk 54 [(2, iI r0)], [], []⟩)
noncomputable def v102 : R102 → V
  | .r0 r0 => iI r0
theorem s102 (l : List School) : Sm 0 (g102 l) (T102 l) (n102)
  | .e => ⟨400, by kernel_rfl⟩
  | .l0 _ _ _ => ⟨400, by kernel_rfl⟩
theorem q102 : ∀ r, bodyQ Tryz.prog Tryz.f102 (· = v102 r) (n102 r).1 (n102 r).2
  | .r0 r0 => bq (iI r0) (by kernel_rfl)
theorem w102 (l : List School) {post : V → Prop} (h : WQ (T102 l) v102 post .e) : PC 102 [tSchool.lst l] post :=
  PCalls.wq Tryz.func102 (s102 l) q102 h
theorem c102 (l : List School) : PC 102 [tSchool.lst l] (· = iI (schoolsErr l)) := by
  refine w102 _ (WP.step ?_)
  simp only [T102, Go, Ends', v102, Tr.sure, SS]
  repeat' with_reducible first | intro _ | apply And.intro
  all_goals first | (simp [schoolsErr, Go, Ends', v102, -List.getD_eq_getElem?_getD, *]; done) | skip
  rename_i h1
  have hm : l.length ≤ 3 := by omega
  refine WP.findEI (fun i => .l0 (sumS l i) i (((l.map (·.name)).take i).reverse)) rfl l zSchool (schoolAt l) (fun i => 0 ≤ sumS l i ∧ sumS l i ≤ 60 * i) ⟨Int.le_refl _, Int.le_refl _⟩ (fun i hi hS => ?_) fun hI hS => ?_
  · have hr : inR .i64 ((i : Int) + 1) = true := inR64 (by omega) (by omega)
    have hl := map_take_len (·.name) l i (by omega)
    have hl' : ((l.map (·.name)).take i).length ≤ 4 := by simp; omega
    have ht := rev_take' (·.name) zSchool l i hi
    have hb : i + 1 ≤ 4294967296 := by omega
    rw [sumS_next]
    have hw : within (l.getD i zSchool).children 1 60 = true → inR .i64 (sumS l i + (l.getD i zSchool).children) = true ∧ 0 ≤ sumS l i + (l.getD i zSchool).children ∧ sumS l i + (l.getD i zSchool).children ≤ 60 * ((i : Int) + 1) := fun hw => by
      rw [within_iff] at hw
      exact ⟨inR64 (by omega) (by omega), by omega, by omega⟩
    refine WP.once ?_
    simp only [T102, Tr.sure, SS, hi, z3, List.reverse_reverse]
    repeat' with_reducible first | intro _ | apply And.intro
    all_goals first | exact c101r _ _ hl' | exact c58 _ _ _ | (simp [hr, schoolsErr, schoolAt, ht, hb, hl, Go, Ends', v102, -List.getD_eq_getElem?_getD, *]; done) | (simp_all [hr, schoolsErr, schoolAt, ht, hb, hl, Go, Ends', v102, -List.getD_eq_getElem?_getD]; done) | (simp +contextual [hr, schoolsErr, schoolAt, ht, hb, hl, Go, Ends', v102, -List.getD_eq_getElem?_getD, *]; done)
  · refine WP.step ?_
    simp only [T102, Go, Ends', v102, Tr.sure, SS, z3]
    repeat' with_reducible first | intro _ | apply And.intro
    all_goals simp [schoolsErr, hI, Go, Ends', v102, -List.getD_eq_getElem?_getD, *]
inductive P103
  | e
inductive R103
  | r0 (r0 : Bool)
noncomputable def T103 (c : Count) : P103 → Tr P103 R103
  | .e => (.call 58 [iI c.seen, iI 0, iI 60] (.bool (within c.seen 0 60)) true true (.br (within c.seen 0 60) (.call 58 [iI c.miss, iI 0, iI 5] (.bool (within c.miss 0 5)) true true (.out (.r0 (within c.miss 0 5)))) (.out (.r0 false))))
noncomputable def g103 (c : Count) : P103 → List Item × St
  | .e => bd Tryz.f103 [.agg [iI c.seen, iI c.miss]] 10
noncomputable def n103 : R103 → Exit × St
  | .r0 r0 => (.ret, ⟨mk 11 [(2, .bool r0)], [], []⟩)
noncomputable def v103 : R103 → V
  | .r0 r0 => .bool r0
theorem s103 (c : Count) : Sm 0 (g103 c) (T103 c) (n103)
  | .e => ⟨400, by kernel_rfl⟩
theorem q103 : ∀ r, bodyQ Tryz.prog Tryz.f103 (· = v103 r) (n103 r).1 (n103 r).2
  | .r0 r0 => bq (.bool r0) (by kernel_rfl)
theorem w103 (c : Count) {post : V → Prop} (h : WQ (T103 c) v103 post .e) : PC 103 [.agg [iI c.seen, iI c.miss]] post :=
  PCalls.wq Tryz.func103 (s103 c) q103 h
theorem c103 (c : Count) : PC 103 [.agg (tCount.cells c)] (· = .bool (countOk c)) := by
  refine w103 _ (WP.step ?_)
  simp only [T103, Go, Ends', v103, Tr.sure, SS]
  repeat' with_reducible first | intro _ | apply And.intro
  all_goals first | exact c58 _ _ _ | (simp [countOk, Go, Ends', v103, -List.getD_eq_getElem?_getD, *]; done)
inductive P60
  | e
  | l0 (x0_6 : Bool) (x0_7 : Int)
inductive R60
  | r0 (r0 : Int)
noncomputable def T60 (b : Book) (d : Day) : P60 → Tr P60 R60
  | .e => let c1 : Tr P60 R60 := .call 103 [.agg [iI d.door.seen, iI d.door.miss]] (.bool (countOk d.door)) true true (.br (countOk d.door) (.call 58 [iI d.taken, iI 0, iI 10000] (.bool (within d.taken 0 10000)) true true (.go (.l0 (within d.taken 0 10000) 0))) (.go (.l0 false 0))); let c2 := schoolsErr d.schools; let c3 : Tr P60 R60 := .br (c2 != (0 : Int)) (.out (.r0 c2)) c1; (.call 102 [tSchool.lst d.schools] (iI c2) true true (.br (c2 == (0 : Int)) (.br ((d.rooms.length : Int) != (b.rooms.length : Int)) (.br ((3 : Int) != (0 : Int)) (.out (.r0 3)) c1) c3) (.lit false c3)))
  | .l0 x0_6 x0_7 => let c1 := d.rooms.getD (x0_7).toNat tCount.zero; let c2 := x0_7 + (1 : Int); let c3 := x0_7 < (d.rooms.length : Int); (.br (decide c3) (.br x0_6 (.need (decide (0 ≤ x0_7) && decide c3) (.call 103 [.agg [iI (c1.seen), iI (c1.miss)]] (.bool (countOk c1)) true true (.need (inR .i64 c2) (.go (.l0 (countOk c1) c2))))) (.need (inR .i64 c2) (.go (.l0 false c2)))) (.br (!x0_6) (.out (.r0 7)) (.out (.r0 0))))
noncomputable def g60 (b : Book) (d : Day) : P60 → List Item × St
  | .e => bd Tryz.f60 [.agg (cC b), .agg [tSchool.lst d.schools, iI d.door.seen, iI d.door.miss, tCount.lst d.rooms, iI d.taken]] 49
  | .l0 x0_6 x0_7 => (cutOf Tryz.f60 0, ⟨mk 51 [(3, .ref 1 0 0), (6, .bool x0_6), (7, iI x0_7)], [.gone, .cells [tSchool.lst d.schools, iI d.door.seen, iI d.door.miss, tCount.lst d.rooms, iI d.taken]], []⟩)
noncomputable def n60 : R60 → Exit × St
  | .r0 r0 => (.ret, ⟨mk 51 [(4, iI r0)], [], []⟩)
noncomputable def v60 : R60 → V
  | .r0 r0 => iI r0
theorem s60 (b : Book) (d : Day) : Sm 0 (g60 b d) (T60 b d) (n60)
  | .e => ⟨400, by kernel_rfl⟩
  | .l0 _ _ => ⟨400, by kernel_rfl⟩
theorem q60 : ∀ r, bodyQ Tryz.prog Tryz.f60 (· = v60 r) (n60 r).1 (n60 r).2
  | .r0 r0 => bq (iI r0) (by kernel_rfl)
theorem w60 (b : Book) (d : Day) {post : V → Prop} (h : WQ (T60 b d) v60 post .e) : PC 60 [.agg (cC b), .agg [tSchool.lst d.schools, iI d.door.seen, iI d.door.miss, tCount.lst d.rooms, iI d.taken]] post :=
  PCalls.wq Tryz.func60 (s60 b d) q60 h
theorem c60 (b : Book) (d : Day) (h : b.rooms.length ≤ 3) : PC 60 [.agg (tBook.cells b), .agg (tDay.cells d)] (· = iI (dayErr b d)) := by
  have hmain : ¬ schoolsErr d.schools ≠ 0 → (d.rooms.length : Int) = b.rooms.length → WP Tryz.prog ⟨none, 0⟩ (T60 b d) (Ends' fun r => v60 r = iI (dayErr b d)) (.l0 (countOk d.door && within d.taken 0 10000) 0) := fun h1 h2 => by
    refine WP.run (fun i => .l0 (countOk d.door && within d.taken 0 10000 && (d.rooms.take i).all countOk) i) (by simp) d.rooms.length (fun i hi => ?_) ?_
    · have hr : inR .i64 ((i : Int) + 1) = true := inR64 (by omega) (by omega)
      have hi' : (i : Int) < d.rooms.length := by omega
      have ht : (d.rooms.take (i + 1)).all countOk = ((d.rooms.take i).all countOk && countOk (d.rooms.getD i zCount)) := by rw [take_snoc zCount d.rooms i hi, List.all_append]; simp
      rw [ht, ← Bool.and_assoc]
      generalize (countOk d.door && within d.taken 0 10000 && (d.rooms.take i).all countOk) = A
      cases A with
      | true =>
        refine WP.once ?_
        simp only [T60, Tr.sure, SS, hi', hi, z5]
        repeat' with_reducible first | intro _ | apply And.intro
        all_goals first | exact (c103 _) | (simp [hr, Go, Ends', v60, -List.getD_eq_getElem?_getD, *]; done)
      | false =>
        refine WP.once ?_
        simp only [T60, Tr.sure, SS, hi', hi, z5]
        repeat' with_reducible first | intro _ | apply And.intro
        all_goals simp [hr, Go, Ends', v60, -List.getD_eq_getElem?_getD, *]
    · rw [List.take_length]
      have e : dayErr b d = if (countOk d.door && within d.taken 0 10000 && d.rooms.all countOk) = true then 0 else 7 := by
        unfold dayErr; rw [if_neg h1, if_neg (fun q => q h2)]
      generalize (countOk d.door && within d.taken 0 10000 && d.rooms.all countOk) = A at *
      cases A with
      | true =>
        refine WP.step ?_
        simp only [T60, Go, Ends', v60, Tr.sure, SS, Int.lt_irrefl]
        repeat' with_reducible first | intro _ | apply And.intro
        all_goals simp [e, Go, Ends', v60, -List.getD_eq_getElem?_getD, *]
      | false =>
        refine WP.step ?_
        simp only [T60, Go, Ends', v60, Tr.sure, SS, Int.lt_irrefl]
        repeat' with_reducible first | intro _ | apply And.intro
        all_goals simp [e, Go, Ends', v60, -List.getD_eq_getElem?_getD, *]
  by_cases h1 : schoolsErr d.schools ≠ 0
  · have e : dayErr b d = schoolsErr d.schools := by unfold dayErr; rw [if_pos h1]
    refine w60 b d (WP.step ?_)
    simp only [T60, Go, Ends', v60, Tr.sure, SS]
    repeat' with_reducible first | intro _ | apply And.intro
    all_goals first | exact (c102 _) | exact (c103 _) | exact (c58 _ _ _) | (simp [e, Go, Ends', v60, -List.getD_eq_getElem?_getD, *]; done) | (simp_all [e, Go, Ends', v60, -List.getD_eq_getElem?_getD]; done)
  · by_cases h2 : (d.rooms.length : Int) = b.rooms.length
    · have hm := hmain h1 h2
      have h1' := Decidable.not_not.1 h1
      cases hc : countOk d.door with
      | true =>
        rw [hc, Bool.true_and] at hm
        refine w60 b d (WP.step ?_)
        simp only [T60, Go, Ends', v60, Tr.sure, SS]
        repeat' with_reducible first | intro _ | apply And.intro
        all_goals first | exact (c102 _) | exact (c103 _) | exact (c58 _ _ _) | exact hm | (simp_all [hc, h1', h2, Go, Ends', v60, -List.getD_eq_getElem?_getD]; done)
      | false =>
        rw [hc, Bool.false_and] at hm
        refine w60 b d (WP.step ?_)
        simp only [T60, Go, Ends', v60, Tr.sure, SS]
        repeat' with_reducible first | intro _ | apply And.intro
        all_goals first | exact (c102 _) | exact (c103 _) | exact (c58 _ _ _) | exact hm | (simp_all [hc, h1', h2, Go, Ends', v60, -List.getD_eq_getElem?_getD]; done)
    · have h1' := Decidable.not_not.1 h1
      have e : dayErr b d = 3 := by unfold dayErr; rw [if_neg h1, if_pos h2]
      refine w60 b d (WP.step ?_)
      simp only [T60, Go, Ends', v60, Tr.sure, SS]
      repeat' with_reducible first | intro _ | apply And.intro
      all_goals first | exact (c102 _) | exact (c103 _) | exact (c58 _ _ _) | (simp [e, h1', h2, Go, Ends', v60, -List.getD_eq_getElem?_getD, *]; done) | (simp_all [e, h1', h2, Go, Ends', v60, -List.getD_eq_getElem?_getD]; done)
inductive P14
  | e
  | l0 (x0_7 : Int)
inductive R14
  | r0 (r0 : Int) (r1 : Int) (r2 : Int)
noncomputable def T14 (b : Book) : P14 → Tr P14 R14
  | .e => let c1 := roomsErr b.rooms; (.call 58 [iI b.price, iI 2, iI 60] (.bool (within b.price 2 60)) true true (.br (!(within b.price 2 60)) (.out (.r0 1 0 7)) (.need (decide ((2 : Int) ≠ 0)) (.br ((b.price.tmod (2 : Int)) == (1 : Int)) (.out (.r0 1 0 2)) (.call 59 [tRoom.lst b.rooms] (.tuple [iI (c1.1), iI (c1.2)]) true true (.br (c1.2 != (0 : Int)) (.out (.r0 2 (c1.1) (c1.2))) (.br (decide ((b.days.length : Int) > (4 : Int))) (.out (.r0 3 0 3)) (.go (.l0 0)))))))))
  | .l0 x0_7 => let c1 := b.days.getD (x0_7).toNat tDay.zero; let c2 := x0_7 < (b.days.length : Int); (.br (decide c2) (.front [] [] (((decide (0 ≤ x0_7) && decide c2) && true) && true) true (.call 60 [.agg (cC b), .agg [tSchool.lst (c1.schools), iI (c1.door.seen), iI (c1.door.miss), tCount.lst (c1.rooms), iI (c1.taken)]] (iI (dayErr b c1)) true true (.br ((dayErr b c1) != (0 : Int)) (.out (.r0 3 x0_7 (dayErr b c1))) (.need (inR .i64 (x0_7 + (1 : Int))) (.go (.l0 (x0_7 + (1 : Int)))))))) (.out (.r0 0 0 0)))
noncomputable def g14 (b : Book) : P14 → List Item × St
  | .e => bd Tryz.f14 [.agg (cC b)] 47
  | .l0 x0_7 => (cutOf Tryz.f14 0, ⟨mk 48 [(1, .ref 0 0 0), (7, iI x0_7)], [.cells (cC b)], []⟩)
noncomputable def n14 : R14 → Exit × St
  | .r0 r0 r1 r2 => (.ret, ⟨mk 48 [(2, iI r0), (3, iI r1), (4, iI r2)], [], []⟩)
noncomputable def v14 : R14 → V
  | .r0 r0 r1 r2 => .tuple [iI r0, iI r1, iI r2]
theorem s14 (b : Book) : Sm 0 (g14 b) (T14 b) (n14)
  | .e => ⟨400, by kernel_rfl⟩
  | .l0 _ => ⟨400, by kernel_rfl⟩
theorem q14 : ∀ r, bodyQ Tryz.prog Tryz.f14 (· = v14 r) (n14 r).1 (n14 r).2
  | .r0 r0 r1 r2 => bq (.tuple [iI r0, iI r1, iI r2]) (by kernel_rfl)
theorem w14 (b : Book) {post : V → Prop} (h : WQ (T14 b) v14 post .e) : PC 14 [.agg (cC b)] post :=
  PCalls.wq Tryz.func14 (s14 b) q14 h
theorem c14 (b : Book) : PC 14 [.agg (tBook.cells b)] (· = .tuple [iI (bookCheck b).1, iI (bookCheck b).2.1, iI (bookCheck b).2.2]) := by
  refine w14 _ (WP.step ?_)
  simp only [T14, Go, Ends', v14, Tr.sure, SS]
  repeat' with_reducible first | intro _ | apply And.intro
  all_goals first | exact c58 _ _ _ | exact c59 _ | (simp [bookCheck, Go, Ends', v14, -List.getD_eq_getElem?_getD, *]; done) | skip
  rename_i h1 h2 h3 h4 h5
  have h6 := (okRooms h4).1
  refine WP.findE (fun i => .l0 i) rfl b.days tDay.zero (fun _ d => dayErr b d) (fun i hi => ?_) fun hI => ?_
  · have hr : inR .i64 ((i : Int) + 1) = true := inR64 (by omega) (by omega)
    refine WP.once ?_
    simp only [T14, Tr.sure, SS, hi]
    repeat' with_reducible first | intro _ | apply And.intro
    all_goals first | exact c60 _ _ h6 | (simp [hr, bookCheck, Go, Ends', v14, -List.getD_eq_getElem?_getD, *]; done) | (simp +contextual [hr, bookCheck, Go, Ends', v14, -List.getD_eq_getElem?_getD, *]; done)
  · refine WP.step ?_
    simp only [T14, Go, Ends', v14, Tr.sure, SS]
    repeat' with_reducible first | intro _ | apply And.intro
    all_goals simp [bookCheck, hI, Go, Ends', v14, -List.getD_eq_getElem?_getD, *]
inductive P62
  | e
inductive R62
  | r0 (r0 : Int)
noncomputable def T62 (b : Book) (n : Int) : P62 → Tr P62 R62
  | .e => let c1 := (b.price.tdiv (2 : Int)) * (n - (n.tdiv (13 : Int))); (.need (decide ((2 : Int) ≠ 0) && inR .i64 (b.price.tdiv (2 : Int))) (.need (decide ((13 : Int) ≠ 0) && inR .i64 (n.tdiv (13 : Int))) (.need (inR .i64 (n - (n.tdiv (13 : Int)))) (.need (inR .i64 c1) (.out (.r0 c1))))))
noncomputable def g62 (b : Book) (n : Int) : P62 → List Item × St
  | .e => bd Tryz.f62 [.agg (cC b), iI n] 11
noncomputable def n62 : R62 → Exit × St
  | .r0 r0 => (.ret, ⟨mk 13 [(4, iI r0)], [], []⟩)
noncomputable def v62 : R62 → V
  | .r0 r0 => iI r0
theorem s62 (b : Book) (n : Int) : Sm 0 (g62 b n) (T62 b n) (n62)
  | .e => ⟨400, by kernel_rfl⟩
theorem q62 : ∀ r, bodyQ Tryz.prog Tryz.f62 (· = v62 r) (n62 r).1 (n62 r).2
  | .r0 r0 => bq (iI r0) (by kernel_rfl)
theorem w62 (b : Book) (n : Int) {post : V → Prop} (h : WQ (T62 b n) v62 post .e) : PC 62 [.agg (cC b), iI n] post :=
  PCalls.wq Tryz.func62 (s62 b n) q62 h
theorem c62 (b : Book) (n : Int) (h : OkBook b) (hn : 0 ≤ n ∧ n ≤ 60) : PC 62 [.agg (tBook.cells b), iI n] (· = iI (feeR b n)) := by
  have hp := half_in h
  have hf := fee_in h hn
  have r1 : inR .i64 (b.price.tdiv 2) = true := inR64 (by omega) (by omega)
  have r2 : inR .i64 (n.tdiv 13) = true := inR64 (by omega) (by omega)
  have r3 : inR .i64 (n - n.tdiv 13) = true := inR64 (by omega) (by omega)
  have r4 : inR .i64 (b.price.tdiv 2 * (n - n.tdiv 13)) = true := by have := hf.1; have := hf.2.1; unfold feeR at *; exact inR64 (by omega) (by omega)
  clear hp hf
  refine w62 b n (WP.step ?_)
  simp only [T62, Go, Ends', v62, Tr.sure, SS]
  repeat' with_reducible first | intro _ | apply And.intro
  all_goals simp [r1, r2, r3, r4, feeR, Go, Ends', v62, -List.getD_eq_getElem?_getD, *]
inductive P44
  | e
  | l0 (x0_5 : Int) (x0_6 : Int)
inductive R44
  | r0 (r0 : Int)
noncomputable def T44 (b : Book) (d : Int) : P44 → Tr P44 R44
  | .e => (.go (.l0 0 0))
  | .l0 x0_5 x0_6 => let c1 := (((b.days.getD (d).toNat tDay.zero).schools).getD (x0_6).toNat tSchool.zero).children; let c2 := x0_6 < (((b.days.getD (d).toNat tDay.zero).schools.length) : Int); let c3 := decide (0 ≤ d) && decide (d < (b.days.length : Int)); (.need c3 (.br (decide c2) (.front [(12, 62, [.agg (cC b), iI c1], iI (feeR b c1))] [] ((c3 && ((decide (0 ≤ x0_6) && decide c2) && ((inR .i64 (x0_5 + (feeR b c1))) && true))) && true) true (.need (inR .i64 (x0_6 + (1 : Int))) (.go (.l0 (x0_5 + (feeR b c1)) (x0_6 + (1 : Int)))))) (.out (.r0 x0_5))))
noncomputable def g44 (b : Book) (d : Int) : P44 → List Item × St
  | .e => bd Tryz.f44 [.agg (cC b), iI d] 31
  | .l0 x0_5 x0_6 => (cutOf Tryz.f44 0, ⟨mk 33 [(1, iI d), (2, .ref 0 0 0), (5, iI x0_5), (6, iI x0_6)], [.cells (cC b)], []⟩)
noncomputable def n44 : R44 → Exit × St
  | .r0 r0 => (.ret, ⟨mk 33 [(4, iI r0)], [], []⟩)
noncomputable def v44 : R44 → V
  | .r0 r0 => iI r0
theorem s44 (b : Book) (d : Int) : Sm 0 (g44 b d) (T44 b d) (n44)
  | .e => ⟨400, by kernel_rfl⟩
  | .l0 _ _ => ⟨400, by kernel_rfl⟩
theorem q44 : ∀ r, bodyQ Tryz.prog Tryz.f44 (· = v44 r) (n44 r).1 (n44 r).2
  | .r0 r0 => bq (iI r0) (by kernel_rfl)
theorem w44 (b : Book) (d : Int) {post : V → Prop} (h : WQ (T44 b d) v44 post .e) : PC 44 [.agg (cC b), iI d] post :=
  PCalls.wq Tryz.func44 (s44 b d) q44 h
theorem c44 (b : Book) (d : Int) (h : OkBook b) (hd : 0 ≤ d ∧ d < b.days.length) : PC 44 [.agg (tBook.cells b), iI d] (· = iI (feesD b d)) := by
  have hday := h.day _ (getD_mem zDay b.days d.toNat (by omega))
  have hns := hday.ns
  unfold feesD feesR dayOf
  refine w44 b d (WP.step ?_)
  simp only [T44, Go, Ends', v44, Tr.sure, SS]
  repeat' with_reducible first | intro _ | apply And.intro
  generalize hD : b.days.getD d.toNat zDay = D at *
  refine WP.run (fun i => .l0 (feesTo b D.schools i) i) rfl D.schools.length (fun i hi => ?_) ?_
  · have hin := fees_in h hday.school i (by omega)
    have hs := hday.school _ (getD_mem zSchool D.schools i hi)
    have hf := fee_in h (n := (D.schools.getD i zSchool).children) (by omega)
    have hc := c62 b (D.schools.getD i zSchool).children h (by omega)
    have hi' : (i : Int) < D.schools.length := by omega
    have r1 : inR .i64 (feesTo b D.schools i + feeR b (D.schools.getD i zSchool).children) = true := inR64 (by omega) (by omega)
    have r2 : inR .i64 ((i : Int) + 1) = true := inR64 (by omega) (by omega)
    rw [fees_next]
    refine WP.once ?_
    simp only [T44, Tr.sure, SS, hi', hi, z3, z8, hD]
    repeat' with_reducible first | intro _ | apply And.intro
    all_goals first | exact hc | (simp [r1, r2, hd, Go, Ends', v44, -List.getD_eq_getElem?_getD, *]; done)
  · refine WP.step ?_
    simp only [T44, Go, Ends', v44, Tr.sure, SS, z8, hD, Int.lt_irrefl]
    repeat' with_reducible first | intro _ | apply And.intro
    all_goals simp [hd, Go, Ends', v44, -List.getD_eq_getElem?_getD, *]
inductive P66
  | e
  | l0 (x0_5 : Int) (x0_6 : Int)
inductive R66
  | r0 (r0 : Int)
noncomputable def T66 (b : Book) (d : Int) : P66 → Tr P66 R66
  | .e => (.go (.l0 0 0))
  | .l0 x0_5 x0_6 => let c1 := x0_5 + (((b.days.getD (d).toNat tDay.zero).schools).getD (x0_6).toNat tSchool.zero).children; let c2 := x0_6 < (((b.days.getD (d).toNat tDay.zero).schools.length) : Int); let c3 := decide (0 ≤ d) && decide (d < (b.days.length : Int)); (.need c3 (.br (decide c2) (.need c3 (.need (decide (0 ≤ x0_6) && decide c2) (.need (inR .i64 c1) (.need (inR .i64 (x0_6 + (1 : Int))) (.go (.l0 c1 (x0_6 + (1 : Int)))))))) (.out (.r0 x0_5))))
noncomputable def g66 (b : Book) (d : Int) : P66 → List Item × St
  | .e => bd Tryz.f66 [.agg (cC b), iI d] 29
  | .l0 x0_5 x0_6 => (cutOf Tryz.f66 0, ⟨mk 31 [(1, iI d), (2, .ref 0 0 0), (5, iI x0_5), (6, iI x0_6)], [.cells (cC b)], []⟩)
noncomputable def n66 : R66 → Exit × St
  | .r0 r0 => (.ret, ⟨mk 31 [(4, iI r0)], [], []⟩)
noncomputable def v66 : R66 → V
  | .r0 r0 => iI r0
theorem s66 (b : Book) (d : Int) : Sm 0 (g66 b d) (T66 b d) (n66)
  | .e => ⟨400, by kernel_rfl⟩
  | .l0 _ _ => ⟨400, by kernel_rfl⟩
theorem q66 : ∀ r, bodyQ Tryz.prog Tryz.f66 (· = v66 r) (n66 r).1 (n66 r).2
  | .r0 r0 => bq (iI r0) (by kernel_rfl)
theorem w66 (b : Book) (d : Int) {post : V → Prop} (h : WQ (T66 b d) v66 post .e) : PC 66 [.agg (cC b), iI d] post :=
  PCalls.wq Tryz.func66 (s66 b d) q66 h
theorem c66 (b : Book) (d : Int) (h : OkBook b) (hd : 0 ≤ d ∧ d < b.days.length) : PC 66 [.agg (tBook.cells b), iI d] (· = iI (pupilsD b d)) := by
  have hday := h.day _ (getD_mem zDay b.days d.toNat (by omega))
  have hns := hday.ns
  unfold pupilsD pupilsR dayOf
  refine w66 b d (WP.step ?_)
  simp only [T66, Go, Ends', v66, Tr.sure, SS]
  repeat' with_reducible first | intro _ | apply And.intro
  generalize hD : b.days.getD d.toNat zDay = D at *
  refine WP.run (fun i => .l0 (sumS D.schools i) i) rfl D.schools.length (fun i hi => ?_) ?_
  · have hin := sum_in hday.school i (by omega)
    have hs := hday.school _ (getD_mem zSchool D.schools i hi)
    have hi' : (i : Int) < D.schools.length := by omega
    have r1 : inR .i64 (sumS D.schools i + (D.schools.getD i zSchool).children) = true := inR64 (by omega) (by omega)
    have r2 : inR .i64 ((i : Int) + 1) = true := inR64 (by omega) (by omega)
    rw [sumS_next]
    refine WP.once ?_
    simp only [T66, Tr.sure, SS, hi', hi, z3, z8, hD]
    repeat' with_reducible first | intro _ | apply And.intro
    all_goals simp [r1, r2, hd, Go, Ends', v66, -List.getD_eq_getElem?_getD, *]
  · refine WP.step ?_
    simp only [T66, Go, Ends', v66, Tr.sure, SS, z8, hD, Int.lt_irrefl]
    repeat' with_reducible first | intro _ | apply And.intro
    all_goals simp [hd, Go, Ends', v66, -List.getD_eq_getElem?_getD, *]
inductive P45
  | e
  | l0 (x0_5 : Int) (x0_6 : Int)
inductive R45
  | r0 (r0 : Int)
noncomputable def T45 (b : Book) (r : List Int) : P45 → Tr P45 R45
  | .e => (.go (.l0 0 0))
  | .l0 x0_5 x0_6 => let c1 := (r.getD (x0_6).toNat tint.zero) * (b.rooms.getD (x0_6).toNat tRoom.zero).more; (.br (decide (x0_6 < (r.length : Int))) (.front [] [] (((decide (0 ≤ x0_6) && decide (x0_6 < (r.length : Int))) && ((decide (0 ≤ x0_6) && decide (x0_6 < (b.rooms.length : Int))) && ((inR .i64 c1) && ((inR .i64 (x0_5 + c1)) && true)))) && true) true (.need (inR .i64 (x0_6 + (1 : Int))) (.go (.l0 (x0_5 + c1) (x0_6 + (1 : Int)))))) (.out (.r0 x0_5)))
noncomputable def g45 (b : Book) (r : List Int) : P45 → List Item × St
  | .e => bd Tryz.f45 [.agg (cC b), tint.lst r] 25
  | .l0 x0_5 x0_6 => (cutOf Tryz.f45 0, ⟨mk 27 [(1, tint.lst r), (2, .ref 0 0 0), (5, iI x0_5), (6, iI x0_6)], [.cells (cC b)], []⟩)
noncomputable def n45 : R45 → Exit × St
  | .r0 r0 => (.ret, ⟨mk 27 [(4, iI r0)], [], []⟩)
noncomputable def v45 : R45 → V
  | .r0 r0 => iI r0
theorem s45 (b : Book) (r : List Int) : Sm 0 (g45 b r) (T45 b r) (n45)
  | .e => ⟨400, by kernel_rfl⟩
  | .l0 _ _ => ⟨400, by kernel_rfl⟩
theorem q45 : ∀ r, bodyQ Tryz.prog Tryz.f45 (· = v45 r) (n45 r).1 (n45 r).2
  | .r0 r0 => bq (iI r0) (by kernel_rfl)
theorem w45 (b : Book) (r : List Int) {post : V → Prop} (h : WQ (T45 b r) v45 post .e) : PC 45 [.agg (cC b), tint.lst r] post :=
  PCalls.wq Tryz.func45 (s45 b r) q45 h
theorem c45 (b : Book) (r : List Int) (h : OkBook b) (hr : ∀ n ∈ r, 0 ≤ n ∧ n ≤ 100000) (hl : r.length ≤ b.rooms.length) : PC 45 [.agg (tBook.cells b), tint.lst r] (· = iI (extraR b r)) := by
  have h3 := h.nr
  refine w45 b r (WP.step ?_)
  simp only [T45, Go, Ends', v45, Tr.sure, SS]
  repeat' with_reducible first | intro _ | apply And.intro
  refine WP.run (fun i => .l0 (extraTo b r i) i) rfl r.length (fun i hi => ?_) ?_
  · have hin := extra_in h hr hl i (by omega)
    have hs := hin.2.2 hi
    have hi' : (i : Int) < r.length := by omega
    have hb' : (i : Int) < b.rooms.length := by omega
    have r0 : inR .i64 (r.getD i 0 * (b.rooms.getD i zRoom).more) = true := inR64 (by omega) (by omega)
    have r1 : inR .i64 (extraTo b r i + r.getD i 0 * (b.rooms.getD i zRoom).more) = true := inR64 (by omega) (by omega)
    have r2 : inR .i64 ((i : Int) + 1) = true := inR64 (by omega) (by omega)
    rw [extra_next]
    refine WP.once ?_
    simp only [T45, Tr.sure, SS, hi', hb', hi, z1, z2]
    repeat' with_reducible first | intro _ | apply And.intro
    all_goals simp [r0, r1, r2, Go, Ends', v45, -List.getD_eq_getElem?_getD, *]
  · refine WP.step ?_
    simp only [T45, Go, Ends', v45, Tr.sure, SS, Int.lt_irrefl]
    repeat' with_reducible first | intro _ | apply And.intro
    all_goals simp [extraR, Go, Ends', v45, -List.getD_eq_getElem?_getD, *]
end
noncomputable section
theorem tel_one (n : Int) {r j : Nat} (hr : r < 1) (hj : j < 1) : VLe (litC 1 1 [iI n] r j) (rowsRev tint [n] r j) := by
  obtain rfl : r = 0 := by omega
  obtain rfl : j = 0 := by omega
  exact VLe.refl _
theorem VLe.encN {τ : Type} (E : Ty τ) (l : List τ) {n : Nat} (h : n = l.length) : VLe (.list E.w n (rowsOf E l)) (E.lst l) := by subst h; exact VLe.refl _
end
noncomputable section
theorem tightDay {b : Book} {d : Day} (h : dayErr b d = 0) : d.door.miss ≤ 5 ∧ ∀ c ∈ d.rooms, c.miss ≤ 5 := by
  simp only [dayErr] at h
  split at h
  · rename_i hne; exact absurd h hne
  split at h
  · cases h
  split at h
  case isFalse => cases h
  rename_i h3
  simp only [Bool.and_eq_true, List.all_eq_true, countOk_iff, within_iff] at h3
  exact ⟨h3.1.1.2.2, fun c hc => (h3.2 c hc).2.2⟩
end
noncomputable section
theorem first_how (b : Book) (d : Int) : (∃ f, firstT b d = (zTruth, 0, f) ∧ f ≠ 0 ∧ (askedR b d = 0 → f = 8 ∧ (agreeD b d).length = 0)) ∨ (askedR b d = 0 ∧ 0 < (agreeD b d).length ∧ firstT b d = (bestD (agreeD b d), ((agreeD b d).length : Int), 0)) := by
  by_cases ha : askedR b d = 0
  · by_cases hz : (agreeD b d).length = 0
    · have hx : explainedR b d (askedR b d) = ([], 8) := by unfold explainedR; rw [if_neg (fun q => q ha), if_pos hz]
      left
      refine ⟨8, ?_, by decide, fun _ => ⟨rfl, hz⟩⟩
      unfold firstT; rw [hx]; rfl
    · have hx : explainedR b d (askedR b d) = (agreeD b d, 0) := by unfold explainedR; rw [if_neg (fun q => q ha), if_neg hz]
      right
      refine ⟨ha, by omega, ?_⟩
      unfold firstT; rw [hx]; rfl
  · have hx : explainedR b d (askedR b d) = ([], askedR b d) := by unfold explainedR; rw [if_pos ha]
    left
    refine ⟨askedR b d, ?_, ha, fun h => absurd h ha⟩
    unfold firstT; rw [hx, if_pos ha]; rfl
theorem first_len (b : Book) (d : Int) : (firstT b d).1.rooms.length ≤ 1000 := by
  rcases first_how b d with ⟨f, e, _⟩ | ⟨ha, h0, e⟩
  · rw [e]; show (0 : Nat) ≤ 1000; decide
  · rw [e]
    obtain ⟨h, hd1, hd2, hday⟩ := asked_ok ha
    have h1 := (agreeD_in h hday _ (bestD_mem h0)).1
    have h2 := h.nr
    show (bestD (agreeD b d)).rooms.length ≤ 1000
    omega
end
noncomputable section
def validR (b : Book) : Bool := (bookCheck b).2.2 == 0
inductive P36
  | e
inductive R36
  | r0 (r0 : Bool)
noncomputable def T36 (b : Book) : P36 → Tr P36 R36
  | .e => let c1 := bookCheck b; (.call 14 [.agg (cC b)] (.tuple [iI (c1.1), iI (c1.2.1), iI (c1.2.2)]) true true (.out (.r0 (c1.2.2 == (0 : Int)))))
noncomputable def g36 (b : Book) : P36 → List Item × St
  | .e => bd Tryz.f36 [.agg (cC b)] 13
noncomputable def n36 : R36 → Exit × St
  | .r0 r0 => (.ret, ⟨mk 14 [(2, .bool r0)], [], []⟩)
noncomputable def v36 : R36 → V
  | .r0 r0 => .bool r0
theorem s36 (b : Book) : Sm 0 (g36 b) (T36 b) (n36)
  | .e => ⟨400, by kernel_rfl⟩
theorem q36 : ∀ r, bodyQ Tryz.prog Tryz.f36 (· = v36 r) (n36 r).1 (n36 r).2
  | .r0 r0 => bq (.bool r0) (by kernel_rfl)
theorem w36 (b : Book) {post : V → Prop} (h : WQ (T36 b) v36 post .e) : PC 36 [.agg (cC b)] post :=
  PCalls.wq Tryz.func36 (s36 b) q36 h
theorem c36 (b : Book) : PC 36 [.agg (tBook.cells b)] (· = .bool (validR b)) := by
  refine w36 b (WP.step ?_)
  simp only [T36, Go, Ends', v36, Tr.sure, SS]
  repeat' with_reducible first | intro _ | apply And.intro
  all_goals first | exact (c14 b) | (simp [validR, Go, Ends', v36, -List.getD_eq_getElem?_getD, *]; done)
def insideR (n : Int) (s : Span) : Bool := within n s.lo s.hi
inductive P39
  | e
inductive R39
  | r0 (r0 : Bool)
noncomputable def T39 (n : Int) (s : Span) : P39 → Tr P39 R39
  | .e => (.call 91 [iI n, iI s.lo, iI s.hi] (.bool (within n s.lo s.hi)) true true (.out (.r0 (within n s.lo s.hi))))
noncomputable def g39 (n : Int) (s : Span) : P39 → List Item × St
  | .e => bd Tryz.f39 [iI n, .agg [iI s.lo, iI s.hi]] 9
noncomputable def n39 : R39 → Exit × St
  | .r0 r0 => (.ret, ⟨mk 11 [(4, .bool r0)], [], []⟩)
noncomputable def v39 : R39 → V
  | .r0 r0 => .bool r0
theorem s39 (n : Int) (s : Span) : Sm 0 (g39 n s) (T39 n s) (n39)
  | .e => ⟨400, by kernel_rfl⟩
theorem q39 : ∀ r, bodyQ Tryz.prog Tryz.f39 (· = v39 r) (n39 r).1 (n39 r).2
  | .r0 r0 => bq (.bool r0) (by kernel_rfl)
theorem w39 (n : Int) (s : Span) {post : V → Prop} (h : WQ (T39 n s) v39 post .e) : PC 39 [iI n, .agg [iI s.lo, iI s.hi]] post :=
  PCalls.wq Tryz.func39 (s39 n s) q39 h
theorem c39 (n : Int) (s : Span) : PC 39 [iI n, .agg (tSpan.cells s)] (· = .bool (insideR n s)) := by
  refine w39 n s (WP.step ?_)
  simp only [T39, Go, Ends', v39, Tr.sure, SS]
  repeat' with_reducible first | intro _ | apply And.intro
  all_goals first | exact (c91 _ _ _) | (simp [insideR, Go, Ends', v39, -List.getD_eq_getElem?_getD, *]; done)
def ofDay (d : Int) (l : List Entry) : List Int := (l.filter fun e => e.day == d).map fun e => e.of
inductive P40
  | e
  | l0 (x0_6 : Int) (a0_0 : List Int)
inductive R40
  | r0 (r0 : List Int)
noncomputable def T40 (l : List Entry) (d : Int) : P40 → Tr P40 R40
  | .e => (.wait 4 (.own 5 3 1 (.go (.l0 0 ([])))))
  | .l0 x0_6 a0_0 => let c1 := decide (0 ≤ x0_6) && decide (x0_6 < (l.length : Int)); let c2 := x0_6 + (1 : Int); let c3 := l.getD (x0_6).toNat tEntry.zero; (.br (decide (x0_6 < (l.length : Int))) (.need c1 (.br (c3.day == d) (.need c1 (.need ((decide (a0_0.length = a0_0.length) && decide (a0_0.length + 1 ≤ 4294967296)) && decide (1 ≤ 1)) (.scal (fun _ => true) (.need (inR .i64 c2) (.go (.l0 c2 (c3.of :: a0_0))))))) (.need (inR .i64 c2) (.go (.l0 c2 a0_0))))) (.out (.r0 a0_0)))
noncomputable def g40 (l : List Entry) (d : Int) : P40 → List Item × St
  | .e => bd Tryz.f40 [tEntry.lst l, iI d] 27
  | .l0 x0_6 a0_0 => (cutOf Tryz.f40 0, ⟨mk 29 [(0, tEntry.lst l), (1, iI d), (5, .row 0 a0_0.length), (6, iI x0_6)], [.rows 3 1 a0_0.length (rowsRev tint a0_0)], []⟩)
noncomputable def n40 : R40 → Exit × St
  | .r0 r0 => (.ret, ⟨mk 29 [(4, .row 0 r0.length)], [.rows 3 1 r0.length (rowsRev tint r0)], []⟩)
noncomputable def v40 : R40 → V
  | .r0 r0 => tint.lst r0.reverse
theorem s40 (l : List Entry) (d : Int) : Sm 0 (g40 l d) (T40 l d) (n40)
  | .e => ⟨400, by kernel_rfl⟩
  | .l0 _ _ => ⟨400, by kernel_rfl⟩
theorem q40 : ∀ r, bodyQ Tryz.prog Tryz.f40 (· = v40 r) (n40 r).1 (n40 r).2
  | .r0 r0 => ⟨.inr rfl, by simp [n40], (.row 0 r0.length), (tint.lst r0.reverse), by kernel_rfl, (.weak (.row rfl (Nat.le_refl _)) (VLe.rev tint r0)), rfl⟩
theorem w40 (l : List Entry) (d : Int) {post : V → Prop} (h : WQ (T40 l d) v40 post .e) : PC 40 [tEntry.lst l, iI d] post :=
  PCalls.wq Tryz.func40 (s40 l d) q40 h
theorem ofDay_next (d : Int) (l : List Entry) {i : Nat} (hi : i < l.length) : (ofDay d (l.take (i + 1))).reverse = if (l.getD i zEntry).day == d then (l.getD i zEntry).of :: (ofDay d (l.take i)).reverse else (ofDay d (l.take i)).reverse := by
  unfold ofDay
  rw [take_snoc zEntry l i hi, List.filter_append, List.map_append, List.reverse_append]
  cases h : (l.getD i zEntry).day == d
  · simp only [List.filter, h]; rfl
  · simp only [List.filter, h]; rfl
theorem c40 (l : List Entry) (d : Int) (hm : l.length ≤ 1000000) : PC 40 [tEntry.lst l, iI d] (· = tint.lst (ofDay d l)) := by
  refine w40 l d (WP.step ?_)
  simp only [T40, Go, Ends', v40, Tr.sure, SS]
  repeat' with_reducible first | intro _ | apply And.intro
  refine WP.run (fun i => .l0 (i : Int) (ofDay d (l.take i)).reverse) rfl l.length (fun i hi => ?_) ?_
  · have hr : inR .i64 ((i : Int) + 1) = true := inR64 (by omega) (by omega)
    have hi' : (i : Int) < l.length := by omega
    have hn := ofDay_next d l hi
    have hle : (ofDay d (l.take i)).reverse.length + 1 ≤ 4294967296 := by
      have h1 := List.length_filter_le (fun e : Entry => e.day == d) (l.take i)
      rw [List.length_reverse]; unfold ofDay; rw [List.length_map]; rw [List.length_take] at h1; omega
    generalize (ofDay d (l.take (i + 1))).reverse = B at *
    generalize (ofDay d (l.take i)).reverse = A at *
    generalize hx : l.getD i zEntry = x at *
    refine WP.once ?_
    simp only [T40, Tr.sure, SS, hi', hi, hx, z11]
    repeat' with_reducible first | intro _ | apply And.intro
    all_goals simp [hr, hle, hn, Go, Ends', v40, -List.getD_eq_getElem?_getD, *]
  · rw [List.take_length]
    refine WP.step ?_
    simp only [T40, Go, Ends', v40, Tr.sure, SS, Int.lt_irrefl]
    repeat' with_reducible first | intro _ | apply And.intro
    all_goals simp [Go, Ends', v40, -List.getD_eq_getElem?_getD, *]
end
noncomputable section
theorem getD_app_left (p : List Int) (n : Int) {k : Nat} (h : k < p.length) : (p ++ [n]).getD k 0 = p.getD k 0 := by
  rw [List.getD_eq_getElem?_getD, List.getElem?_append_left h, List.getD_eq_getElem?_getD]
theorem getD_app_last (p : List Int) (n : Int) : (p ++ [n]).getD p.length 0 = n := by
  rw [List.getD_eq_getElem?_getD, List.getElem?_append_right (Nat.le_refl _), Nat.sub_self]; rfl
theorem mem_roomsN {b : Book} {D : Day} {all : Int} {off : List Int} : ∀ (i : Nat) (l : List Int), l ∈ roomsN b D all off i ↔ l.length = i ∧ ∀ k, k < i → (spanAt b D all off k).lo ≤ l.getD k 0 ∧ l.getD k 0 ≤ (spanAt b D all off k).hi
  | 0, l => by
    simp only [roomsN, List.mem_singleton]
    constructor
    · rintro rfl; exact ⟨rfl, fun k hk => absurd hk (Nat.not_lt_zero _)⟩
    · exact fun h => List.length_eq_zero_iff.1 h.1
  | i + 1, l => by
    simp only [roomsN, List.mem_flatMap, growL, List.mem_map, mem_rangeI]
    constructor
    · rintro ⟨p, hp, n, hn, rfl⟩
      obtain ⟨h1, h2⟩ := (mem_roomsN i p).1 hp
      refine ⟨by simp [h1], fun k hk => ?_⟩
      rcases Nat.lt_or_ge k i with q | q
      · rw [getD_app_left p n (by omega)]; exact h2 k q
      · obtain rfl : k = p.length := by omega
        rw [getD_app_last, h1]; exact hn
    · rintro ⟨h1, h2⟩
      refine ⟨l.take i, (mem_roomsN i _).2 ⟨by rw [List.length_take]; omega, fun k hk => ?_⟩, l.getD i 0, h2 i (by omega), ?_⟩
      · have := h2 k (by omega)
        rw [List.getD_eq_getElem?_getD, List.getElem?_take_of_lt hk, ← List.getD_eq_getElem?_getD]; exact this
      · rw [← take_snoc 0 l i (by omega), List.take_of_length_le (by omega)]
theorem extra_app (b : Book) (p : List Int) (n : Int) : ∀ i, i ≤ p.length → extraTo b (p ++ [n]) i = extraTo b p i
  | 0, _ => rfl
  | i + 1, h => by rw [extra_next, extra_next, extra_app b p n i (by omega), getD_app_left p n (by omega)]
theorem mem_extN {b : Book} {D : Day} {all : Int} {off : List Int} : ∀ (i : Nat) (v : Int), v ∈ extN b D all off i ↔ ∃ l ∈ roomsN b D all off i, extraTo b l i = v
  | 0, v => by
    simp only [extN, roomsN, List.mem_singleton]
    constructor
    · rintro rfl; exact ⟨[], rfl, rfl⟩
    · rintro ⟨l, rfl, rfl⟩; rfl
  | i + 1, v => by
    rw [extN, mem_addAll]
    simp only [List.not_mem_nil, false_or, List.mem_flatMap, candL, List.mem_map, mem_rangeI]
    constructor
    · rintro ⟨x, hx, n, hn, rfl⟩
      obtain ⟨p, hp, rfl⟩ := (mem_extN i x).1 hx
      have hl := ((mem_roomsN i p).1 hp).1
      refine ⟨p ++ [n], ?_, ?_⟩
      · simp only [roomsN, List.mem_flatMap, growL, List.mem_map, mem_rangeI]
        exact ⟨p, hp, n, hn, rfl⟩
      · rw [extra_next, extra_app b p n i (by omega)]
        subst hl
        rw [getD_app_last]
    · rintro ⟨l, hl, rfl⟩
      simp only [roomsN, List.mem_flatMap, growL, List.mem_map, mem_rangeI] at hl
      obtain ⟨p, hp, n, hn, rfl⟩ := hl
      have hl := ((mem_roomsN i p).1 hp).1
      refine ⟨extraTo b p i, (mem_extN i _).2 ⟨p, hp, rfl⟩, n, hn, ?_⟩
      rw [extra_next, extra_app b p n i (by omega)]
      subst hl
      rw [getD_app_last]
theorem mem_extras {b : Book} {d all : Int} {off : List Int} {v : Int} : v ∈ extrasR b d all off ↔ ∃ l ∈ inRoomsR b d all off, extraR b l = v := by
  unfold extrasR inRoomsR
  rw [mem_extN]
  constructor
  · rintro ⟨l, hl, e⟩
    refine ⟨l, hl, ?_⟩
    unfold extraR; rw [((mem_roomsN _ _).1 hl).1]; exact e
  · rintro ⟨l, hl, e⟩
    refine ⟨l, hl, ?_⟩
    unfold extraR at e; rw [((mem_roomsN _ _).1 hl).1] at e; exact e
theorem mem_agree {b : Book} {d : Int} {t : Truth} : t ∈ agreeD b d ↔ ∃ n, (firstN b d ≤ n ∧ n ≤ (doorS b d).hi) ∧ ∃ l ∈ inRoomsR b d n [], t ∈ agreeAt b d n l := by
  simp only [agreeD, agreeN, List.mem_flatMap, mem_rangeI]
theorem pay_at {b : Book} {d n : Int} {l : List Int} : payOk b d n (extraR b l) = true ↔ ∃ t, t ∈ agreeAt b d n l := by
  unfold agreeAt
  have e : payOk b d n (extraR b l) = true ↔ (0 ≤ leftR b d n l ∧ (leftR b d n l).tmod (b.price.tdiv 2) = 0 ∧ (leftR b d n l).tdiv (b.price.tdiv 2) ≤ n - pupilsD b d) := by
    unfold payOk leftR
    simp only [Bool.and_eq_true, decide_eq_true_eq]
  rw [e]
  constructor
  · intro h; rw [if_pos h]; exact ⟨_, List.mem_cons_self⟩
  · rintro ⟨t, ht⟩
    split at ht
    · rename_i h; exact h
    · exact absurd ht List.not_mem_nil
theorem explains_nil {b : Book} {d : Int} : explainsR b d [] = true ↔ 0 < (agreeD b d).length := by
  have e : explainsR b d [] = true ↔ ∃ t, t ∈ agreeD b d := by
    unfold explainsR
    rw [List.any_eq_true]
    constructor
    · rintro ⟨n, hn, h⟩
      rw [mem_rangeI] at hn
      unfold explAt at h
      have h0 : hasN [] 3 = false := rfl
      rw [h0, Bool.and_false, Bool.false_or, List.any_eq_true] at h
      obtain ⟨v, hv, hp⟩ := h
      obtain ⟨l, hl, rfl⟩ := mem_extras.1 hv
      obtain ⟨t, ht⟩ := pay_at.1 hp
      exact ⟨t, mem_agree.2 ⟨n, hn, l, hl, ht⟩⟩
    · rintro ⟨t, ht⟩
      obtain ⟨n, hn, l, hl, ht⟩ := mem_agree.1 ht
      refine ⟨n, mem_rangeI.2 hn, ?_⟩
      unfold explAt
      rw [Bool.or_eq_true]
      exact .inr (List.any_eq_true.2 ⟨_, mem_extras.2 ⟨l, hl, rfl⟩, pay_at.2 ⟨t, ht⟩⟩)
  rw [e]
  constructor
  · rintro ⟨t, ht⟩; exact List.length_pos_of_mem ht
  · exact fun h => ⟨_, List.getElem_mem h⟩
theorem valid_ok {b : Book} (h : validR b = true) : OkBook b := okBook (by simpa [validR] using h)
theorem asked_in {b : Book} (h : validR b = true) {d : Int} (hd : 0 ≤ d ∧ d < b.days.length) : askedR b d = 0 := by
  have h0 : (bookCheck b).2.2 = 0 := by simpa [validR] using h
  unfold askedR
  rw [if_neg (by rw [h0]; simp), if_pos]
  unfold within
  simp only [Bool.and_eq_true, decide_eq_true_eq]; omega
theorem asked_no {b : Book} (h : ¬ (validR b = true ∧ 0 < b.days.length)) : askedR b 0 ≠ 0 := by
  unfold askedR
  by_cases hv : (bookCheck b).2.2 = 0
  · rw [if_neg (fun q => q hv)]
    have hd : ¬ 0 < b.days.length := fun q => h ⟨by simp [validR, hv], q⟩
    rw [if_neg (by simp [within]; omega)]; decide
  · rw [if_pos hv]; exact hv
theorem which_in {w : Int} (hw : 0 ≤ w) {n : Nat} (h : 0 < n) : 0 ≤ w.tmod (n : Int) ∧ w.tmod (n : Int) < (n : Int) := by
  rw [Int.tmod_eq_emod_of_nonneg hw]
  exact ⟨Int.emod_nonneg _ (by omega), Int.emod_lt_of_pos _ (by omega)⟩
end
noncomputable section
theorem set_self {τ : Type} (d : τ) (l : List τ) (i : Nat) (h : i < l.length) : l.set i (l.getD i d) = l := by
  apply List.ext_getElem?
  intro j
  by_cases e : i = j
  · subst e; rw [List.getElem?_set_self h, List.getD_eq_getElem?_getD, List.getElem?_eq_getElem h]; rfl
  · rw [List.getElem?_set_ne e]
theorem miss_zero {b : Book} {d : Int} (hd : 0 ≤ d ∧ d < b.days.length) : missingR b d 0 = b := by
  have h1 : ∀ c : Count, missC 0 c = c := fun c => by unfold missC; rw [Int.add_zero]
  have h2 : ∀ D : Day, missD 0 D = D := fun D => by
    unfold missD
    have : D.rooms.map (missC 0) = D.rooms := by
      rw [List.map_congr_left (g := id) (fun c _ => h1 c), List.map_id]
    rw [h1, this]
  unfold missingR
  rw [h2]
  have := set_self zDay b.days d.toNat (by omega)
  unfold dayOf
  rw [this]
theorem first_err {b : Book} {d : Int} (ha : askedR b d = 0) : ((firstT b d).2.2 = 0 ∧ explainsR b d [] = true ∧ firstT b d = (bestD (agreeD b d), ((agreeD b d).length : Int), 0) ∧ 0 < (agreeD b d).length) ∨ ((firstT b d).2.2 = 8 ∧ explainsR b d [] = false ∧ firstT b d = (zTruth, 0, 8) ∧ (agreeD b d).length = 0) := by
  rcases first_how b d with ⟨f, h1, h2, h3⟩ | ⟨_, h0, h1⟩
  · obtain ⟨rfl, h4⟩ := h3 ha
    refine .inr ⟨by rw [h1], ?_, h1, h4⟩
    cases hx : explainsR b d [] with
    | false => rfl
    | true => have := explains_nil.1 hx; omega
  · exact .inl ⟨by rw [h1], explains_nil.2 h0, h1, h0⟩
theorem firstI_least {p : Nat → Bool} : ∀ {n k i : Nat}, firstI p k ((List.range' k n)) = some i → p i = true ∧ k ≤ i ∧ i < k + n ∧ ∀ j, k ≤ j → j < i → p j = false
  | 0, k, i, h => by cases h
  | n + 1, k, i, h => by
    rw [List.range'_succ] at h
    simp only [firstI] at h
    by_cases hx : p k = true
    · rw [if_pos hx] at h; cases h
      exact ⟨hx, Nat.le_refl _, by omega, fun j h1 h2 => by omega⟩
    · rw [if_neg hx] at h
      obtain ⟨h1, h2, h3, h4⟩ := firstI_least h
      refine ⟨h1, by omega, by omega, fun j h5 h6 => ?_⟩
      rcases Nat.eq_or_lt_of_le h5 with e | e
      · subst e; exact Bool.eq_false_iff.2 hx
      · exact h4 j (by omega) h6
theorem missed_how {b : Book} {d : Int} (ha : askedR b d = 0) : (∃ m : Nat, m < 61 ∧ missedR b d = ((m : Int), 0) ∧ explainsR (missingR b d m) d [] = true ∧ ∀ j : Nat, j < m → explainsR (missingR b d j) d [] = false) ∨
    (missedR b d = (0, 9) ∧ ∀ j : Nat, j < 61 → explainsR (missingR b d j) d [] = false) := by
  unfold missedR
  rw [if_neg (fun q => q ha)]
  cases hf : firstI (fun (m : Nat) => explainsR (missingR b d m) d []) 0 (List.range 61) with
  | some m =>
    rw [List.range_eq_range'] at hf
    obtain ⟨h1, -, h3, h4⟩ := firstI_least hf
    exact .inl ⟨m, by omega, rfl, h1, fun j hj => h4 j (Nat.zero_le _) hj⟩
  | none =>
    refine .inr ⟨rfl, fun j hj => ?_⟩
    have := any_of_none hf
    rw [List.any_eq_false] at this
    exact Bool.eq_false_iff.2 (this j (List.mem_range.2 hj))
theorem noDays {b : Book} (h : ¬ (validR b = true ∧ 0 < b.days.length)) : validR b = false ∨ (validR b = true ∧ b.days.length = 0) := by
  cases hv : validR b with
  | false => exact .inl rfl
  | true => exact .inr ⟨rfl, by have : ¬ 0 < b.days.length := fun q => h ⟨hv, q⟩; omega⟩
end
noncomputable section
structure Fine (b : Book) (d : Int) (t : Truth) : Prop where
  a : 0 ≤ t.adults ∧ t.adults ≤ 60
  c : 0 ≤ t.children ∧ t.children ≤ 60
  all : t.adults + t.children + pupilsD b d ≤ 60
  len : t.rooms.length = b.rooms.length
  room : ∀ i : Nat, i < b.rooms.length → 0 ≤ t.rooms.getD i 0 ∧ t.rooms.getD i 0 ≤ min (t.adults + t.children + pupilsD b d) (b.rooms.getD i zRoom).full
def payR (b : Book) (d : Int) (t : Truth) : Int := b.price * t.adults + b.price.tdiv 2 * t.children + feesD b d + extraR b t.rooms
inductive P43
  | e
inductive R43
  | r0 (r0 : Int)
noncomputable def T43 (b : Book) (d : Int) (t : Truth) : P43 → Tr P43 R43
  | .e => let c1 := (b.price * t.adults) + ((b.price.tdiv (2 : Int)) * t.children); let c2 := (c1 + (feesD b d)) + (extraR b t.rooms); (.front [(14, 44, [.agg (cC b), iI d], iI (feesD b d)), (19, 45, [.agg (cC b), tint.lst t.rooms], iI (extraR b t.rooms))] [] (((inR .i64 (b.price * t.adults)) && ((decide ((2 : Int) ≠ 0) && inR .i64 (b.price.tdiv (2 : Int))) && ((inR .i64 ((b.price.tdiv (2 : Int)) * t.children)) && ((inR .i64 c1) && ((inR .i64 (c1 + (feesD b d))) && ((inR .i64 c2) && true)))))) && true) true (.out (.r0 c2)))
noncomputable def g43 (b : Book) (d : Int) (t : Truth) : P43 → List Item × St
  | .e => bd Tryz.f43 [.agg (cC b), iI d, .agg [iI t.adults, iI t.children, tint.lst t.rooms]] 25
noncomputable def n43 : R43 → Exit × St
  | .r0 r0 => (.ret, ⟨mk 28 [(6, iI r0)], [], []⟩)
noncomputable def v43 : R43 → V
  | .r0 r0 => iI r0
theorem s43 (b : Book) (d : Int) (t : Truth) : Sm 0 (g43 b d t) (T43 b d t) (n43)
  | .e => ⟨400, by kernel_rfl⟩
theorem q43 : ∀ r, bodyQ Tryz.prog Tryz.f43 (· = v43 r) (n43 r).1 (n43 r).2
  | .r0 r0 => bq (iI r0) (by kernel_rfl)
theorem w43 (b : Book) (d : Int) (t : Truth) {post : V → Prop} (h : WQ (T43 b d t) v43 post .e) : PC 43 [.agg (cC b), iI d, .agg [iI t.adults, iI t.children, tint.lst t.rooms]] post :=
  PCalls.wq Tryz.func43 (s43 b d t) q43 h
theorem c43 (b : Book) (d : Int) (t : Truth) (h : OkBook b) (hd : 0 ≤ d ∧ d < b.days.length) (ht : Fine b d t) : PC 43 [.agg (tBook.cells b), iI d, .agg (tTruth.cells t)] (· = iI (payR b d t)) := by
  have hday := h.day _ (getD_mem zDay b.days d.toNat (by omega))
  have h1 := half_mul h ht.a
  have h2 := half_mul h ht.c
  have hp := half_in h
  have h3 := feesD_in h hday
  have hn : ∀ n ∈ t.rooms, 0 ≤ n ∧ n ≤ 60 := fun n hn => by
    obtain ⟨i, hi, rfl⟩ := List.getElem_of_mem hn
    have h4 := ht.room i (by rw [← ht.len]; exact hi)
    have h5 := ht.all
    rw [List.getD_eq_getElem?_getD, List.getElem?_eq_getElem hi] at h4
    simp only [Option.getD_some] at h4
    omega
  have h4 := extraR_in h ht.len hn
  have r1 : inR .i64 (b.price * t.adults) = true := inR64 (by omega) (by omega)
  have r2 : inR .i64 (b.price.tdiv 2) = true := inR64 (by omega) (by omega)
  have r3 : inR .i64 (b.price.tdiv 2 * t.children) = true := inR64 (by omega) (by omega)
  have r4 : inR .i64 (b.price * t.adults + b.price.tdiv 2 * t.children) = true := inR64 (by omega) (by omega)
  have r5 : inR .i64 (b.price * t.adults + b.price.tdiv 2 * t.children + feesD b d) = true := inR64 (by omega) (by omega)
  have r6 : inR .i64 (b.price * t.adults + b.price.tdiv 2 * t.children + feesD b d + extraR b t.rooms) = true := inR64 (by omega) (by omega)
  have k45 := c45 b t.rooms h (fun n q => ⟨(hn n q).1, Int.le_trans (hn n q).2 (by decide)⟩) (by rw [ht.len]; exact Nat.le_refl _)
  refine w43 b d t (WP.step ?_)
  simp only [T43, Go, Ends', v43, Tr.sure, SS]
  repeat' with_reducible first | intro _ | apply And.intro
  all_goals first | exact (c44 b d h hd) | exact k45 | (simp [r1, r2, r3, r4, r5, r6, payR, Go, Ends', v43, -List.getD_eq_getElem?_getD, *]; done)
theorem agree_fine {b : Book} {d : Int} (h : OkBook b) (hd : OkDay b (dayOf b d)) {t : Truth} (ht : t ∈ agreeD b d) : Fine b d t ∧ payR b d t = (dayOf b d).taken ∧ ∃ n, (firstN b d ≤ n ∧ n ≤ (doorS b d).hi) ∧ t.rooms ∈ inRoomsR b d n [] ∧ t.adults + t.children = n - pupilsD b d := by
  obtain ⟨n, hn, l, hl, hat⟩ := mem_agree.1 ht
  have hp := half_in h
  have hpu := pupils_in hd
  have hdo := doorS_in hd
  have hf : pupilsD b d ≤ firstN b d := by unfold firstN; omega
  unfold agreeAt at hat
  split at hat
  case isFalse => exact absurd hat List.not_mem_nil
  rename_i hc
  obtain ⟨c1, c2, c3⟩ := hc
  obtain rfl := List.mem_singleton.1 hat
  have hq : b.price.tdiv 2 * (leftR b d n l).tdiv (b.price.tdiv 2) = leftR b d n l := by
    have := Int.tmod_add_mul_tdiv (leftR b d n l) (b.price.tdiv 2)
    omega
  have hq0 : 0 ≤ (leftR b d n l).tdiv (b.price.tdiv 2) := Int.tdiv_nonneg c1 (by omega)
  have hin := inRooms_in h hd n [] l hl
  have hlr : leftR b d n l = (dayOf b d).taken - feesD b d - extraR b l - b.price.tdiv 2 * (n - pupilsD b d) := rfl
  generalize (leftR b d n l).tdiv (b.price.tdiv 2) = a at *
  generalize leftR b d n l = L at *
  refine ⟨⟨⟨hq0, by show a ≤ 60; omega⟩, ⟨by show 0 ≤ n - pupilsD b d - a; omega, by show n - pupilsD b d - a ≤ 60; omega⟩, by show a + (n - pupilsD b d - a) + pupilsD b d ≤ 60; omega, hin.1, fun i hi => ?_⟩, ?_, n, hn, hl, by show a + (n - pupilsD b d - a) = _; omega⟩
  · have hs := ((mem_roomsN _ _).1 hl).2 i hi
    have hsp := spanAt_in h hd n [] hi
    have hmin : (spanAt b (dayOf b d) n [] i).hi ≤ min n (b.rooms.getD i zRoom).full := by
      unfold spanAt between
      split
      · exact Int.le_refl _
      · exact Int.min_le_left _ _
    show 0 ≤ l.getD i 0 ∧ l.getD i 0 ≤ min (a + (n - pupilsD b d - a) + pupilsD b d) (b.rooms.getD i zRoom).full
    rw [show a + (n - pupilsD b d - a) + pupilsD b d = n by omega]
    exact ⟨by omega, by omega⟩
  · show b.price * a + b.price.tdiv 2 * (n - pupilsD b d - a) + feesD b d + extraR b l = (dayOf b d).taken
    have e1 : b.price * a = 2 * (b.price.tdiv 2 * a) := by rw [← Int.mul_assoc, hp.2.2]
    have e2 : b.price.tdiv 2 * (n - pupilsD b d - a) = b.price.tdiv 2 * (n - pupilsD b d) - b.price.tdiv 2 * a := Int.mul_sub ..
    rw [e1, e2]
    generalize b.price.tdiv 2 * (n - pupilsD b d) = y at *
    omega
def lowP (b : Book) (d : Int) (p : Int × List Int) : Int := (p.1 * b.price).tdiv 2 + moreD b d p.2
def highP (b : Book) (d : Int) (p : Int × List Int) : Int := p.1 * b.price + moreD b d p.2
theorem couldS_fold (b : Book) (d : Int) : couldS b d = foldS ((stoodL b d).flatMap fun p => [lowP b d p, highP b d p]) := by
  unfold couldS foldS
  generalize stoodL b d = l
  have : ∀ s : Sp, l.foldl (couldG b d) s = (l.flatMap fun p => [lowP b d p, highP b d p]).foldl addS s := by
    induction l with
    | nil => exact fun _ => rfl
    | cons p l ih => intro s; rw [List.foldl_cons, List.flatMap_cons, List.foldl_append, ih]; rfl
  exact this _
theorem mem_stood {b : Book} {d : Int} {p : Int × List Int} : p ∈ stoodL b d ↔ ∃ n, (firstN b d ≤ n ∧ n ≤ (doorS b d).hi) ∧ ∃ L ∈ inRoomsR b d n [], p = (n - pupilsD b d, L) := by
  simp only [stoodL, List.mem_flatMap, mem_rangeI, List.mem_map]
  constructor
  · rintro ⟨n, hn, L, hL, rfl⟩; exact ⟨n, hn, L, hL, rfl⟩
  · rintro ⟨n, hn, L, hL, rfl⟩; exact ⟨n, hn, L, hL, rfl⟩
theorem could_how {b : Book} {d : Int} (ha : askedR b d = 0) {p : Int × List Int} (hp : p ∈ stoodL b d) : (couldR b d).2 = 0 ∧ (couldR b d).1.lo = (couldS b d).lo ∧ (couldR b d).1.hi = (couldS b d).hi ∧ (couldS b d).lo ≤ lowP b d p ∧ highP b d p ≤ (couldS b d).hi := by
  have hm : lowP b d p ∈ (stoodL b d).flatMap fun p => [lowP b d p, highP b d p] := List.mem_flatMap.2 ⟨p, hp, List.mem_cons_self⟩
  have hm2 : highP b d p ∈ (stoodL b d).flatMap fun p => [lowP b d p, highP b d p] := List.mem_flatMap.2 ⟨p, hp, List.mem_cons_of_mem _ List.mem_cons_self⟩
  have hne := List.ne_nil_of_mem hm
  have h0 : (couldS b d).met ≠ 0 := by
    rw [couldS_fold, foldS_met]
    have := List.length_pos_of_mem hm
    omega
  have hin := (foldS_in hne).2.2
  rw [couldS_eq ha, if_neg h0, couldS_fold]
  exact ⟨rfl, rfl, rfl, (hin _ hm).1, (hin _ hm2).2⟩
theorem taken_in {b : Book} {d : Int} (ha : askedR b d = 0) {t : Truth} (ht : t ∈ agreeD b d) : (couldR b d).2 = 0 ∧ insideR (dayOf b d).taken (couldR b d).1 = true := by
  obtain ⟨h, hd1, hd2, hday⟩ := asked_ok ha
  obtain ⟨hf, hpay, n, hn, hr, hsum⟩ := agree_fine h hday ht
  obtain ⟨h1, h2, h3, h4, h5⟩ := could_how ha (p := (n - pupilsD b d, t.rooms)) (mem_stood.2 ⟨n, hn, _, hr, rfl⟩)
  refine ⟨h1, ?_⟩
  unfold insideR within
  rw [h2, h3]
  simp only [Bool.and_eq_true, decide_eq_true_eq]
  have hp := half_in h
  have e0 : (n - pupilsD b d) * b.price = 2 * (b.price.tdiv 2 * (n - pupilsD b d)) := by rw [Int.mul_comm, ← Int.mul_assoc, hp.2.2]
  have e1 : lowP b d (n - pupilsD b d, t.rooms) = b.price.tdiv 2 * (n - pupilsD b d) + moreD b d t.rooms := by
    unfold lowP
    rw [e0, Int.mul_tdiv_cancel_left _ (by decide)]
  have e2 : highP b d (n - pupilsD b d, t.rooms) = 2 * (b.price.tdiv 2 * (n - pupilsD b d)) + moreD b d t.rooms := by
    unfold highP; rw [e0]
  have e3 : b.price * t.adults = 2 * (b.price.tdiv 2 * t.adults) := by rw [← Int.mul_assoc, hp.2.2]
  have e4 : b.price.tdiv 2 * (n - pupilsD b d) = b.price.tdiv 2 * t.adults + b.price.tdiv 2 * t.children := by rw [← hsum, Int.mul_add]
  have m1 := (half_mul h hf.a).1
  have m2 := (half_mul h hf.c).1
  have e5 : moreD b d t.rooms = feesD b d + extraR b t.rooms := rfl
  unfold payR at hpay
  rw [e1] at h4; rw [e2] at h5
  rw [e3] at hpay; rw [e4] at h4 h5
  omega
end
noncomputable section
theorem fine_rooms {b : Book} {d : Int} {t : Truth} (ht : Fine b d t) : ∀ n ∈ t.rooms, 0 ≤ n ∧ n ≤ 60 := fun n hn => by
  obtain ⟨i, hi, rfl⟩ := List.getElem_of_mem hn
  have h4 := ht.room i (by rw [← ht.len]; exact hi)
  have h5 := ht.all
  rw [List.getD_eq_getElem?_getD, List.getElem?_eq_getElem hi] at h4
  simp only [Option.getD_some] at h4
  omega
end
noncomputable section
theorem tdiv13 {n : Int} (h : 0 ≤ n) : n.tdiv 13 = n / 13 := Int.tdiv_eq_ediv_of_nonneg h
theorem fees_how {b : Book} {l : List School} (hl : ∀ s ∈ l, 1 ≤ s.children ∧ s.children ≤ 60) : ∀ k : Nat, k ≤ l.length → ∃ Q : Int, feesTo b l k = b.price.tdiv 2 * (sumS l k - Q) ∧ 13 * Q ≤ sumS l k ∧ sumS l k ≤ 13 * Q + 12 * k ∧ 0 ≤ Q
  | 0, _ => ⟨0, by simp [feesTo, sumS, natF], by simp [sumS, natF], by simp [sumS, natF], Int.le_refl _⟩
  | k + 1, hk => by
    obtain ⟨Q, h1, h2, h3, h4⟩ := fees_how hl k (by omega)
    have hc := hl _ (getD_mem zSchool l k (by omega))
    have e1 : feesTo b l (k + 1) = feesTo b l k + feeR b (l.getD k zSchool).children := rfl
    have e2 : sumS l (k + 1) = sumS l k + (l.getD k zSchool).children := rfl
    rw [e1, e2, h1]
    generalize (l.getD k zSchool).children = c at *
    generalize sumS l k = S at *
    refine ⟨Q + c / 13, ?_, by omega, by omega, by omega⟩
    unfold feeR
    rw [tdiv13 (by omega : 0 ≤ c), ← Int.mul_add]
    congr 1; omega
end
noncomputable section
def offsN (n : Nat) : List (List Int) := (allP ((n + 2 : Nat) : Int) (n + 2)).map (offN n) ++ [entriesN n]
def ordOff (n : Nat) : Bool := decide ((offsN n).Pairwise fun x y => fewer y x = false) && (offsN n).all (fun x => !fewer x x)
theorem offs_ord : ∀ n : Nat, n < 4 → ordOff n = true := by decide +kernel
theorem offs_head : ∀ n : Nat, n < 4 → (offsN n).head? = some [] := by decide +kernel
theorem find_min {α : Type} {p : α → Bool} {r : α → α → Prop} : ∀ {L : List α}, L.Pairwise r → ∀ {x : α}, L.find? p = some x → p x = true ∧ x ∈ L ∧ ∀ y ∈ L, p y = true → x = y ∨ r x y
  | [], _, x, h => by cases h
  | a :: L, hp, x, h => by
    rw [List.pairwise_cons] at hp
    by_cases ha : p a = true
    · rw [List.find?_cons_of_pos ha] at h
      cases h
      refine ⟨ha, List.mem_cons_self, fun y hy _ => ?_⟩
      rcases List.mem_cons.1 hy with q | q
      · exact .inl q.symm
      · exact .inr (hp.1 y q)
    · rw [List.find?_cons_of_neg ha] at h
      obtain ⟨h1, h2, h3⟩ := find_min hp.2 h
      refine ⟨h1, List.mem_cons_of_mem _ h2, fun y hy hpy => ?_⟩
      rcases List.mem_cons.1 hy with q | q
      · subst q; exact absurd hpy ha
      · exact h3 y q hpy
theorem explains_all {b : Book} {d : Int} (h : OkBook b) (hd : OkDay b (dayOf b d)) : explainsR b d (entriesR b) = true := by
  have hnr := h.nr
  have hpu := pupils_in hd
  have has : ∀ x, x ∈ entriesR b → hasN (entriesR b) x = true := fun x hx => hasN_iff.2 hx
  have h1 : hasN (entriesR b) (-1) = true := has _ (by simp [entriesR])
  have h3 : hasN (entriesR b) 3 = true := has _ (by simp [entriesR])
  have hr : ∀ i : Nat, i < b.rooms.length → hasN (entriesR b) (i : Int) = true := fun i hi => has _ (by
    unfold entriesR
    exact List.mem_append_left _ (List.mem_cons_of_mem _ (List.mem_map.2 ⟨i, List.mem_range.2 hi, rfl⟩)))
  have hdo : doorO b d (entriesR b) = ⟨0, 60⟩ := by unfold doorO between; rw [if_pos h1]
  unfold explainsR
  rw [List.any_eq_true]
  refine ⟨60, mem_rangeI.2 ⟨?_, ?_⟩, ?_⟩
  · unfold firstO; rw [hdo]; show max 0 (pupilsD b d) ≤ 60; omega
  · rw [hdo]; exact Int.le_refl _
  · unfold explAt
    rw [h3, Bool.and_true, Bool.or_eq_true]
    refine .inl (decide_eq_true ?_)
    have hm : extraR b (List.replicate b.rooms.length 0) ∈ extrasR b d 60 (entriesR b) := mem_extras.2 ⟨_, (mem_roomsN _ _).2 ⟨by simp, fun k hk => ?_⟩, rfl⟩
    · exact List.length_pos_of_mem hm
    · have hf := (h.room _ (getD_mem zRoom b.rooms k hk)).2
      have e0 : (List.replicate b.rooms.length (0 : Int)).getD k 0 = 0 := by
        rw [List.getD_eq_getElem?_getD, List.getElem?_replicate, if_pos hk]; rfl
      have e1 : spanAt b (dayOf b d) 60 (entriesR b) k = ⟨0, min 60 (b.rooms.getD k zRoom).full⟩ := by unfold spanAt between; rw [if_pos (hr k hk)]
      rw [e0, e1]
      exact ⟨Int.le_refl _, by show 0 ≤ min 60 (b.rooms.getD k zRoom).full; omega⟩
theorem off_find {b : Book} {d : Int} (h : OkBook b) (hd : OkDay b (dayOf b d)) : (offsN b.rooms.length).find? (explainsR b d) = some (offR b d) := by
  unfold offsN
  rw [List.find?_append, List.find?_map]
  have hk : (entriesR b).length = b.rooms.length + 2 := entries_len b
  have e : offR b d = match (allP ((b.rooms.length + 2 : Nat) : Int) (b.rooms.length + 2)).find? (explainsR b d ∘ offN b.rooms.length) with
    | some l => offN b.rooms.length l
    | none => entriesN b.rooms.length := by
    unfold offR; rw [hk]; rfl
  rw [e]
  cases hf : (allP ((b.rooms.length + 2 : Nat) : Int) (b.rooms.length + 2)).find? (explainsR b d ∘ offN b.rooms.length) with
  | some l => rfl
  | none =>
    have := explains_all h hd
    rw [entriesR_eq] at this
    simp [this]
theorem off_how {b : Book} {d : Int} (h : OkBook b) (hd : OkDay b (dayOf b d)) : explainsR b d (offR b d) = true ∧ offR b d ∈ offsN b.rooms.length ∧ ∀ o ∈ offsN b.rooms.length, explainsR b d o = true → fewer o (offR b d) = false := by
  have ho := offs_ord b.rooms.length (by have := h.nr; omega)
  unfold ordOff at ho
  rw [Bool.and_eq_true, decide_eq_true_eq, List.all_eq_true] at ho
  obtain ⟨h1, h2, h3⟩ := find_min ho.1 (off_find h hd)
  refine ⟨h1, h2, fun o hm hp => ?_⟩
  rcases h3 o hm hp with e | e
  · rw [← e]; have := ho.2 _ h2; simpa using this
  · exact e
theorem off_nil {b : Book} {d : Int} (h : OkBook b) (hd : OkDay b (dayOf b d)) : (offR b d).length = 0 ↔ explainsR b d [] = true := by
  constructor
  · intro h0
    have := (off_how h hd).1
    rwa [List.length_eq_zero_iff.1 h0] at this
  · intro hx
    have hh := offs_head b.rooms.length (by have := h.nr; omega)
    have hf := off_find h hd
    cases hL : offsN b.rooms.length with
    | nil => rw [hL] at hh; cases hh
    | cons a L =>
      rw [hL] at hh hf
      obtain rfl : a = [] := by simpa using hh
      rw [List.find?_cons_of_pos hx] at hf
      rw [← Option.some.inj hf]; rfl
theorem ofDay_app (d : Int) (l m : List Entry) : ofDay d (l ++ m) = ofDay d l ++ ofDay d m := by unfold ofDay; rw [List.filter_append, List.map_append]
theorem ofDay_ent (d e : Int) (l : List Int) : ofDay d (entE e l) = if e = d then l else [] := by
  unfold ofDay entE
  rw [List.filter_map]
  by_cases h : e = d
  · subst h; rw [if_pos rfl]
    have : l.filter ((fun e_1 : Entry => e_1.day == e) ∘ fun o => (⟨e, o⟩ : Entry)) = l := List.filter_eq_self.2 fun x _ => by simp
    rw [this, List.map_map]
    exact List.map_id _
  · rw [if_neg h]
    have : l.filter ((fun e_1 : Entry => e_1.day == d) ∘ fun o => (⟨e, o⟩ : Entry)) = [] := List.filter_eq_nil_iff.2 fun x _ => by simpa using h
    rw [this]; rfl
theorem wrongAll_next (b : Book) (n : Nat) : wrongAll b (n + 1) = wrongAll b n ++ entE (n : Int) (offR b n) := by
  unfold wrongAll; rw [List.range_succ, List.flatMap_append]; simp
theorem ofDay_wrong (b : Book) : ∀ (n d : Nat), ofDay (d : Int) (wrongAll b n) = if d < n then offR b d else []
  | 0, d => rfl
  | n + 1, d => by
    rw [wrongAll_next, ofDay_app, ofDay_wrong b n d, ofDay_ent]
    by_cases h1 : d < n
    · rw [if_pos h1, if_neg (by omega), if_pos (by omega), List.append_nil]
    · rw [if_neg h1]
      by_cases h2 : n = d
      · subst h2; rw [if_pos rfl, if_pos (by omega), List.nil_append]
      · rw [if_neg (by omega), if_neg (by omega)]; rfl
theorem wrong_len {b : Book} (h : OkBook b) : ∀ n : Nat, (wrongAll b n).length ≤ 5 * n
  | 0 => Nat.le_refl _
  | n + 1 => by
    have h1 := wrong_len h n
    have h2 := off_len b n h
    rw [wrongAll_next, List.length_append]
    unfold entE; rw [List.length_map]; omega
theorem wrong_ok {b : Book} (hv : validR b = true) : wrongR b = (wrongAll b b.days.length, 0) := by
  have h0 : (bookCheck b).2.2 = 0 := by simpa [validR] using hv
  unfold wrongR; rw [if_neg (by rw [h0]; simp)]
end
noncomputable section
theorem room_ok {b : Book} {d : Int} (ha : askedR b d = 0) (h0 : 0 < (agreeD b d).length) {i : Nat} (hi : i < b.rooms.length) : roomR b d (i : Int) = (spanR (agreeD b d) (2 + (i : Int)), 0) := by
  have he : roomE b d (i : Int) = 0 := by
    unfold roomE; rw [if_neg (fun q => q ha), if_pos (by unfold within; simp only [Bool.and_eq_true, decide_eq_true_eq]; omega)]
  have hx : explainedR b d 0 = (agreeD b d, 0) := by unfold explainedR; rw [if_neg (fun q => q rfl), if_neg (by omega)]
  unfold roomR; rw [he, hx, if_neg (fun q => q rfl)]
end
noncomputable section
def turnR (l : List Int) (n : Int) : Int := if l.length = 0 then 0 else l.getD (n.tmod (l.length : Int)).toNat 0
def U16 (l : List Int) : Prop := ∀ y ∈ l, 0 ≤ y ∧ y ≤ 65535
theorem turn_in {l : List Int} (h : U16 l) {n : Int} (hn : 0 ≤ n) : 0 ≤ turnR l n ∧ turnR l n ≤ 65535 := by
  unfold turnR
  split
  · omega
  · rename_i hz
    have := which_in hn (show 0 < l.length by omega)
    exact h _ (getD_mem 0 l (n.tmod (l.length : Int)).toNat (by omega))
inductive P90
  | e
inductive R90
  | r0 (r0 : Int)
noncomputable def T90 (l : List Int) (n : Int) : P90 → Tr P90 R90
  | .e => let c1 := (l.length : Int); let c2 := l.getD ((n.tmod c1)).toNat tu16.zero; (.br (c1 == (0 : Int)) (.out (.r0 0)) (.need (decide (c1 ≠ 0)) (.need (decide (0 ≤ (n.tmod c1)) && decide ((n.tmod c1) < c1)) (.need (inR .i64 c2) (.out (.r0 c2))))))
noncomputable def g90 (l : List Int) (n : Int) : P90 → List Item × St
  | .e => bd Tryz.f90 [tu16.lst l, iI n] 14
noncomputable def n90 : R90 → Exit × St
  | .r0 r0 => (.ret, ⟨mk 16 [(4, iI r0)], [], []⟩)
noncomputable def v90 : R90 → V
  | .r0 r0 => iI r0
theorem s90 (l : List Int) (n : Int) : Sm 0 (g90 l n) (T90 l n) (n90)
  | .e => ⟨400, by kernel_rfl⟩
theorem q90 : ∀ r, bodyQ Tryz.prog Tryz.f90 (· = v90 r) (n90 r).1 (n90 r).2
  | .r0 r0 => bq (iI r0) (by kernel_rfl)
theorem w90 (l : List Int) (n : Int) {post : V → Prop} (h : WQ (T90 l n) v90 post .e) : PC 90 [tu16.lst l, iI n] post :=
  PCalls.wq Tryz.func90 (s90 l n) q90 h
theorem c90 (l : List Int) (n : Int) (h : U16 l) (hn : 0 ≤ n) : PC 90 [tu16.lst l, iI n] (· = iI (turnR l n)) := by
  have hin := turn_in h hn
  by_cases hz : l.length = 0
  · have e : turnR l n = 0 := by unfold turnR; rw [if_pos hz]
    rw [e]
    refine w90 l n (WP.step ?_)
    simp only [T90, Go, Ends', v90, Tr.sure, SS, hz]
    repeat' with_reducible first | intro _ | apply And.intro
  · have hk := which_in hn (show 0 < l.length by omega)
    have e : turnR l n = l.getD (n.tmod (l.length : Int)).toNat 0 := by unfold turnR; rw [if_neg hz]
    rw [e] at hin ⊢
    have hz' : (l.length : Int) ≠ 0 := by omega
    have hr : inR .i64 (l.getD (n.tmod (l.length : Int)).toNat 0) = true := inR64 (by omega) (by omega)
    refine w90 l n (WP.step ?_)
    simp only [T90, Go, Ends', v90, Tr.sure, SS, hz', hk]
    repeat' with_reducible first | intro _ | apply And.intro
    all_goals simp [hr, tu16, Go, Ends', v90, -List.getD_eq_getElem?_getD, *]
inductive P37
  | e
  | l0
  | l100 (x100_10 : Int) (a100_3 : List Int)
inductive R37
  | r0 (r0_0 : Int) (r0_1 : Int)
  | r1 (r0_0 : Int) (r0_1 : Int) (r0_2 : List Int)
noncomputable def T37 (b : Book) (d : Int) (x : List Int) : P37 → Tr P37 R37
  | .e => let c1 := ((60 : Int) - (pupilsD b d)) + (1 : Int); let c2 := ((turnR x 0).tmod c1) + (1 : Int); (.call 66 [.agg (cC b), iI d] (iI (pupilsD b d)) true true (.call 90 [tu16.lst x, iI 0] (iI (turnR x 0)) true true (.need (inR .i64 ((60 : Int) - (pupilsD b d))) (.need (inR .i64 c1) (.need (decide (c1 ≠ 0)) (.call 90 [tu16.lst x, iI 1] (iI (turnR x 1)) true true (.need (inR .i64 c2) (.need (decide (c2 ≠ 0)) (.need (inR .i64 (((turnR x 0).tmod c1) - ((turnR x 1).tmod c2))) (.go (.l0)))))))))))
  | .l0 => let c2 := (turnR x 0).tmod (((60 : Int) - (pupilsD b d)) + (1 : Int)); let c1 := (min (c2 + (pupilsD b d)) ((b.rooms.getD ((0 : Int)).toNat tRoom.zero).full)) + (1 : Int); let c3 := turnR x ((2 : Int) + (0 : Int)); let c4 := (0 : Int) < (b.rooms.length : Int); let c5 := (turnR x 1).tmod (c2 + (1 : Int)); let c6 := c3.tmod c1; (.br (decide c4) (.front [(5, 90, [tu16.lst x, iI ((2 : Int) + (0 : Int))], iI c3)] [] (((inR .i64 ((2 : Int) + (0 : Int))) && ((inR .i64 (c2 + (pupilsD b d))) && ((decide (0 ≤ (0 : Int)) && decide c4) && ((inR .i64 c1) && ((decide (c1 ≠ 0)) && ((decide (1 ≤ 4294967296) && (List.range 1).all fun r => (List.range 1).all fun j => ((litC 1 1 [iI c6]) r j).scalar) && true)))))) && true) true (.need (inR .i64 ((0 : Int) + (1 : Int))) (.telb 3 1 1 (litC 1 1 [iI c6]) (rowsRev tint ([c6])) (.go (.l100 ((0 : Int) + (1 : Int)) ([c6])))))) (.out (.r0 c5 (c2 - c5))))
  | .l100 x100_10 a100_3 => let c1 := (turnR x 0).tmod (((60 : Int) - (pupilsD b d)) + (1 : Int)); let c2 := (min (c1 + (pupilsD b d)) ((b.rooms.getD (x100_10).toNat tRoom.zero).full)) + (1 : Int); let c3 := (turnR x 1).tmod (c1 + (1 : Int)); let c4 := (2 : Int) + x100_10; let c5 := x100_10 < (b.rooms.length : Int); (.br (decide c5) (.front [(5, 90, [tu16.lst x, iI c4], iI (turnR x c4))] [] (((inR .i64 c4) && ((inR .i64 (c1 + (pupilsD b d))) && ((decide (0 ≤ x100_10) && decide c5) && ((inR .i64 c2) && ((decide (c2 ≠ 0)) && true))))) && true) true (.need ((decide (a100_3.length = a100_3.length) && decide (a100_3.length + 1 ≤ 4294967296)) && true) (.scal (fun _ => true) (.need (inR .i64 (x100_10 + (1 : Int))) (.go (.l100 (x100_10 + (1 : Int)) (((turnR x c4).tmod c2) :: a100_3))))))) (.wait 2 (.frz 3 (true && (((decide (a100_3.length ≤ a100_3.length)) && true) && true)) (.telc 2 [iI c3, iI (c1 - c3), .list 1 a100_3.length (rowsRev tint a100_3)] [iI c3, iI (c1 - c3), tint.lst a100_3.reverse] (.out (.r1 c3 (c1 - c3) a100_3.reverse))))))
noncomputable def g37 (b : Book) (d : Int) (x : List Int) : P37 → List Item × St
  | .e => bd Tryz.f37 [.agg (cC b), iI d, tu16.lst x] 57
  | .l0 => (cutOf Tryz.f37 0, ⟨mk 60 [(2, tu16.lst x), (3, .ref 0 0 0), (6, .ref 1 0 0), (7, iI (pupilsD b d)), (8, iI ((turnR x 0).tmod (((60 : Int) - (pupilsD b d)) + (1 : Int)))), (9, .ref 2 0 0), (10, iI 0)], [.cells (cC b), .cells [iI 0, iI 0, .nils], .cells [iI ((turnR x 1).tmod (((turnR x 0).tmod (((60 : Int) - (pupilsD b d)) + (1 : Int))) + (1 : Int))), iI (((turnR x 0).tmod (((60 : Int) - (pupilsD b d)) + (1 : Int))) - ((turnR x 1).tmod (((turnR x 0).tmod (((60 : Int) - (pupilsD b d)) + (1 : Int))) + (1 : Int)))), .nils]], []⟩)
  | .l100 x100_10 a100_3 => (cutOf Tryz.f37 0, ⟨mk 60 [(2, tu16.lst x), (3, .ref 0 0 0), (6, .ref 1 0 0), (7, iI (pupilsD b d)), (8, iI ((turnR x 0).tmod (((60 : Int) - (pupilsD b d)) + (1 : Int)))), (9, .ref 2 0 0), (10, iI x100_10)], [.cells (cC b), .cells [iI 0, iI 0, .nils], .cells [iI ((turnR x 1).tmod (((turnR x 0).tmod (((60 : Int) - (pupilsD b d)) + (1 : Int))) + (1 : Int))), iI (((turnR x 0).tmod (((60 : Int) - (pupilsD b d)) + (1 : Int))) - ((turnR x 1).tmod (((turnR x 0).tmod (((60 : Int) - (pupilsD b d)) + (1 : Int))) + (1 : Int)))), .row 3 a100_3.length], .rows 3 1 a100_3.length (rowsRev tint a100_3)], []⟩)
noncomputable def n37 : R37 → Exit × St
  | .r0 r0_0 r0_1 => (.ret, ⟨mk 60 [(6, .ref 1 0 0)], [.gone, .cells [iI r0_0, iI r0_1, .nils]], []⟩)
  | .r1 r0_0 r0_1 r0_2 => (.ret, ⟨mk 60 [(6, .ref 1 0 0)], [.gone, .cells [iI r0_0, iI r0_1, tint.lst r0_2]], []⟩)
noncomputable def v37 : R37 → V
  | .r0 r0_0 r0_1 => .agg [iI r0_0, iI r0_1, tint.lst ([] : List Int)]
  | .r1 r0_0 r0_1 r0_2 => .agg [iI r0_0, iI r0_1, tint.lst r0_2]
theorem s37 (b : Book) (d : Int) (x : List Int) : Sm 0 (g37 b d x) (T37 b d x) (n37)
  | .e => ⟨400, by kernel_rfl⟩
  | .l0 => ⟨400, by kernel_rfl⟩
  | .l100 _ _ => ⟨400, by kernel_rfl⟩
theorem q37 : ∀ r, bodyQ Tryz.prog Tryz.f37 (· = v37 r) (n37 r).1 (n37 r).2
  | .r0 r0_0 r0_1 => ⟨.inr rfl, by simp [n37], (.agg [iI r0_0, iI r0_1, .nils]), (.agg [iI r0_0, iI r0_1, tint.lst ([] : List Int)]), by kernel_rfl, (.agg rfl (by intro j hj; match j, hj with | 0, _ => exact .imm rfl | 1, _ => exact .imm rfl | 2, _ => exact .weak (.imm rfl) VLe.nils)), rfl⟩
  | .r1 r0_0 r0_1 r0_2 => bq (.agg [iI r0_0, iI r0_1, tint.lst r0_2]) (by kernel_rfl)
theorem w37 (b : Book) (d : Int) (x : List Int) {post : V → Prop} (h : WQ (T37 b d x) v37 post .e) : PC 37 [.agg (cC b), iI d, tu16.lst x] post :=
  PCalls.wq Tryz.func37 (s37 b d x) q37 h
def ownT (b : Book) (d : Int) (x : List Int) : Int := (turnR x 0).tmod (60 - pupilsD b d + 1)
def adT (b : Book) (d : Int) (x : List Int) : Int := (turnR x 1).tmod (ownT b d x + 1)
def roomT (b : Book) (d : Int) (x : List Int) (i : Nat) : Int := (turnR x (2 + (i : Int))).tmod (min (ownT b d x + pupilsD b d) (b.rooms.getD i zRoom).full + 1)
def truthT (b : Book) (d : Int) (x : List Int) : Truth := ⟨adT b d x, ownT b d x - adT b d x, (List.range b.rooms.length).map (roomT b d x)⟩
theorem mod_in {w : Int} (hw : 0 ≤ w) {n : Int} (h : 0 < n) : 0 ≤ w.tmod n ∧ w.tmod n < n := by
  rw [Int.tmod_eq_emod_of_nonneg hw]
  exact ⟨Int.emod_nonneg _ (by omega), Int.emod_lt_of_pos _ h⟩
theorem own_in {b : Book} {d : Int} (hd : OkDay b (dayOf b d)) {x : List Int} (hx : U16 x) : (0 ≤ ownT b d x ∧ ownT b d x + pupilsD b d ≤ 60) ∧ 0 ≤ adT b d x ∧ adT b d x ≤ ownT b d x := by
  have hp := pupils_in hd
  have h1 := mod_in (turn_in hx (n := 0) (by omega)).1 (n := 60 - pupilsD b d + 1) (by omega)
  have e1 : (turnR x 0).tmod (60 - pupilsD b d + 1) = ownT b d x := rfl
  rw [e1] at h1
  have h2 := mod_in (turn_in hx (n := 1) (by omega)).1 (n := ownT b d x + 1) (by omega)
  have e2 : (turnR x 1).tmod (ownT b d x + 1) = adT b d x := rfl
  rw [e2] at h2
  exact ⟨⟨h1.1, by omega⟩, h2.1, by omega⟩
theorem room_in {b : Book} {d : Int} (h : OkBook b) (hd : OkDay b (dayOf b d)) {x : List Int} (hx : U16 x) {i : Nat} (hi : i < b.rooms.length) : 0 ≤ roomT b d x i ∧ roomT b d x i ≤ min (ownT b d x + pupilsD b d) (b.rooms.getD i zRoom).full := by
  have ho := own_in hd hx
  have hp := pupils_in hd
  have hf := (h.room _ (getD_mem zRoom b.rooms i hi)).2
  have h1 := mod_in (turn_in hx (n := 2 + (i : Int)) (by omega)).1 (n := min (ownT b d x + pupilsD b d) (b.rooms.getD i zRoom).full + 1) (by omega)
  have e1 : (turnR x (2 + (i : Int))).tmod (min (ownT b d x + pupilsD b d) (b.rooms.getD i zRoom).full + 1) = roomT b d x i := rfl
  rw [e1] at h1
  exact ⟨h1.1, by omega⟩
theorem map_next (f : Nat → Int) (n : Nat) : ((List.range (n + 1)).map f).reverse = f n :: ((List.range n).map f).reverse := by
  rw [List.range_succ, List.map_append, List.reverse_append]; rfl
theorem c37 (b : Book) (d : Int) (x : List Int) (h : OkBook b) (hd : 0 ≤ d ∧ d < b.days.length) (hx : U16 x) : PC 37 [.agg (tBook.cells b), iI d, tu16.lst x] (· = .agg (tTruth.cells (truthT b d x))) := by
  have hday : OkDay b (dayOf b d) := h.day _ (getD_mem zDay b.days d.toNat (by omega))
  have hp := pupils_in hday
  have ho := own_in hday hx
  have hnr := h.nr
  have k66 := c66 b d h hd
  have k90 := fun n hn => c90 x n hx hn
  have k0 := k90 0 (by omega)
  have k1 := k90 1 (by omega)
  have r1 : inR .i64 (60 - pupilsD b d) = true := inR64 (by omega) (by omega)
  have r2 : inR .i64 (60 - pupilsD b d + 1) = true := inR64 (by omega) (by omega)
  have r3 : inR .i64 (ownT b d x + 1) = true := inR64 (by omega) (by omega)
  have r4 : inR .i64 (ownT b d x - adT b d x) = true := inR64 (by omega) (by omega)
  have r5 : inR .i64 (ownT b d x + pupilsD b d) = true := inR64 (by omega) (by omega)
  have n1 : ¬ 60 - pupilsD b d + 1 = 0 := by omega
  have n2 : ¬ ownT b d x + 1 = 0 := by omega
  have hO : (turnR x 0).tmod (60 - pupilsD b d + 1) = ownT b d x := rfl
  have hA : (turnR x 1).tmod (ownT b d x + 1) = adT b d x := rfl
  by_cases hz : b.rooms.length = 0
  · have hmain : WP Tryz.prog ⟨none, 0⟩ (T37 b d x) (Ends' fun r => v37 r = .agg (tTruth.cells (truthT b d x))) (.l0) := by
      have ht1 : (truthT b d x).adults = adT b d x := rfl
      have ht2 : (truthT b d x).children = ownT b d x - adT b d x := rfl
      have ht3 : (truthT b d x).rooms = [] := by unfold truthT; rw [hz]; rfl
      refine WP.step ?_
      simp only [T37, Go, Ends', v37, Tr.sure, SS, hO, hA, hz]
      repeat' with_reducible first | intro _ | apply And.intro
      all_goals first | (simp [hz, ht1, ht2, ht3, tTruth, Go, Ends', v37, -List.getD_eq_getElem?_getD, *]; done) | (simp_all [hz, ht1, ht2, ht3, tTruth, Go, Ends', v37, -List.getD_eq_getElem?_getD]; done)
    refine w37 b d x (WP.step ?_)
    simp only [T37, Go, Ends', v37, Tr.sure, SS, hO, hA]
    repeat' with_reducible first | intro _ | apply And.intro
    all_goals first | exact k66 | exact k0 | exact k1 | exact hmain | (simp [r1, r2, r3, r4, n1, n2, Go, Ends', v37, -List.getD_eq_getElem?_getD, *]; done)
  · have hw : ∀ i : Nat, i < b.rooms.length → inR .i64 (2 + (i : Int)) = true ∧ inR .i64 (min (ownT b d x + pupilsD b d) (b.rooms.getD i zRoom).full + 1) = true ∧ ¬ min (ownT b d x + pupilsD b d) (b.rooms.getD i zRoom).full + 1 = 0 := fun i hi => by
      have hf := (h.room _ (getD_mem zRoom b.rooms i hi)).2
      exact ⟨inR64 (by omega) (by omega), inR64 (by omega) (by omega), by omega⟩
    have hR : ∀ i : Nat, (turnR x (2 + (i : Int))).tmod (min (ownT b d x + pupilsD b d) (b.rooms.getD i zRoom).full + 1) = roomT b d x i := fun i => rfl
    have hmain : WP Tryz.prog ⟨none, 0⟩ (T37 b d x) (Ends' fun r => v37 r = .agg (tTruth.cells (truthT b d x))) (.l100 (0 + 1) [roomT b d x 0]) := by
      refine WP.run (fun k => .l100 ((k + 1 : Nat) : Int) ((List.range (k + 1)).map (roomT b d x)).reverse) rfl (b.rooms.length - 1) (fun k hk => ?_) ?_
      · have hr : inR .i64 (((k + 1 : Nat) : Int) + 1) = true := inR64 (by omega) (by omega)
        have hk' : ((k + 1 : Nat) : Int) < b.rooms.length := by omega
        obtain ⟨q1, q2, q3⟩ := hw (k + 1) (by omega)
        have hRk := hR (k + 1)
        have hle : ((List.range (k + 1)).map (roomT b d x)).reverse.length + 1 ≤ 4294967296 := by simp; omega
        rw [map_next (roomT b d x) (k + 1)]
        have k2 := k90 (2 + ((k + 1 : Nat) : Int)) (by omega)
        generalize ((List.range (k + 1)).map (roomT b d x)).reverse = B at *
        generalize hrm : b.rooms.getD (k + 1) zRoom = R at *
        generalize roomT b d x (k + 1) = v at *
        have hkk : (((k + 1 : Nat) : Int)).toNat = k + 1 := by omega
        have hk0 : (0 : Int) ≤ ((k + 1 : Nat) : Int) := by omega
        have hs : ((k + 1 + 1 : Nat) : Int) = ((k + 1 : Nat) : Int) + 1 := by omega
        rw [hs]
        generalize ((k + 1 : Nat) : Int) = K at *
        clear hw hR
        refine WP.once ?_
        simp only [T37, Tr.sure, SS, hO, hkk, z2, hrm, hRk, hk']
        repeat' with_reducible first | intro _ | apply And.intro
        all_goals first | exact k2 | (simp [hr, q1, q2, q3, r5, hle, hk0, Go, Ends', v37, -List.getD_eq_getElem?_getD, *]; done)
      · have hn : b.rooms.length - 1 + 1 = b.rooms.length := by omega
        have hno : ¬ ((b.rooms.length : Nat) : Int) < b.rooms.length := by omega
        simp only [hn]
        have hrr : ((List.range b.rooms.length).map (roomT b d x)).reverse.reverse = (truthT b d x).rooms := by rw [List.reverse_reverse]; rfl
        have ht1 : (truthT b d x).adults = adT b d x := rfl
        have ht2 : (truthT b d x).children = ownT b d x - adT b d x := rfl
        have hrev : VLe (.list 1 ((List.range b.rooms.length).map (roomT b d x)).reverse.length (rowsRev tint ((List.range b.rooms.length).map (roomT b d x)).reverse)) (tint.lst ((List.range b.rooms.length).map (roomT b d x)).reverse.reverse) := VLe.rev tint _
        generalize ((List.range b.rooms.length).map (roomT b d x)).reverse = B at *
        clear hw hR
        refine WP.step ?_
        simp only [T37, Go, Ends', v37, Tr.sure, SS, hO, hA, hno]
        repeat' with_reducible first | intro _ | apply And.intro
        all_goals first | exact (by with_reducible exact vtel hrev _) | (simp [hrr, ht1, ht2, tTruth, Go, Ends', v37, -List.getD_eq_getElem?_getD, *]; done)
    have hmain0 : WP Tryz.prog ⟨none, 0⟩ (T37 b d x) (Ends' fun r => v37 r = .agg (tTruth.cells (truthT b d x))) (.l0) := by
      have hz' : (0 : Int) < b.rooms.length := by omega
      obtain ⟨q1, q2, q3⟩ := hw 0 (by omega)
      have hR0 := hR 0
      have c0 : ((0 : Nat) : Int) = 0 := rfl
      have i0 : Int.toNat 0 = 0 := rfl
      rw [c0] at q1 hR0
      have k2 := k90 (2 + 0) (by omega)
      generalize hrm : b.rooms.getD 0 zRoom = R at *
      generalize roomT b d x 0 = v at *
      have hr0 : inR .i64 (0 + 1) = true := rfl
      clear hw hR
      have hsc : ∀ v, ((List.range 1).all fun r => (List.range 1).all fun j => (litC 1 1 [iI v] r j).scalar) = true := fun v => rfl
      refine WP.step ?_
      simp only [T37, Go, Ends', v37, Tr.sure, SS, hO, i0, z2, hrm, hR0, hz']
      repeat' with_reducible first | intro _ | apply And.intro
      all_goals first | exact k2 | exact hmain | exact (by with_reducible exact hsc _) | exact (by with_reducible exact tel_one _ ‹_› ‹_›) | (simp [q1, q2, q3, r5, hr0, Go, Ends', v37, -List.getD_eq_getElem?_getD, *]; done) | (simp_all [q1, q2, q3, r5, hr0, Go, Ends', v37, -List.getD_eq_getElem?_getD]; done)
    refine w37 b d x (WP.step ?_)
    simp only [T37, Go, Ends', v37, Tr.sure, SS, hO, hA]
    repeat' with_reducible first | intro _ | apply And.intro
    all_goals first | exact k66 | exact k0 | exact k1 | exact hmain0 | (simp [r1, r2, r3, r4, n1, n2, Go, Ends', v37, -List.getD_eq_getElem?_getD, *]; done)
end
end Go.Proofs.YtfgmckfomckliaaGreat
