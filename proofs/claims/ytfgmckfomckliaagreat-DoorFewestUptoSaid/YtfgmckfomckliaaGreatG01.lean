/-
  Part of the proof of DoorFewest. Conditions: those that stand in each theorem.
-/
import Derived.Test.YtfgmckfomckliaaGreatChecked
import Derived.Test.YtfgmckfomckliaaGreatB13
set_option linter.unusedSimpArgs false
set_option linter.unusedVariables false
set_option maxRecDepth 100000
namespace Ab
theorem rev_take {τ υ : Type} (f : τ → υ) (d : τ) (l : List τ) (i : Nat) (hi : i < l.length) : ((l.take (i + 1)).map f).reverse = f (l.getD i d) :: ((l.take i).map f).reverse := by
  rw [List.take_succ_eq_append_getElem hi, List.map_append, List.reverse_append, List.map_singleton, List.reverse_singleton, List.singleton_append]
  simp only [List.getD_eq_getElem?_getD, List.getElem?_eq_getElem hi, Option.getD_some]
theorem rev_take' {τ υ : Type} (f : τ → υ) (d : τ) (l : List τ) (i : Nat) (hi : i < l.length) : ((l.map f).take (i + 1)).reverse = f (l.getD i d) :: ((l.map f).take i).reverse := by
  rw [← List.map_take, ← List.map_take]; exact rev_take f d l i hi
end Ab
namespace Ab
open Go
def tbool : Ty Bool := ⟨1, fun b => [.bool b], false⟩
end Ab
namespace Go.Proofs.YtfgmckfomckliaaGreat
open Ab
def indexS (l : List ByteArray) (s : ByteArray) : Int := match firstI (fun o => same o s) 0 l with | some i => i | none => -1
def tstr : Ty ByteArray := ⟨1, fun s => [.str s], ByteArray.empty⟩
theorem z9 : tbool.zero = false := rfl
end Go.Proofs.YtfgmckfomckliaaGreat
namespace Go.Proofs.YtfgmckfomckliaaGreat
open Ab Go
noncomputable section
theorem map_take_len {τ υ : Type} (f : τ → υ) (l : List τ) (i : Nat) (hi : i ≤ l.length) : ((l.map f).take i).reverse.length = i := by simp; omega
inductive P91
  | e
inductive R91
  | r0 (r0 : Bool)
noncomputable def T91 (p0 : Int) (p1 : Int) (p2 : Int) : P91 → Tr P91 R91
  | .e => (.br (decide (p0 ≥ p1)) (.out (.r0 (decide (p0 ≤ p2)))) (.out (.r0 false)))
noncomputable def g91 (p0 : Int) (p1 : Int) (p2 : Int) : P91 → List Item × St
  | .e => bd Tryz.f91 [iI p0, iI p1, iI p2] 12
noncomputable def n91 : R91 → Exit × St
  | .r0 r0 => (.ret, ⟨mk 15 [(6, .bool r0)], [], []⟩)
noncomputable def v91 : R91 → V
  | .r0 r0 => .bool r0
theorem s91 (p0 : Int) (p1 : Int) (p2 : Int) : Sm 0 (g91 p0 p1 p2) (T91 p0 p1 p2) (n91)
  | .e => ⟨400, by kernel_rfl⟩
theorem q91 : ∀ r, bodyQ Tryz.prog Tryz.f91 (· = v91 r) (n91 r).1 (n91 r).2
  | .r0 r0 => bq (.bool r0) (by kernel_rfl)
theorem w91 (p0 : Int) (p1 : Int) (p2 : Int) {post : V → Prop} (h : WQ (T91 p0 p1 p2) v91 post .e) : PC 91 [iI p0, iI p1, iI p2] post :=
  PCalls.wq Tryz.func91 (s91 p0 p1 p2) q91 h
theorem c91 (n a b : Int) : PC 91 [iI n, iI a, iI b] (· = .bool (within n a b)) := by
  refine w91 _ _ _ (WP.step ?_)
  simp only [T91, Go, Ends', v91, Tr.sure, SS]
  repeat' with_reducible first | intro _ | apply And.intro
  all_goals simp [within, GE.ge, Go, Ends', v91, -List.getD_eq_getElem?_getD, *]
  all_goals simp_all [within]
inductive P58
  | e
inductive R58
  | r0 (r0 : Bool)
noncomputable def T58 (p0 : Int) (p1 : Int) (p2 : Int) : P58 → Tr P58 R58
  | .e => (.br (decide (p0 ≥ p1)) (.out (.r0 (decide (p0 ≤ p2)))) (.out (.r0 false)))
noncomputable def g58 (p0 : Int) (p1 : Int) (p2 : Int) : P58 → List Item × St
  | .e => bd Tryz.f58 [iI p0, iI p1, iI p2] 12
noncomputable def n58 : R58 → Exit × St
  | .r0 r0 => (.ret, ⟨mk 15 [(6, .bool r0)], [], []⟩)
noncomputable def v58 : R58 → V
  | .r0 r0 => .bool r0
theorem s58 (p0 : Int) (p1 : Int) (p2 : Int) : Sm 0 (g58 p0 p1 p2) (T58 p0 p1 p2) (n58)
  | .e => ⟨400, by kernel_rfl⟩
theorem q58 : ∀ r, bodyQ Tryz.prog Tryz.f58 (· = v58 r) (n58 r).1 (n58 r).2
  | .r0 r0 => bq (.bool r0) (by kernel_rfl)
theorem w58 (p0 : Int) (p1 : Int) (p2 : Int) {post : V → Prop} (h : WQ (T58 p0 p1 p2) v58 post .e) : PC 58 [iI p0, iI p1, iI p2] post :=
  PCalls.wq Tryz.func58 (s58 p0 p1 p2) q58 h
theorem c58 (n a b : Int) : PC 58 [iI n, iI a, iI b] (· = .bool (within n a b)) := by
  refine w58 _ _ _ (WP.step ?_)
  simp only [T58, Go, Ends', v58, Tr.sure, SS]
  repeat' with_reducible first | intro _ | apply And.intro
  all_goals simp [within, GE.ge, Go, Ends', v58, -List.getD_eq_getElem?_getD, *]
  all_goals simp_all [within]
theorem data_get (s : ByteArray) (i : Nat) : s.data.getD i 0 = s.data.toList.getD i 0 := by simp
theorem inR8 (c : UInt8) : inR .i64 (c.toNat : Int) = true := inR64 (by omega) (by have := c.toNat_lt; omega)
inductive P127
  | e
  | l0 (x0_3 : Int)
inductive R127
  | r0 (r0 : Bool)
noncomputable def T127 (p0 : ByteArray) : P127 → Tr P127 R127
  | .e => (.br ((p0.size : Int) == (0 : Int)) (.lit true (.out (.r0 false))) (.br (decide ((p0.size : Int) > (16 : Int))) (.out (.r0 false)) (.go (.l0 0))))
  | .l0 x0_3 => let c1 := ((p0.data.getD (x0_3).toNat 0).toNat : Int); let c2 : Tr P127 R127 := .need (inR .i64 (x0_3 + (1 : Int))) (.go (.l0 (x0_3 + (1 : Int)))); let c3 := decide (0 ≤ x0_3) && decide (x0_3 < (p0.size : Int)); let c4 : Tr P127 R127 := .lit true (.lit true (.out (.r0 false))); let c5 := within c1 97 122; let c6 : Tr P127 R127 := .lit false (.lit false c2); (.br (decide (x0_3 < (p0.size : Int))) (.need c3 (.need (inR .i64 c1) (.call 91 [iI c1, iI 97, iI 122] (.bool c5) true true (.need c3 (.need (inR .i64 c1) (.call 91 [iI c1, iI 48, iI 57] (.bool (within c1 48 57)) true true (.br (within c1 48 57) (.br (!c5) (.br (x0_3 == (0 : Int)) c4 (.lit true (.lit false c2))) c6) (.need c3 (.br (!c5) (.br (x0_3 == (0 : Int)) c4 (.lit true (.br (!(c1 == (46 : Int))) (.out (.r0 false)) c2))) c6))))))))) (.out (.r0 true)))
noncomputable def g127 (p0 : ByteArray) : P127 → List Item × St
  | .e => bd Tryz.f127 [.str p0] 45
  | .l0 x0_3 => (cutOf Tryz.f127 0, ⟨mk 46 [(0, .str p0), (2, .bool false), (3, iI x0_3)], [], []⟩)
noncomputable def n127 : R127 → Exit × St
  | .r0 r0 => (.ret, ⟨mk 46 [(2, .bool r0)], [], []⟩)
noncomputable def v127 : R127 → V
  | .r0 r0 => .bool r0
theorem s127 (p0 : ByteArray) : Sm 0 (g127 p0) (T127 p0) (n127)
  | .e => ⟨400, by kernel_rfl⟩
  | .l0 _ => ⟨400, by kernel_rfl⟩
theorem q127 : ∀ r, bodyQ Tryz.prog Tryz.f127 (· = v127 r) (n127 r).1 (n127 r).2
  | .r0 r0 => bq (.bool r0) (by kernel_rfl)
theorem w127 (p0 : ByteArray) {post : V → Prop} (h : WQ (T127 p0) v127 post .e) : PC 127 [.str p0] post :=
  PCalls.wq Tryz.func127 (s127 p0) q127 h
theorem c127 (s : ByteArray) : PC 127 [.str s] (· = .bool (nameOk s)) := by
  refine w127 _ (WP.step ?_)
  simp only [T127, Tr.sure, Go, Ends', v127]
  refine ⟨fun h => ?_, fun h0 => ⟨fun h => ?_, fun h1 => ?_⟩⟩
  · simp at h; simp [nameOk, h]
  · simp at h; simp [nameOk]; omega
  simp only [beq_eq_false_iff_ne, ne_eq, decide_eq_false_iff_not, Int.not_lt, gt_iff_lt] at h0 h1
  have hs : s.size ≤ 16 := by omega
  have hn : nameOk s = nameFrom true s.data.toList := by
    have h0' : s.size ≠ 0 := by omega
    simp [nameOk, hs, h0']
  refine WP.count (fun i => .l0 i) rfl s.size (fun i => nameFrom true s.data.toList = nameFrom (i == 0) (s.data.toList.drop i)) rfl (fun i hi hI => ?_) fun hI => ?_
  · have hd := drop_cons 0 s.data.toList i hi
    have hr : inR .i64 ((i : Int) + 1) = true := inR64 (by omega) (by omega)
    have hc := inR8 (s.data.toList.getD i 0)
    rw [hd] at hI
    simp only [nameFrom] at hI
    generalize hg : s.data.toList.getD i 0 = c at *
    refine WP.once ?_
    simp only [T127, Tr.sure, SS, hi, data_get, hg]
    repeat' with_reducible first | intro _ | apply And.intro
    all_goals first | exact c91 _ _ _ | (simp [hr, hc, hI, hn, letter, other, Go, Ends', v127, -List.getD_eq_getElem?_getD, *]; done)
  · have he : nameFrom (s.size == 0) (s.data.toList.drop s.size) = true := by rw [← data_len, List.drop_length]; rfl
    refine WP.step ?_
    simp only [T127, Go, Ends', v127, Tr.sure, SS]
    repeat' with_reducible first | intro _ | apply And.intro
    all_goals simp [hn, hI, he, Go, Ends', v127, -List.getD_eq_getElem?_getD, *]
theorem tstr_zero : tstr.zero = ByteArray.empty := rfl
inductive P128
  | e
  | l0 (x0_5 : Int)
inductive R128
  | r0 (r0 : Int)
noncomputable def T128 (p0 : List ByteArray) (p1 : ByteArray) : P128 → Tr P128 R128
  | .e => (.go (.l0 0))
  | .l0 x0_5 => let c1 := x0_5 < (p0.length : Int); (.br (decide c1) (.need (decide (0 ≤ x0_5) && decide c1) (.br ((p0.getD (x0_5).toNat tstr.zero).toList == p1.toList) (.out (.r0 x0_5)) (.need (inR .i64 (x0_5 + (1 : Int))) (.go (.l0 (x0_5 + (1 : Int))))))) (.out (.r0 (-1))))
noncomputable def g128 (p0 : List ByteArray) (p1 : ByteArray) : P128 → List Item × St
  | .e => bd Tryz.f128 [tstr.lst p0, .str p1] 17
  | .l0 x0_5 => (cutOf Tryz.f128 0, ⟨mk 19 [(0, tstr.lst p0), (1, .str p1), (4, iI 0), (5, iI x0_5)], [], []⟩)
noncomputable def n128 : R128 → Exit × St
  | .r0 r0 => (.ret, ⟨mk 19 [(4, iI r0)], [], []⟩)
noncomputable def v128 : R128 → V
  | .r0 r0 => iI r0
theorem s128 (p0 : List ByteArray) (p1 : ByteArray) : Sm 0 (g128 p0 p1) (T128 p0 p1) (n128)
  | .e => ⟨400, by kernel_rfl⟩
  | .l0 _ => ⟨400, by kernel_rfl⟩
theorem q128 : ∀ r, bodyQ Tryz.prog Tryz.f128 (· = v128 r) (n128 r).1 (n128 r).2
  | .r0 r0 => bq (iI r0) (by kernel_rfl)
theorem w128 (p0 : List ByteArray) (p1 : ByteArray) {post : V → Prop} (h : WQ (T128 p0 p1) v128 post .e) : PC 128 [tstr.lst p0, .str p1] post :=
  PCalls.wq Tryz.func128 (s128 p0 p1) q128 h
theorem c128 (l : List ByteArray) (n : ByteArray) (h : l.length ≤ 4) : PC 128 [tstr.lst l, .str n] (· = iI (indexS l n)) := by
  refine w128 _ _ (WP.step ?_)
  simp only [T128, Go, Ends', v128, Tr.sure, SS]
  repeat' with_reducible first | intro _ | apply And.intro
  refine WP.findI (fun i => .l0 i) rfl l ByteArray.empty (fun o => same o n) (fun i hi => ?_) fun hI => ?_
  · have hr : inR .i64 ((i : Int) + 1) = true := inR64 (by omega) (by omega)
    refine WP.once ?_
    simp only [T128, Tr.sure, SS, hi]
    repeat' with_reducible first | intro _ | apply And.intro
    all_goals first | (simp [hr, same, tstr_zero, indexS, Go, Ends', v128, -List.getD_eq_getElem?_getD, *]; done) | (simp_all [hr, same, tstr_zero, indexS, Go, Ends', v128, -List.getD_eq_getElem?_getD]; done)
  · refine WP.step ?_
    simp only [T128, Go, Ends', v128, Tr.sure, SS]
    repeat' with_reducible first | intro _ | apply And.intro
    all_goals simp [hI, indexS, Go, Ends', v128, -List.getD_eq_getElem?_getD, *]
theorem indexS_ge (l : List ByteArray) (n : ByteArray) : (0 ≤ indexS l n) ↔ l.any (fun o => same o n) = true := by
  rw [← firstI_any _ l 0, indexS]
  cases firstI (fun o => same o n) 0 l <;> simp
inductive P101
  | e
inductive R101
  | r0 (r0 : Int)
noncomputable def T101 (p0 : ByteArray) (p1 : List ByteArray) : P101 → Tr P101 R101
  | .e => (.call 127 [.str p0] (.bool (nameOk p0)) true true (.br (!(nameOk p0)) (.out (.r0 6)) (.call 128 [tstr.lst p1, .str p0] (iI (indexS p1 p0)) true true (.br (decide ((indexS p1 p0) ≥ (0 : Int))) (.out (.r0 5)) (.out (.r0 0))))))
noncomputable def g101 (p0 : ByteArray) (p1 : List ByteArray) : P101 → List Item × St
  | .e => bd Tryz.f101 [.str p0, tstr.lst p1] 10
noncomputable def n101 : R101 → Exit × St
  | .r0 r0 => (.ret, ⟨mk 12 [(4, iI r0)], [], []⟩)
noncomputable def v101 : R101 → V
  | .r0 r0 => iI r0
theorem s101 (p0 : ByteArray) (p1 : List ByteArray) : Sm 0 (g101 p0 p1) (T101 p0 p1) (n101)
  | .e => ⟨400, by kernel_rfl⟩
theorem q101 : ∀ r, bodyQ Tryz.prog Tryz.f101 (· = v101 r) (n101 r).1 (n101 r).2
  | .r0 r0 => bq (iI r0) (by kernel_rfl)
theorem w101 (p0 : ByteArray) (p1 : List ByteArray) {post : V → Prop} (h : WQ (T101 p0 p1) v101 post .e) : PC 101 [.str p0, tstr.lst p1] post :=
  PCalls.wq Tryz.func101 (s101 p0 p1) q101 h
theorem c101 (n : ByteArray) (l : List ByteArray) (h : l.length ≤ 4) : PC 101 [.str n, tstr.lst l] (· = iI (newErr n l)) := by
  have hi := indexS_ge l n
  refine w101 _ _ (WP.step ?_)
  simp only [T101, Go, Ends', v101, Tr.sure, SS]
  repeat' with_reducible first | intro _ | apply And.intro
  all_goals first | exact c127 _ | exact c128 _ _ h | (simp [newErr, Go, Ends', v101, -List.getD_eq_getElem?_getD, *]; done) | (simp_all [newErr, Go, Ends', v101, -List.getD_eq_getElem?_getD]; done)
theorem c101r (n : ByteArray) (l : List ByteArray) (h : l.length ≤ 4) : PC 101 [.str n, .list 1 l.reverse.length (rowsRev tstr l.reverse)] (· = iI (newErr n l)) :=
  PCalls.arg (pre := [.str n]) (c101 n l h) (by have := VLe.rev tstr l.reverse; rwa [List.reverse_reverse] at this)
theorem less_end (a b : List Int) (h : a.length = 0 ∨ b.length = 0) : less a b = decide (a.length < b.length) := by
  cases a <;> cases b <;> simp_all [less]
theorem less_drop (a b : List Int) {i : Nat} (ha : i < a.length) (hb : i < b.length) : less (a.drop i) (b.drop i) = if a.getD i 0 = b.getD i 0 then less (a.drop (i + 1)) (b.drop (i + 1)) else decide (a.getD i 0 < b.getD i 0) := by
  rw [drop_cons 0 a i ha, drop_cons 0 b i hb]; rfl
inductive P41
  | e
  | l0 (x0_6 : Int)
inductive R41
  | r0 (r0 : Bool)
noncomputable def T41 (p0 : List Int) (p1 : List Int) : P41 → Tr P41 R41
  | .e => (.go (.l0 0))
  | .l0 x0_6 => let c1 := ((decide (0 ≤ x0_6) && decide (x0_6 < (p0.length : Int))) && ((decide (0 ≤ x0_6) && decide (x0_6 < (p1.length : Int))) && true)) && true; let c2 := p1.getD (x0_6).toNat tint.zero; let c3 := p0.getD (x0_6).toNat tint.zero; (.br (decide (x0_6 < (min (p0.length : Int) (p1.length : Int)))) (.front [] [] c1 true (.br (c3 != c2) (.front [] [] c1 true (.out (.r0 (decide (c3 < c2))))) (.need (inR .i64 (x0_6 + (1 : Int))) (.go (.l0 (x0_6 + (1 : Int))))))) (.out (.r0 (decide ((p0.length : Int) < (p1.length : Int))))))
noncomputable def g41 (p0 : List Int) (p1 : List Int) : P41 → List Item × St
  | .e => bd Tryz.f41 [tint.lst p0, tint.lst p1] 38
  | .l0 x0_6 => (cutOf Tryz.f41 0, ⟨mk 40 [(0, tint.lst p0), (1, tint.lst p1), (5, iI (min (p0.length : Int) (p1.length : Int))), (6, iI x0_6)], [], []⟩)
noncomputable def n41 : R41 → Exit × St
  | .r0 r0 => (.ret, ⟨mk 40 [(4, .bool r0)], [], []⟩)
noncomputable def v41 : R41 → V
  | .r0 r0 => .bool r0
theorem s41 (p0 : List Int) (p1 : List Int) : Sm 0 (g41 p0 p1) (T41 p0 p1) (n41)
  | .e => ⟨400, by kernel_rfl⟩
  | .l0 _ => ⟨400, by kernel_rfl⟩
theorem q41 : ∀ r, bodyQ Tryz.prog Tryz.f41 (· = v41 r) (n41 r).1 (n41 r).2
  | .r0 r0 => bq (.bool r0) (by kernel_rfl)
theorem w41 (p0 : List Int) (p1 : List Int) {post : V → Prop} (h : WQ (T41 p0 p1) v41 post .e) : PC 41 [tint.lst p0, tint.lst p1] post :=
  PCalls.wq Tryz.func41 (s41 p0 p1) q41 h
theorem e41 : ∀ xs w, (callFunc 41 xs).run Tryz.prog w = .ok (.enter 41 xs) w := PCalls.enters Tryz.func41 (c := Tryz.f41.body.getD .skip) (by kernel_rfl) (by kernel_rfl)
theorem c41 (a b : List Int) : PC 41 [tint.lst a, tint.lst b] (· = .bool (less a b)) := by
  refine PCalls.assume e41 0 (by simp) .list fun hl => ?_
  refine w41 _ _ (WP.step ?_)
  simp only [T41, Go, Ends', v41, Tr.sure, SS]
  repeat' with_reducible first | intro _ | apply And.intro
  refine WP.count (fun i => .l0 i) rfl (min a.length b.length) (fun i => less a b = less (a.drop i) (b.drop i)) rfl (fun i hi hI => ?_) fun hI => ?_
  · have hia : i < a.length := by omega
    have hib : i < b.length := by omega
    have hr := inRi hia hl
    have hd := less_drop a b hia hib
    have hi' : ((i : Nat) : Int) < min (a.length : Int) (b.length : Int) := by omega
    have hd1 : a.getD i 0 = b.getD i 0 → less a b = less (a.drop (i + 1)) (b.drop (i + 1)) := fun h => by rw [hI, hd, if_pos h]
    have hd2 : ¬ a.getD i 0 = b.getD i 0 → less a b = decide (a.getD i 0 < b.getD i 0) := fun h => by rw [hI, hd, if_neg h]
    clear hI hd
    refine WP.once ?_
    simp only [T41, Tr.sure, SS, hi', hia, hib, z1]
    repeat' with_reducible first | intro _ | apply And.intro
    all_goals simp [hr, Go, Ends', v41, -List.getD_eq_getElem?_getD, *]
    all_goals (right; simp only [Go, Ends', v41]; rw [hd2 (by assumption)]; rfl)
  · have hge : ¬ ((min a.length b.length : Nat) : Int) < min (a.length : Int) (b.length : Int) := by omega
    have he : less a b = decide ((a.length : Int) < (b.length : Int)) := by
      rw [hI, less_end _ _ (by simp only [List.length_drop]; omega)]
      simp only [List.length_drop]
      congr 1
      simp only [eq_iff_iff]; omega
    refine WP.step ?_
    simp only [T41, Go, Ends', v41, Tr.sure, SS, hge]
    repeat' with_reducible first | intro _ | apply And.intro
    all_goals simp [he, Go, Ends', v41, -List.getD_eq_getElem?_getD, *]
inductive P92
  | e
  | l0 (x0_5 : Int)
inductive R92
  | r0 (r0 : Bool)
noncomputable def T92 (p0 : List Int) (p1 : Int) : P92 → Tr P92 R92
  | .e => (.go (.l0 0))
  | .l0 x0_5 => let c1 := x0_5 < (p0.length : Int); (.br (decide c1) (.need (decide (0 ≤ x0_5) && decide c1) (.br ((p0.getD (x0_5).toNat tint.zero) == p1) (.out (.r0 true)) (.need (inR .i64 (x0_5 + (1 : Int))) (.go (.l0 (x0_5 + (1 : Int))))))) (.out (.r0 false)))
noncomputable def g92 (p0 : List Int) (p1 : Int) : P92 → List Item × St
  | .e => bd Tryz.f92 [tint.lst p0, iI p1] 16
  | .l0 x0_5 => (cutOf Tryz.f92 0, ⟨mk 18 [(0, tint.lst p0), (1, iI p1), (4, .bool false), (5, iI x0_5)], [], []⟩)
noncomputable def n92 : R92 → Exit × St
  | .r0 r0 => (.ret, ⟨mk 18 [(4, .bool r0)], [], []⟩)
noncomputable def v92 : R92 → V
  | .r0 r0 => .bool r0
theorem s92 (p0 : List Int) (p1 : Int) : Sm 0 (g92 p0 p1) (T92 p0 p1) (n92)
  | .e => ⟨400, by kernel_rfl⟩
  | .l0 _ => ⟨400, by kernel_rfl⟩
theorem q92 : ∀ r, bodyQ Tryz.prog Tryz.f92 (· = v92 r) (n92 r).1 (n92 r).2
  | .r0 r0 => bq (.bool r0) (by kernel_rfl)
theorem w92 (p0 : List Int) (p1 : Int) {post : V → Prop} (h : WQ (T92 p0 p1) v92 post .e) : PC 92 [tint.lst p0, iI p1] post :=
  PCalls.wq Tryz.func92 (s92 p0 p1) q92 h
theorem e92 : ∀ xs w, (callFunc 92 xs).run Tryz.prog w = .ok (.enter 92 xs) w := PCalls.enters Tryz.func92 (c := Tryz.f92.body.getD .skip) (by kernel_rfl) (by kernel_rfl)
theorem c92 (l : List Int) (n : Int) : PC 92 [tint.lst l, iI n] (· = .bool (hasN l n)) := by
  refine PCalls.assume e92 0 (by simp) .list fun hl => ?_
  refine w92 _ _ (WP.step ?_)
  simp only [T92, Go, Ends', v92, Tr.sure, SS]
  repeat' with_reducible first | intro _ | apply And.intro
  refine WP.findI (fun i => .l0 i) rfl l 0 (· == n) (fun i hi => ?_) fun hI => ?_
  · have hr := inRi hi hl
    have ha : firstI (· == n) 0 l = some i → l.any (· == n) = true := any_of_firstI
    refine WP.once ?_
    simp only [T92, Tr.sure, SS, hi, z1]
    repeat' with_reducible first | intro _ | apply And.intro
    all_goals first | (simp [hr, hasN, Go, Ends', v92, -List.getD_eq_getElem?_getD, *]; done) | (simp_all [hr, hasN, Go, Ends', v92, -List.getD_eq_getElem?_getD]; done)
  · have ha := any_of_none hI
    refine WP.step ?_
    simp only [T92, Go, Ends', v92, Tr.sure, SS, Int.lt_irrefl]
    repeat' with_reducible first | intro _ | apply And.intro
    all_goals simp [hasN, ha, Go, Ends', v92, -List.getD_eq_getElem?_getD, *]
inductive P49
  | e
inductive R49
  | r0 (r0 : Bool)
noncomputable def T49 (p0 : List Int) (p1 : List Int) : P49 → Tr P49 R49
  | .e => (.br ((p0.length : Int) != (p1.length : Int)) (.out (.r0 (decide ((p0.length : Int) < (p1.length : Int))))) (.call 41 [tint.lst p0, tint.lst p1] (.bool (less p0 p1)) true true (.out (.r0 (less p0 p1)))))
noncomputable def g49 (p0 : List Int) (p1 : List Int) : P49 → List Item × St
  | .e => bd Tryz.f49 [tint.lst p0, tint.lst p1] 16
noncomputable def n49 : R49 → Exit × St
  | .r0 r0 => (.ret, ⟨mk 18 [(4, .bool r0)], [], []⟩)
noncomputable def v49 : R49 → V
  | .r0 r0 => .bool r0
theorem s49 (p0 : List Int) (p1 : List Int) : Sm 0 (g49 p0 p1) (T49 p0 p1) (n49)
  | .e => ⟨400, by kernel_rfl⟩
theorem q49 : ∀ r, bodyQ Tryz.prog Tryz.f49 (· = v49 r) (n49 r).1 (n49 r).2
  | .r0 r0 => bq (.bool r0) (by kernel_rfl)
theorem w49 (p0 : List Int) (p1 : List Int) {post : V → Prop} (h : WQ (T49 p0 p1) v49 post .e) : PC 49 [tint.lst p0, tint.lst p1] post :=
  PCalls.wq Tryz.func49 (s49 p0 p1) q49 h
def fewer (a b : List Int) : Bool := if a.length ≠ b.length then decide (a.length < b.length) else less a b
theorem c49 (a b : List Int) : PC 49 [tint.lst a, tint.lst b] (· = .bool (fewer a b)) := by
  have hfe : fewer a b = if (a.length : Int) = b.length then less a b else decide (a.length < b.length) := by
    unfold fewer; simp only [ne_eq, ite_not, Int.natCast_inj]
  refine w49 _ _ (WP.step ?_)
  simp only [T49, Go, Ends', v49, Tr.sure, SS]
  repeat' with_reducible first | intro _ | apply And.intro
  all_goals first | exact (c41 _ _) | (simp [hfe, Go, Ends', v49, -List.getD_eq_getElem?_getD, *]; done)
end
noncomputable section
inductive P59
  | e
  | l0 (x0_5 : Int) (a0_0 : List ByteArray)
inductive R59
  | r0 (r0 : Int) (r1 : Int)
noncomputable def T59 (l : List Room) : P59 → Tr P59 R59
  | .e => (.br (decide ((l.length : Int) > (3 : Int))) (.out (.r0 0 3)) (.wait 3 (.own 4 9 1 (.go (.l0 0 ([]))))))
  | .l0 x0_5 a0_0 => let c1 := l.getD (x0_5).toNat tRoom.zero; let c2 : Tr P59 R59 := .need (inR .i64 (x0_5 + (1 : Int))) (.go (.l0 (x0_5 + (1 : Int)) (c1.name :: a0_0))); let c3 := decide (0 ≤ x0_5) && decide (x0_5 < (l.length : Int)); let c4 := newErr (c1.name) a0_0.reverse; let c5 : Tr P59 R59 := .br ((7 : Int) != (0 : Int)) (.out (.r0 x0_5 7)) c2; let c6 : Tr P59 R59 := .br (c4 != (0 : Int)) (.out (.r0 x0_5 c4)) c2; (.br (decide (x0_5 < (l.length : Int))) (.need c3 (.call 101 [.str (c1.name), .list 1 a0_0.length (rowsRev tstr a0_0)] (iI c4) ((decide (a0_0.length ≤ a0_0.length)) && true) true (.need c3 (.need ((decide (a0_0.length = a0_0.length) && decide (a0_0.length + 1 ≤ 4294967296)) && decide (1 ≤ 1)) (.scal (fun _ => true) (.br (c4 == (0 : Int)) (.need c3 (.call 58 [iI (c1.more), iI 0, iI 20] (.bool (within (c1.more) 0 20)) true true (.br (!(within (c1.more) 0 20)) (.lit true (.lit true c5)) (.need c3 (.call 58 [iI (c1.full), iI 0, iI 60] (.bool (within (c1.full) 0 60)) true true (.lit true (.br (!(within (c1.full) 0 60)) c5 c6))))))) (.lit false (.lit false c6)))))))) (.out (.r0 0 0)))
noncomputable def g59 (l : List Room) : P59 → List Item × St
  | .e => bd Tryz.f59 [tRoom.lst l] 54
  | .l0 x0_5 a0_0 => (cutOf Tryz.f59 0, ⟨mk 55 [(0, tRoom.lst l), (4, .row 0 a0_0.length), (5, iI x0_5)], [.rows 9 1 a0_0.length (rowsRev tstr a0_0)], []⟩)
noncomputable def n59 : R59 → Exit × St
  | .r0 r0 r1 => (.ret, ⟨mk 55 [(2, iI r0), (3, iI r1)], [], []⟩)
noncomputable def v59 : R59 → V
  | .r0 r0 r1 => .tuple [iI r0, iI r1]
theorem s59 (l : List Room) : Sm 0 (g59 l) (T59 l) (n59)
  | .e => ⟨400, by kernel_rfl⟩
  | .l0 _ _ => ⟨400, by kernel_rfl⟩
theorem q59 : ∀ r, bodyQ Tryz.prog Tryz.f59 (· = v59 r) (n59 r).1 (n59 r).2
  | .r0 r0 r1 => bq (.tuple [iI r0, iI r1]) (by kernel_rfl)
theorem w59 (l : List Room) {post : V → Prop} (h : WQ (T59 l) v59 post .e) : PC 59 [tRoom.lst l] post :=
  PCalls.wq Tryz.func59 (s59 l) q59 h
theorem c59 (l : List Room) : PC 59 [tRoom.lst l] (· = .tuple [iI (roomsErr l).1, iI (roomsErr l).2]) := by
  refine w59 _ (WP.step ?_)
  simp only [T59, Go, Ends', v59, Tr.sure, SS]
  repeat' with_reducible first | intro _ | apply And.intro
  all_goals first | (simp [roomsErr, Go, Ends', v59, -List.getD_eq_getElem?_getD, *]; done) | skip
  rename_i h1
  have hm : l.length ≤ 3 := by omega
  refine WP.findE (fun i => .l0 i (((l.map (·.name)).take i).reverse)) rfl l zRoom (roomAt l) (fun i hi => ?_) fun hI => ?_
  · have hr : inR .i64 ((i : Int) + 1) = true := inR64 (by omega) (by omega)
    have hl := map_take_len (·.name) l i (by omega)
    have hl' : ((l.map (·.name)).take i).length ≤ 4 := by simp; omega
    have ht := rev_take' (·.name) zRoom l i hi
    have hb : i + 1 ≤ 4294967296 := by omega
    refine WP.once ?_
    simp only [T59, Tr.sure, SS, hi, z2, List.reverse_reverse]
    repeat' with_reducible first | intro _ | apply And.intro
    all_goals first | exact c101r _ _ hl' | exact c58 _ _ _ | (simp [hr, roomsErr, firstR, roomAt, ht, hb, hl, Go, Ends', v59, -List.getD_eq_getElem?_getD, *]; done) | (simp_all [hr, roomsErr, firstR, roomAt, ht, hb, hl, Go, Ends', v59, -List.getD_eq_getElem?_getD]; done) | (simp +contextual [hr, roomsErr, firstR, roomAt, ht, hb, hl, Go, Ends', v59, -List.getD_eq_getElem?_getD, *]; done)
  · refine WP.step ?_
    simp only [T59, Go, Ends', v59, Tr.sure, SS, z2]
    repeat' with_reducible first | intro _ | apply And.intro
    all_goals simp [roomsErr, firstR, hI, Go, Ends', v59, -List.getD_eq_getElem?_getD, *]
inductive P102
  | e
  | l0 (x0_4 : Int) (x0_5 : Int) (a0_0 : List ByteArray)
inductive R102
  | r0 (r0 : Int)
noncomputable def T102 (l : List School) : P102 → Tr P102 R102
  | .e => (.br (decide ((l.length : Int) > (3 : Int))) (.out (.r0 3)) (.wait 3 (.own 3 9 1 (.go (.l0 0 0 ([]))))))
  | .l0 x0_4 x0_5 a0_0 => let c3 := decide (0 ≤ x0_5) && decide (x0_5 < (l.length : Int)); let c4 := l.getD (x0_5).toNat tSchool.zero; let c1 : Tr P102 R102 := .need c3 (.need (inR .i64 (x0_4 + c4.children)) (.need (inR .i64 (x0_5 + (1 : Int))) (.go (.l0 (x0_4 + c4.children) (x0_5 + (1 : Int)) (c4.name :: a0_0))))); let c2 := newErr (c4.name) a0_0.reverse; let c5 : Tr P102 R102 := .br (c2 != (0 : Int)) (.out (.r0 c2)) c1; let c6 := within (c4.children) 1 60; (.br (decide (x0_5 < (l.length : Int))) (.need c3 (.call 101 [.str (c4.name), .list 1 a0_0.length (rowsRev tstr a0_0)] (iI c2) ((decide (a0_0.length ≤ a0_0.length)) && true) true (.need c3 (.need ((decide (a0_0.length = a0_0.length) && decide (a0_0.length + 1 ≤ 4294967296)) && decide (1 ≤ 1)) (.scal (fun _ => true) (.br (c2 == (0 : Int)) (.need c3 (.call 58 [iI (c4.children), iI 1, iI 60] (.bool c6) true true (.br (!c6) (.br ((7 : Int) != (0 : Int)) (.out (.r0 7)) c1) c5))) (.lit false c5))))))) (.br (decide (x0_4 > (60 : Int))) (.out (.r0 9)) (.out (.r0 0))))
noncomputable def g102 (l : List School) : P102 → List Item × St
  | .e => bd Tryz.f102 [tSchool.lst l] 53
  | .l0 x0_4 x0_5 a0_0 => (cutOf Tryz.f102 0, ⟨mk 54 [(0, tSchool.lst l), (3, .row 0 a0_0.length), (4, iI x0_4), (5, iI x0_5)], [.rows 9 1 a0_0.length (rowsRev tstr a0_0)], []⟩)
noncomputable def n102 : R102 → Exit × St
  | .r0 r0 => (.ret, ⟨mk 54 [(2, iI r0)], [], []⟩)
noncomputable def v102 : R102 → V
  | .r0 r0 => iI r0
theorem s102 (l : List School) : Sm 0 (g102 l) (T102 l) (n102)
  | .e => ⟨400, by kernel_rfl⟩
  | .l0 _ _ _ => ⟨400, by kernel_rfl⟩
theorem q102 : ∀ r, bodyQ Tryz.prog Tryz.f102 (· = v102 r) (n102 r).1 (n102 r).2
  | .r0 r0 => bq (iI r0) (by kernel_rfl)
theorem w102 (l : List School) {post : V → Prop} (h : WQ (T102 l) v102 post .e) : PC 102 [tSchool.lst l] post :=
  PCalls.wq Tryz.func102 (s102 l) q102 h
theorem c102 (l : List School) : PC 102 [tSchool.lst l] (· = iI (schoolsErr l)) := by
  refine w102 _ (WP.step ?_)
  simp only [T102, Go, Ends', v102, Tr.sure, SS]
  repeat' with_reducible first | intro _ | apply And.intro
  all_goals first | (simp [schoolsErr, Go, Ends', v102, -List.getD_eq_getElem?_getD, *]; done) | skip
  rename_i h1
  have hm : l.length ≤ 3 := by omega
  refine WP.findEI (fun i => .l0 (sumS l i) i (((l.map (·.name)).take i).reverse)) rfl l zSchool (schoolAt l) (fun i => 0 ≤ sumS l i ∧ sumS l i ≤ 60 * i) ⟨Int.le_refl _, Int.le_refl _⟩ (fun i hi hS => ?_) fun hI hS => ?_
  · have hr : inR .i64 ((i : Int) + 1) = true := inR64 (by omega) (by omega)
    have hl := map_take_len (·.name) l i (by omega)
    have hl' : ((l.map (·.name)).take i).length ≤ 4 := by simp; omega
    have ht := rev_take' (·.name) zSchool l i hi
    have hb : i + 1 ≤ 4294967296 := by omega
    rw [sumS_next]
    have hw : within (l.getD i zSchool).children 1 60 = true → inR .i64 (sumS l i + (l.getD i zSchool).children) = true ∧ 0 ≤ sumS l i + (l.getD i zSchool).children ∧ sumS l i + (l.getD i zSchool).children ≤ 60 * ((i : Int) + 1) := fun hw => by
      rw [within_iff] at hw
      exact ⟨inR64 (by omega) (by omega), by omega, by omega⟩
    refine WP.once ?_
    simp only [T102, Tr.sure, SS, hi, z3, List.reverse_reverse]
    repeat' with_reducible first | intro _ | apply And.intro
    all_goals first | exact c101r _ _ hl' | exact c58 _ _ _ | (simp [hr, schoolsErr, schoolAt, ht, hb, hl, Go, Ends', v102, -List.getD_eq_getElem?_getD, *]; done) | (simp_all [hr, schoolsErr, schoolAt, ht, hb, hl, Go, Ends', v102, -List.getD_eq_getElem?_getD]; done) | (simp +contextual [hr, schoolsErr, schoolAt, ht, hb, hl, Go, Ends', v102, -List.getD_eq_getElem?_getD, *]; done)
  · refine WP.step ?_
    simp only [T102, Go, Ends', v102, Tr.sure, SS, z3]
    repeat' with_reducible first | intro _ | apply And.intro
    all_goals simp [schoolsErr, hI, Go, Ends', v102, -List.getD_eq_getElem?_getD, *]
inductive P103
  | e
inductive R103
  | r0 (r0 : Bool)
noncomputable def T103 (c : Count) : P103 → Tr P103 R103
  | .e => (.call 58 [iI c.seen, iI 0, iI 60] (.bool (within c.seen 0 60)) true true (.br (within c.seen 0 60) (.call 58 [iI c.miss, iI 0, iI 5] (.bool (within c.miss 0 5)) true true (.out (.r0 (within c.miss 0 5)))) (.out (.r0 false))))
noncomputable def g103 (c : Count) : P103 → List Item × St
  | .e => bd Tryz.f103 [.agg [iI c.seen, iI c.miss]] 10
noncomputable def n103 : R103 → Exit × St
  | .r0 r0 => (.ret, ⟨mk 11 [(2, .bool r0)], [], []⟩)
noncomputable def v103 : R103 → V
  | .r0 r0 => .bool r0
theorem s103 (c : Count) : Sm 0 (g103 c) (T103 c) (n103)
  | .e => ⟨400, by kernel_rfl⟩
theorem q103 : ∀ r, bodyQ Tryz.prog Tryz.f103 (· = v103 r) (n103 r).1 (n103 r).2
  | .r0 r0 => bq (.bool r0) (by kernel_rfl)
theorem w103 (c : Count) {post : V → Prop} (h : WQ (T103 c) v103 post .e) : PC 103 [.agg [iI c.seen, iI c.miss]] post :=
  PCalls.wq Tryz.func103 (s103 c) q103 h
theorem c103 (c : Count) : PC 103 [.agg (tCount.cells c)] (· = .bool (countOk c)) := by
  refine w103 _ (WP.step ?_)
  simp only [T103, Go, Ends', v103, Tr.sure, SS]
  repeat' with_reducible first | intro _ | apply And.intro
  all_goals first | exact c58 _ _ _ | (simp [countOk, Go, Ends', v103, -List.getD_eq_getElem?_getD, *]; done)
inductive P60
  | e
  | l0 (x0_6 : Bool) (x0_7 : Int)
inductive R60
  | r0 (r0 : Int)
noncomputable def T60 (b : Book) (d : Day) : P60 → Tr P60 R60
  | .e => let c1 : Tr P60 R60 := .call 103 [.agg [iI d.door.seen, iI d.door.miss]] (.bool (countOk d.door)) true true (.br (countOk d.door) (.call 58 [iI d.taken, iI 0, iI 10000] (.bool (within d.taken 0 10000)) true true (.go (.l0 (within d.taken 0 10000) 0))) (.go (.l0 false 0))); let c2 := schoolsErr d.schools; let c3 : Tr P60 R60 := .br (c2 != (0 : Int)) (.out (.r0 c2)) c1; (.call 102 [tSchool.lst d.schools] (iI c2) true true (.br (c2 == (0 : Int)) (.br ((d.rooms.length : Int) != (b.rooms.length : Int)) (.br ((3 : Int) != (0 : Int)) (.out (.r0 3)) c1) c3) (.lit false c3)))
  | .l0 x0_6 x0_7 => let c1 := d.rooms.getD (x0_7).toNat tCount.zero; let c2 := x0_7 + (1 : Int); let c3 := x0_7 < (d.rooms.length : Int); (.br (decide c3) (.br x0_6 (.need (decide (0 ≤ x0_7) && decide c3) (.call 103 [.agg [iI (c1.seen), iI (c1.miss)]] (.bool (countOk c1)) true true (.need (inR .i64 c2) (.go (.l0 (countOk c1) c2))))) (.need (inR .i64 c2) (.go (.l0 false c2)))) (.br (!x0_6) (.out (.r0 7)) (.out (.r0 0))))
noncomputable def g60 (b : Book) (d : Day) : P60 → List Item × St
  | .e => bd Tryz.f60 [.agg (cC b), .agg [tSchool.lst d.schools, iI d.door.seen, iI d.door.miss, tCount.lst d.rooms, iI d.taken]] 49
  | .l0 x0_6 x0_7 => (cutOf Tryz.f60 0, ⟨mk 51 [(3, .ref 1 0 0), (6, .bool x0_6), (7, iI x0_7)], [.gone, .cells [tSchool.lst d.schools, iI d.door.seen, iI d.door.miss, tCount.lst d.rooms, iI d.taken]], []⟩)
noncomputable def n60 : R60 → Exit × St
  | .r0 r0 => (.ret, ⟨mk 51 [(4, iI r0)], [], []⟩)
noncomputable def v60 : R60 → V
  | .r0 r0 => iI r0
theorem s60 (b : Book) (d : Day) : Sm 0 (g60 b d) (T60 b d) (n60)
  | .e => ⟨400, by kernel_rfl⟩
  | .l0 _ _ => ⟨400, by kernel_rfl⟩
theorem q60 : ∀ r, bodyQ Tryz.prog Tryz.f60 (· = v60 r) (n60 r).1 (n60 r).2
  | .r0 r0 => bq (iI r0) (by kernel_rfl)
theorem w60 (b : Book) (d : Day) {post : V → Prop} (h : WQ (T60 b d) v60 post .e) : PC 60 [.agg (cC b), .agg [tSchool.lst d.schools, iI d.door.seen, iI d.door.miss, tCount.lst d.rooms, iI d.taken]] post :=
  PCalls.wq Tryz.func60 (s60 b d) q60 h
theorem c60 (b : Book) (d : Day) (h : b.rooms.length ≤ 3) : PC 60 [.agg (tBook.cells b), .agg (tDay.cells d)] (· = iI (dayErr b d)) := by
  have hmain : ¬ schoolsErr d.schools ≠ 0 → (d.rooms.length : Int) = b.rooms.length → WP Tryz.prog ⟨none, 0⟩ (T60 b d) (Ends' fun r => v60 r = iI (dayErr b d)) (.l0 (countOk d.door && within d.taken 0 10000) 0) := fun h1 h2 => by
    refine WP.run (fun i => .l0 (countOk d.door && within d.taken 0 10000 && (d.rooms.take i).all countOk) i) (by simp) d.rooms.length (fun i hi => ?_) ?_
    · have hr : inR .i64 ((i : Int) + 1) = true := inR64 (by omega) (by omega)
      have hi' : (i : Int) < d.rooms.length := by omega
      have ht : (d.rooms.take (i + 1)).all countOk = ((d.rooms.take i).all countOk && countOk (d.rooms.getD i zCount)) := by rw [take_snoc zCount d.rooms i hi, List.all_append]; simp
      rw [ht, ← Bool.and_assoc]
      generalize (countOk d.door && within d.taken 0 10000 && (d.rooms.take i).all countOk) = A
      cases A with
      | true =>
        refine WP.once ?_
        simp only [T60, Tr.sure, SS, hi', hi, z5]
        repeat' with_reducible first | intro _ | apply And.intro
        all_goals first | exact (c103 _) | (simp [hr, Go, Ends', v60, -List.getD_eq_getElem?_getD, *]; done)
      | false =>
        refine WP.once ?_
        simp only [T60, Tr.sure, SS, hi', hi, z5]
        repeat' with_reducible first | intro _ | apply And.intro
        all_goals simp [hr, Go, Ends', v60, -List.getD_eq_getElem?_getD, *]
    · rw [List.take_length]
      have e : dayErr b d = if (countOk d.door && within d.taken 0 10000 && d.rooms.all countOk) = true then 0 else 7 := by
        unfold dayErr; rw [if_neg h1, if_neg (fun q => q h2)]
      generalize (countOk d.door && within d.taken 0 10000 && d.rooms.all countOk) = A at *
      cases A with
      | true =>
        refine WP.step ?_
        simp only [T60, Go, Ends', v60, Tr.sure, SS, Int.lt_irrefl]
        repeat' with_reducible first | intro _ | apply And.intro
        all_goals simp [e, Go, Ends', v60, -List.getD_eq_getElem?_getD, *]
      | false =>
        refine WP.step ?_
        simp only [T60, Go, Ends', v60, Tr.sure, SS, Int.lt_irrefl]
        repeat' with_reducible first | intro _ | apply And.intro
        all_goals simp [e, Go, Ends', v60, -List.getD_eq_getElem?_getD, *]
  by_cases h1 : schoolsErr d.schools ≠ 0
  · have e : dayErr b d = schoolsErr d.schools := by unfold dayErr; rw [if_pos h1]
    refine w60 b d (WP.step ?_)
    simp only [T60, Go, Ends', v60, Tr.sure, SS]
    repeat' with_reducible first | intro _ | apply And.intro
    all_goals first | exact (c102 _) | exact (c103 _) | exact (c58 _ _ _) | (simp [e, Go, Ends', v60, -List.getD_eq_getElem?_getD, *]; done) | (simp_all [e, Go, Ends', v60, -List.getD_eq_getElem?_getD]; done)
  · by_cases h2 : (d.rooms.length : Int) = b.rooms.length
    · have hm := hmain h1 h2
      have h1' := Decidable.not_not.1 h1
      cases hc : countOk d.door with
      | true =>
        rw [hc, Bool.true_and] at hm
        refine w60 b d (WP.step ?_)
        simp only [T60, Go, Ends', v60, Tr.sure, SS]
        repeat' with_reducible first | intro _ | apply And.intro
        all_goals first | exact (c102 _) | exact (c103 _) | exact (c58 _ _ _) | exact hm | (simp_all [hc, h1', h2, Go, Ends', v60, -List.getD_eq_getElem?_getD]; done)
      | false =>
        rw [hc, Bool.false_and] at hm
        refine w60 b d (WP.step ?_)
        simp only [T60, Go, Ends', v60, Tr.sure, SS]
        repeat' with_reducible first | intro _ | apply And.intro
        all_goals first | exact (c102 _) | exact (c103 _) | exact (c58 _ _ _) | exact hm | (simp_all [hc, h1', h2, Go, Ends', v60, -List.getD_eq_getElem?_getD]; done)
    · have h1' := Decidable.not_not.1 h1
      have e : dayErr b d = 3 := by unfold dayErr; rw [if_neg h1, if_pos h2]
      refine w60 b d (WP.step ?_)
      simp only [T60, Go, Ends', v60, Tr.sure, SS]
      repeat' with_reducible first | intro _ | apply And.intro
      all_goals first | exact (c102 _) | exact (c103 _) | exact (c58 _ _ _) | (simp [e, h1', h2, Go, Ends', v60, -List.getD_eq_getElem?_getD, *]; done) | (simp_all [e, h1', h2, Go, Ends', v60, -List.getD_eq_getElem?_getD]; done)
inductive P14
  | e
  | l0 (x0_7 : Int)
inductive R14
  | r0 (r0 : Int) (r1 : Int) (r2 : Int)
noncomputable def T14 (b : Book) : P14 → Tr P14 R14
  | .e => let c1 := roomsErr b.rooms; (.call 58 [iI b.price, iI 2, iI 60] (.bool (within b.price 2 60)) true true (.br (!(within b.price 2 60)) (.out (.r0 1 0 7)) (.need (decide ((2 : Int) ≠ 0)) (.br ((b.price.tmod (2 : Int)) == (1 : Int)) (.out (.r0 1 0 2)) (.call 59 [tRoom.lst b.rooms] (.tuple [iI (c1.1), iI (c1.2)]) true true (.br (c1.2 != (0 : Int)) (.out (.r0 2 (c1.1) (c1.2))) (.br (decide ((b.days.length : Int) > (4 : Int))) (.out (.r0 3 0 3)) (.go (.l0 0)))))))))
  | .l0 x0_7 => let c1 := b.days.getD (x0_7).toNat tDay.zero; let c2 := x0_7 < (b.days.length : Int); (.br (decide c2) (.front [] [] (((decide (0 ≤ x0_7) && decide c2) && true) && true) true (.call 60 [.agg (cC b), .agg [tSchool.lst (c1.schools), iI (c1.door.seen), iI (c1.door.miss), tCount.lst (c1.rooms), iI (c1.taken)]] (iI (dayErr b c1)) true true (.br ((dayErr b c1) != (0 : Int)) (.out (.r0 3 x0_7 (dayErr b c1))) (.need (inR .i64 (x0_7 + (1 : Int))) (.go (.l0 (x0_7 + (1 : Int)))))))) (.out (.r0 0 0 0)))
noncomputable def g14 (b : Book) : P14 → List Item × St
  | .e => bd Tryz.f14 [.agg (cC b)] 47
  | .l0 x0_7 => (cutOf Tryz.f14 0, ⟨mk 48 [(1, .ref 0 0 0), (7, iI x0_7)], [.cells (cC b)], []⟩)
noncomputable def n14 : R14 → Exit × St
  | .r0 r0 r1 r2 => (.ret, ⟨mk 48 [(2, iI r0), (3, iI r1), (4, iI r2)], [], []⟩)
noncomputable def v14 : R14 → V
  | .r0 r0 r1 r2 => .tuple [iI r0, iI r1, iI r2]
theorem s14 (b : Book) : Sm 0 (g14 b) (T14 b) (n14)
  | .e => ⟨400, by kernel_rfl⟩
  | .l0 _ => ⟨400, by kernel_rfl⟩
theorem q14 : ∀ r, bodyQ Tryz.prog Tryz.f14 (· = v14 r) (n14 r).1 (n14 r).2
  | .r0 r0 r1 r2 => bq (.tuple [iI r0, iI r1, iI r2]) (by kernel_rfl)
theorem w14 (b : Book) {post : V → Prop} (h : WQ (T14 b) v14 post .e) : PC 14 [.agg (cC b)] post :=
  PCalls.wq Tryz.func14 (s14 b) q14 h
theorem c14 (b : Book) : PC 14 [.agg (tBook.cells b)] (· = .tuple [iI (bookCheck b).1, iI (bookCheck b).2.1, iI (bookCheck b).2.2]) := by
  refine w14 _ (WP.step ?_)
  simp only [T14, Go, Ends', v14, Tr.sure, SS]
  repeat' with_reducible first | intro _ | apply And.intro
  all_goals first | exact c58 _ _ _ | exact c59 _ | (simp [bookCheck, Go, Ends', v14, -List.getD_eq_getElem?_getD, *]; done) | skip
  rename_i h1 h2 h3 h4 h5
  have h6 := (okRooms h4).1
  refine WP.findE (fun i => .l0 i) rfl b.days tDay.zero (fun _ d => dayErr b d) (fun i hi => ?_) fun hI => ?_
  · have hr : inR .i64 ((i : Int) + 1) = true := inR64 (by omega) (by omega)
    refine WP.once ?_
    simp only [T14, Tr.sure, SS, hi]
    repeat' with_reducible first | intro _ | apply And.intro
    all_goals first | exact c60 _ _ h6 | (simp [hr, bookCheck, Go, Ends', v14, -List.getD_eq_getElem?_getD, *]; done) | (simp +contextual [hr, bookCheck, Go, Ends', v14, -List.getD_eq_getElem?_getD, *]; done)
  · refine WP.step ?_
    simp only [T14, Go, Ends', v14, Tr.sure, SS]
    repeat' with_reducible first | intro _ | apply And.intro
    all_goals simp [bookCheck, hI, Go, Ends', v14, -List.getD_eq_getElem?_getD, *]
inductive P62
  | e
inductive R62
  | r0 (r0 : Int)
noncomputable def T62 (b : Book) (n : Int) : P62 → Tr P62 R62
  | .e => let c1 := (b.price.tdiv (2 : Int)) * (n - (n.tdiv (13 : Int))); (.need (decide ((2 : Int) ≠ 0) && inR .i64 (b.price.tdiv (2 : Int))) (.need (decide ((13 : Int) ≠ 0) && inR .i64 (n.tdiv (13 : Int))) (.need (inR .i64 (n - (n.tdiv (13 : Int)))) (.need (inR .i64 c1) (.out (.r0 c1))))))
noncomputable def g62 (b : Book) (n : Int) : P62 → List Item × St
  | .e => bd Tryz.f62 [.agg (cC b), iI n] 11
noncomputable def n62 : R62 → Exit × St
  | .r0 r0 => (.ret, ⟨mk 13 [(4, iI r0)], [], []⟩)
noncomputable def v62 : R62 → V
  | .r0 r0 => iI r0
theorem s62 (b : Book) (n : Int) : Sm 0 (g62 b n) (T62 b n) (n62)
  | .e => ⟨400, by kernel_rfl⟩
theorem q62 : ∀ r, bodyQ Tryz.prog Tryz.f62 (· = v62 r) (n62 r).1 (n62 r).2
  | .r0 r0 => bq (iI r0) (by kernel_rfl)
theorem w62 (b : Book) (n : Int) {post : V → Prop} (h : WQ (T62 b n) v62 post .e) : PC 62 [.agg (cC b), iI n] post :=
  PCalls.wq Tryz.func62 (s62 b n) q62 h
theorem c62 (b : Book) (n : Int) (h : OkBook b) (hn : 0 ≤ n ∧ n ≤ 60) : PC 62 [.agg (tBook.cells b), iI n] (· = iI (feeR b n)) := by
  have hp := half_in h
  have hf := fee_in h hn
  have r1 : inR .i64 (b.price.tdiv 2) = true := inR64 (by omega) (by omega)
  have r2 : inR .i64 (n.tdiv 13) = true := inR64 (by omega) (by omega)
  have r3 : inR .i64 (n - n.tdiv 13) = true := inR64 (by omega) (by omega)
  have r4 : inR .i64 (b.price.tdiv 2 * (n - n.tdiv 13)) = true := by have := hf.1; have := hf.2.1; unfold feeR at *; exact inR64 (by omega) (by omega)
  clear hp hf
  refine w62 b n (WP.step ?_)
  simp only [T62, Go, Ends', v62, Tr.sure, SS]
  repeat' with_reducible first | intro _ | apply And.intro
  all_goals simp [r1, r2, r3, r4, feeR, Go, Ends', v62, -List.getD_eq_getElem?_getD, *]
inductive P44
  | e
  | l0 (x0_5 : Int) (x0_6 : Int)
inductive R44
  | r0 (r0 : Int)
noncomputable def T44 (b : Book) (d : Int) : P44 → Tr P44 R44
  | .e => (.go (.l0 0 0))
  | .l0 x0_5 x0_6 => let c1 := (((b.days.getD (d).toNat tDay.zero).schools).getD (x0_6).toNat tSchool.zero).children; let c2 := x0_6 < (((b.days.getD (d).toNat tDay.zero).schools.length) : Int); let c3 := decide (0 ≤ d) && decide (d < (b.days.length : Int)); (.need c3 (.br (decide c2) (.front [(12, 62, [.agg (cC b), iI c1], iI (feeR b c1))] [] ((c3 && ((decide (0 ≤ x0_6) && decide c2) && ((inR .i64 (x0_5 + (feeR b c1))) && true))) && true) true (.need (inR .i64 (x0_6 + (1 : Int))) (.go (.l0 (x0_5 + (feeR b c1)) (x0_6 + (1 : Int)))))) (.out (.r0 x0_5))))
noncomputable def g44 (b : Book) (d : Int) : P44 → List Item × St
  | .e => bd Tryz.f44 [.agg (cC b), iI d] 31
  | .l0 x0_5 x0_6 => (cutOf Tryz.f44 0, ⟨mk 33 [(1, iI d), (2, .ref 0 0 0), (5, iI x0_5), (6, iI x0_6)], [.cells (cC b)], []⟩)
noncomputable def n44 : R44 → Exit × St
  | .r0 r0 => (.ret, ⟨mk 33 [(4, iI r0)], [], []⟩)
noncomputable def v44 : R44 → V
  | .r0 r0 => iI r0
theorem s44 (b : Book) (d : Int) : Sm 0 (g44 b d) (T44 b d) (n44)
  | .e => ⟨400, by kernel_rfl⟩
  | .l0 _ _ => ⟨400, by kernel_rfl⟩
theorem q44 : ∀ r, bodyQ Tryz.prog Tryz.f44 (· = v44 r) (n44 r).1 (n44 r).2
  | .r0 r0 => bq (iI r0) (by kernel_rfl)
theorem w44 (b : Book) (d : Int) {post : V → Prop} (h : WQ (T44 b d) v44 post .e) : PC 44 [.agg (cC b), iI d] post :=
  PCalls.wq Tryz.func44 (s44 b d) q44 h
theorem c44 (b : Book) (d : Int) (h : OkBook b) (hd : 0 ≤ d ∧ d < b.days.length) : PC 44 [.agg (tBook.cells b), iI d] (· = iI (feesD b d)) := by
  have hday := h.day _ (getD_mem zDay b.days d.toNat (by omega))
  have hns := hday.ns
  unfold feesD feesR dayOf
  refine w44 b d (WP.step ?_)
  simp only [T44, Go, Ends', v44, Tr.sure, SS]
  repeat' with_reducible first | intro _ | apply And.intro
  generalize hD : b.days.getD d.toNat zDay = D at *
  refine WP.run (fun i => .l0 (feesTo b D.schools i) i) rfl D.schools.length (fun i hi => ?_) ?_
  · have hin := fees_in h hday.school i (by omega)
    have hs := hday.school _ (getD_mem zSchool D.schools i hi)
    have hf := fee_in h (n := (D.schools.getD i zSchool).children) (by omega)
    have hc := c62 b (D.schools.getD i zSchool).children h (by omega)
    have hi' : (i : Int) < D.schools.length := by omega
    have r1 : inR .i64 (feesTo b D.schools i + feeR b (D.schools.getD i zSchool).children) = true := inR64 (by omega) (by omega)
    have r2 : inR .i64 ((i : Int) + 1) = true := inR64 (by omega) (by omega)
    rw [fees_next]
    refine WP.once ?_
    simp only [T44, Tr.sure, SS, hi', hi, z3, z8, hD]
    repeat' with_reducible first | intro _ | apply And.intro
    all_goals first | exact hc | (simp [r1, r2, hd, Go, Ends', v44, -List.getD_eq_getElem?_getD, *]; done)
  · refine WP.step ?_
    simp only [T44, Go, Ends', v44, Tr.sure, SS, z8, hD, Int.lt_irrefl]
    repeat' with_reducible first | intro _ | apply And.intro
    all_goals simp [hd, Go, Ends', v44, -List.getD_eq_getElem?_getD, *]
inductive P66
  | e
  | l0 (x0_5 : Int) (x0_6 : Int)
inductive R66
  | r0 (r0 : Int)
noncomputable def T66 (b : Book) (d : Int) : P66 → Tr P66 R66
  | .e => (.go (.l0 0 0))
  | .l0 x0_5 x0_6 => let c1 := x0_5 + (((b.days.getD (d).toNat tDay.zero).schools).getD (x0_6).toNat tSchool.zero).children; let c2 := x0_6 < (((b.days.getD (d).toNat tDay.zero).schools.length) : Int); let c3 := decide (0 ≤ d) && decide (d < (b.days.length : Int)); (.need c3 (.br (decide c2) (.need c3 (.need (decide (0 ≤ x0_6) && decide c2) (.need (inR .i64 c1) (.need (inR .i64 (x0_6 + (1 : Int))) (.go (.l0 c1 (x0_6 + (1 : Int)))))))) (.out (.r0 x0_5))))
noncomputable def g66 (b : Book) (d : Int) : P66 → List Item × St
  | .e => bd Tryz.f66 [.agg (cC b), iI d] 29
  | .l0 x0_5 x0_6 => (cutOf Tryz.f66 0, ⟨mk 31 [(1, iI d), (2, .ref 0 0 0), (5, iI x0_5), (6, iI x0_6)], [.cells (cC b)], []⟩)
noncomputable def n66 : R66 → Exit × St
  | .r0 r0 => (.ret, ⟨mk 31 [(4, iI r0)], [], []⟩)
noncomputable def v66 : R66 → V
  | .r0 r0 => iI r0
theorem s66 (b : Book) (d : Int) : Sm 0 (g66 b d) (T66 b d) (n66)
  | .e => ⟨400, by kernel_rfl⟩
  | .l0 _ _ => ⟨400, by kernel_rfl⟩
theorem q66 : ∀ r, bodyQ Tryz.prog Tryz.f66 (· = v66 r) (n66 r).1 (n66 r).2
  | .r0 r0 => bq (iI r0) (by kernel_rfl)
theorem w66 (b : Book) (d : Int) {post : V → Prop} (h : WQ (T66 b d) v66 post .e) : PC 66 [.agg (cC b), iI d] post :=
  PCalls.wq Tryz.func66 (s66 b d) q66 h
theorem c66 (b : Book) (d : Int) (h : OkBook b) (hd : 0 ≤ d ∧ d < b.days.length) : PC 66 [.agg (tBook.cells b), iI d] (· = iI (pupilsD b d)) := by
  have hday := h.day _ (getD_mem zDay b.days d.toNat (by omega))
  have hns := hday.ns
  unfold pupilsD pupilsR dayOf
  refine w66 b d (WP.step ?_)
  simp only [T66, Go, Ends', v66, Tr.sure, SS]
  repeat' with_reducible first | intro _ | apply And.intro
  generalize hD : b.days.getD d.toNat zDay = D at *
  refine WP.run (fun i => .l0 (sumS D.schools i) i) rfl D.schools.length (fun i hi => ?_) ?_
  · have hin := sum_in hday.school i (by omega)
    have hs := hday.school _ (getD_mem zSchool D.schools i hi)
    have hi' : (i : Int) < D.schools.length := by omega
    have r1 : inR .i64 (sumS D.schools i + (D.schools.getD i zSchool).children) = true := inR64 (by omega) (by omega)
    have r2 : inR .i64 ((i : Int) + 1) = true := inR64 (by omega) (by omega)
    rw [sumS_next]
    refine WP.once ?_
    simp only [T66, Tr.sure, SS, hi', hi, z3, z8, hD]
    repeat' with_reducible first | intro _ | apply And.intro
    all_goals simp [r1, r2, hd, Go, Ends', v66, -List.getD_eq_getElem?_getD, *]
  · refine WP.step ?_
    simp only [T66, Go, Ends', v66, Tr.sure, SS, z8, hD, Int.lt_irrefl]
    repeat' with_reducible first | intro _ | apply And.intro
    all_goals simp [hd, Go, Ends', v66, -List.getD_eq_getElem?_getD, *]
end
noncomputable section
inductive P71
  | e
inductive R71
  | r0 (r0_0 : Int) (r0_1 : Int)
noncomputable def T71 (c : Count) (most : Int) (off : Bool) : P71 → Tr P71 R71
  | .e => (.br off (.out (.r0 0 most)) (.need (inR .i64 (c.seen + c.miss)) (.out (.r0 c.seen (min most (c.seen + c.miss))))))
noncomputable def g71 (c : Count) (most : Int) (off : Bool) : P71 → List Item × St
  | .e => bd Tryz.f71 [.agg [iI c.seen, iI c.miss], iI most, .bool off] 17
noncomputable def n71 : R71 → Exit × St
  | .r0 r0_0 r0_1 => (.ret, ⟨mk 20 [(6, .ref 1 0 0)], [.gone, .cells [iI r0_0, iI r0_1]], []⟩)
noncomputable def v71 : R71 → V
  | .r0 r0_0 r0_1 => .agg [iI r0_0, iI r0_1]
theorem s71 (c : Count) (most : Int) (off : Bool) : Sm 0 (g71 c most off) (T71 c most off) (n71)
  | .e => ⟨400, by kernel_rfl⟩
theorem q71 : ∀ r, bodyQ Tryz.prog Tryz.f71 (· = v71 r) (n71 r).1 (n71 r).2
  | .r0 r0_0 r0_1 => bq (.agg [iI r0_0, iI r0_1]) (by kernel_rfl)
theorem w71 (c : Count) (most : Int) (off : Bool) {post : V → Prop} (h : WQ (T71 c most off) v71 post .e) : PC 71 [.agg [iI c.seen, iI c.miss], iI most, .bool off] post :=
  PCalls.wq Tryz.func71 (s71 c most off) q71 h
theorem c71 (c : Count) (most : Int) (off : Bool) (h : (0 ≤ c.seen ∧ c.seen ≤ 60) ∧ 0 ≤ c.miss ∧ c.miss ≤ 1000) : PC 71 [.agg (tCount.cells c), iI most, .bool off] (· = .agg (tSpan.cells (between c most off))) := by
  have r : inR .i64 (c.seen + c.miss) = true := inR64 (by omega) (by omega)
  cases off with
  | true =>
    refine w71 c most true (WP.step ?_)
    simp only [T71, Go, Ends', v71, Tr.sure, SS]
    repeat' with_reducible first | intro _ | apply And.intro
    all_goals simp [r, between, tSpan, Go, Ends', v71, -List.getD_eq_getElem?_getD, *]
  | false =>
    refine w71 c most false (WP.step ?_)
    simp only [T71, Go, Ends', v71, Tr.sure, SS]
    repeat' with_reducible first | intro _ | apply And.intro
    all_goals simp [r, between, tSpan, Go, Ends', v71, -List.getD_eq_getElem?_getD, *]
end
noncomputable section
theorem addNew_len (l : List Int) (x : Int) : (addNew l x).length ≤ l.length + 1 := by unfold addNew; split <;> simp
theorem addAll_len : ∀ (l next : List Int), (addAll next l).length ≤ next.length + l.length
  | [], next => by simp [addAll]
  | x :: l, next => by
    have h1 := addAll_len l (addNew next x)
    have h2 := addNew_len next x
    show (addAll (addNew next x) l).length ≤ _
    simp only [List.length_cons]; omega
def marks (l : List Int) : List Bool := (List.range 3601).map fun (v : Nat) => hasN l (v : Int)
theorem marks_nil : List.replicate ((3601 : Int)).toNat false = marks [] := by
  apply List.ext_getElem
  · simp [marks]
  · intro i h1 h2
    rw [List.getElem_replicate]
    simp only [marks, hasN, List.getElem_map, List.any_nil]
theorem marks_get {l : List Int} {x : Int} (h : 0 ≤ x ∧ x < 3601) : (marks l).getD x.toNat false = hasN l x := by
  simp only [marks, List.getD_eq_getElem?_getD, List.getElem?_map, List.getElem?_range (show x.toNat < 3601 by omega), Option.map_some, Option.getD_some]
  rw [Int.toNat_of_nonneg h.1]
theorem marks_set {l : List Int} {x : Int} (h : 0 ≤ x ∧ x < 3601) : (marks l).set x.toNat true = marks (l ++ [x]) := by
  apply List.ext_getElem?
  intro i
  by_cases e : x.toNat = i
  · subst e
    rw [List.getElem?_set_self (by simp [marks]; omega)]
    simp only [marks, List.getElem?_map, List.getElem?_range (show x.toNat < 3601 by omega), Option.map_some]
    simp [hasN, Int.toNat_of_nonneg h.1]
  · rw [List.getElem?_set_ne e]
    by_cases hi : i < 3601
    · simp only [marks, List.getElem?_map, List.getElem?_range hi, Option.map_some, hasN, List.any_append]
      have : ¬ x = (i : Int) := by omega
      simp [this]
    · simp [marks, List.getElem?_eq_none, hi]
theorem extN_in {b : Book} (h : OkBook b) {D : Day} (hD : OkDay b D) (all : Int) (off : List Int) : ∀ i, i ≤ b.rooms.length → (extN b D all off i).length ≤ 61 ^ i ∧ ∀ x ∈ extN b D all off i, 0 ≤ x ∧ x ≤ 1200 * i
  | 0, _ => by simp [extN]
  | i + 1, hi => by
    obtain ⟨h1, h2⟩ := extN_in h hD all off i (by omega)
    have h3 := spanAt_in h hD all off (i := i) (by omega)
    have hm := (h.room _ (getD_mem zRoom b.rooms i (by omega))).1
    constructor
    · have h4 := flat_le (l := extN b D all off i) (f := candL (b.rooms.getD i zRoom).more (spanAt b D all off i)) (b := 61) fun x _ => candL_len ⟨h3.1, h3.2.2⟩
      have h5 := addAll_len ((extN b D all off i).flatMap (candL (b.rooms.getD i zRoom).more (spanAt b D all off i))) []
      simp only [extN, Nat.pow_succ, List.length_nil] at h5 ⊢
      omega
    · intro x hx
      rw [extN, mem_addAll] at hx
      rcases hx with hx | hx
      · cases hx
      simp only [List.mem_flatMap, candL, List.mem_map, mem_rangeI] at hx
      obtain ⟨p, hp, n, hn, rfl⟩ := hx
      have hp' := h2 p hp
      have q1 : 0 ≤ n * (b.rooms.getD i zRoom).more := Int.mul_nonneg (by omega) hm.1
      have q2 := Int.mul_le_mul (show n ≤ 60 by omega) hm.2 hm.1 (by omega : (0 : Int) ≤ 60)
      omega
theorem ext_small {b : Book} (h : OkBook b) {D : Day} (hD : OkDay b D) (all : Int) (off : List Int) {i : Nat} (hi : i ≤ b.rooms.length) : (extN b D all off i).length ≤ 226981 := by
  have h1 := (extN_in h hD all off i hi).1
  have h2 := h.nr
  rcases show i = 0 ∨ i = 1 ∨ i = 2 ∨ i = 3 by omega with rfl | rfl | rfl | rfl <;> simpa using Nat.le_trans h1 (by decide)
theorem addAll_append (next l m : List Int) : addAll next (l ++ m) = addAll (addAll next l) m := by unfold addAll; rw [List.foldl_append]
theorem rev_1int (n : Int) : VLe (.list 1 1 (litC 1 1 [iI n])) (tint.lst [n]) := VLe.lit tint [n] rfl rfl (fun _ => rfl)
theorem tel_repB {n r j : Nat} (hr : r < n) : VLe (([.bool false] : List V).getD j uU) (rowsOf tbool (List.replicate n false) r j) := by
  simp only [rowsOf, List.getD_eq_getElem?_getD (l := List.replicate n false), List.getElem?_replicate, hr, if_true, Option.getD_some]
  exact VLe.refl _
theorem tel_setB (l : List Bool) (i : Nat) {n : Nat} (hn : n = l.length) (r j : Nat) (hr : r < n) (hj : j < 1) :
    VLe (if r = i ∧ 0 ≤ j ∧ j < 0 + ([.bool true] : List V).length then ([.bool true] : List V).getD (j - 0) uU else rowsOf tbool l r j) (rowsOf tbool (l.set i true) r j) := tel_set tbool l i true [.bool true] rfl rfl hn r j hr hj
theorem underB : underL 0 ([.bool true] : List V) = true := rfl
theorem rev_int (B : List Int) : VLe (.list 1 B.length (rowsRev tint B)) (tint.lst B.reverse) := VLe.rev tint B
inductive P93
  | e
  | l0 (x0_9 : List Int) (x0_10 : Int)
  | l1 (x0_9 : List Int) (x0_10 : Int) (x1_14 : Int) (a1_2 : List Bool) (a1_3 : List Int)
  | l2 (x0_9 : List Int) (x0_10 : Int) (x1_14 : Int) (x2_15 : Int) (a2_2 : List Bool) (a2_3 : List Int)
inductive R93
  | r0 (r0 : List Int)
noncomputable def T93 (b : Book) (d : Int) (all : Int) (off : List Int) : P93 → Tr P93 R93
  | .e => let c1 := ([0] : List Int); let c2 : V := .list 1 1 (litC 1 1 [iI 0]); (.wait 8 (.frz 1 ((decide (1 ≤ 1)) && ((decide (1 ≤ 1)) && true)) (.vle 9 c2 (tint.lst c1) (.vle 17 c2 (tint.lst c1) (.go (.l0 c1 0))))))
  | .l0 x0_9 x0_10 => let c1 := ((b.days.getD (d).toNat tDay.zero).rooms).getD (x0_10).toNat tCount.zero; let c2 := min all ((b.rooms.getD (x0_10).toNat tRoom.zero).full); let c3 := (3601 : Int); let c4 := hasN off x0_10; let c5 := List.replicate ((c3).toNat) false; let c6 := x0_10 < (b.rooms.length : Int); (.br (decide c6) (.front [(19, 92, [tint.lst off, iI x0_10], .bool c4), (20, 71, [.agg [iI (c1.seen), iI (c1.miss)], iI c2, .bool c4], .agg [iI ((between c1 c2 c4).lo), iI ((between c1 c2 c4).hi)])] [] (((decide (0 ≤ d) && decide (d < (b.days.length : Int))) && ((decide (0 ≤ x0_10) && decide (x0_10 < (((b.days.getD (d).toNat tDay.zero).rooms.length) : Int))) && ((decide (0 ≤ x0_10) && decide c6) && true))) && true) true (.need ((decide (0 ≤ c3) && decide (c3 = c3)) && decide (c3 ≤ 4294967296)) (.telb 2 1 ((c3).toNat) (fun _ j => ([.bool false] : List V).getD j uU) (rowsOf tbool c5) (.wait 2 (.own 13 3 1 (.go (.l1 x0_9 x0_10 0 c5 ([])))))))) (.out (.r0 x0_9)))
  | .l1 x0_9 x0_10 x1_14 a1_2 a1_3 => let c1 : V := .list 1 a1_3.length (rowsRev tint a1_3); let c2 := decide (a1_3.length ≤ a1_3.length); let c3 := tint.lst a1_3.reverse; (.br (decide (x1_14 < (x0_9.length : Int))) (.go (.l2 x0_9 x0_10 x1_14 ((between (((b.days.getD (d).toNat tDay.zero).rooms).getD (x0_10).toNat tCount.zero) (min all ((b.rooms.getD (x0_10).toNat tRoom.zero).full)) (hasN off x0_10)).lo) a1_2 a1_3)) (.need (inR .i64 (x0_10 + (1 : Int))) (.frz 3 (c2 && (c2 && (c2 && true))) (.vle 9 c1 c3 (.vle 13 c1 c3 (.vle 86 c1 c3 (.go (.l0 a1_3.reverse (x0_10 + (1 : Int))))))))))
  | .l2 x0_9 x0_10 x1_14 x2_15 a2_2 a2_3 => let c3 := ([.bool true] : List V); let c4 := x2_15 + (1 : Int); let c5 := b.rooms.getD (x0_10).toNat tRoom.zero; let c1 := (x0_9.getD (x1_14).toNat tint.zero) + (x2_15 * c5.more); let c2 := (decide (0 ≤ c1) && decide (c1 < ((((3601 : Int)).toNat) : Int))) && decide (((3601 : Int)).toNat ≤ ((3601 : Int)).toNat); let c6 := (c1).toNat < ((3601 : Int)).toNat; let c7 := a2_2.set ((c1).toNat) true; (.br (decide (x2_15 ≤ (between (((b.days.getD (d).toNat tDay.zero).rooms).getD (x0_10).toNat tCount.zero) (min all (c5.full)) (hasN off x0_10)).hi)) (.front [] [] (((decide (0 ≤ x1_14) && decide (x1_14 < (x0_9.length : Int))) && ((decide (0 ≤ x0_10) && decide (x0_10 < (b.rooms.length : Int))) && ((inR .i64 (x2_15 * c5.more)) && ((inR .i64 c1) && true)))) && true) true (.need c2 (.need (decide c6 && decide (0 < 1)) (.br (!(a2_2.getD (c1).toNat tbool.zero)) (.need c2 (.need ((decide c6 && decide (0 + c3.length ≤ 1)) && underL 0 c3) (.telb 2 1 (((3601 : Int)).toNat) (fun r' j => if r' = (c1).toNat ∧ 0 ≤ j ∧ j < 0 + c3.length then c3.getD (j - 0) uU else (rowsOf tbool a2_2) r' j) (rowsOf tbool c7) (.need ((decide (a2_3.length = a2_3.length) && decide (a2_3.length + 1 ≤ 4294967296)) && decide (1 ≤ 1)) (.scal (fun _ => true) (.need (inR .i64 c4) (.go (.l2 x0_9 x0_10 x1_14 c4 c7 (c1 :: a2_3))))))))) (.need (inR .i64 c4) (.go (.l2 x0_9 x0_10 x1_14 c4 a2_2 a2_3))))))) (.need (inR .i64 (x1_14 + (1 : Int))) (.go (.l1 x0_9 x0_10 (x1_14 + (1 : Int)) a2_2 a2_3))))
noncomputable def g93 (b : Book) (d : Int) (all : Int) (off : List Int) : P93 → List Item × St
  | .e => bd Tryz.f93 [.agg (cC b), iI d, iI all, tint.lst off] 84
  | .l0 x0_9 x0_10 => (cutOf Tryz.f93 0, ⟨mk 88 [(1, iI d), (2, iI all), (3, tint.lst off), (4, .ref 0 0 0), (9, tint.lst x0_9), (10, iI x0_10)], [.cells (cC b)], []⟩)
  | .l1 x0_9 x0_10 x1_14 a1_2 a1_3 => (cutOf Tryz.f93 1, ⟨mk 88 [(1, iI d), (2, iI all), (3, tint.lst off), (4, .ref 0 0 0), (9, tint.lst x0_9), (10, iI x0_10), (11, .ref 1 0 0), (12, .row 2 (((3601 : Int)).toNat)), (13, .row 3 a1_3.length), (14, iI x1_14)], [.cells (cC b), .cells [iI ((between (((b.days.getD (d).toNat tDay.zero).rooms).getD (x0_10).toNat tCount.zero) (min all ((b.rooms.getD (x0_10).toNat tRoom.zero).full)) (hasN off x0_10)).lo), iI ((between (((b.days.getD (d).toNat tDay.zero).rooms).getD (x0_10).toNat tCount.zero) (min all ((b.rooms.getD (x0_10).toNat tRoom.zero).full)) (hasN off x0_10)).hi)], .rows 4 1 (((3601 : Int)).toNat) (rowsOf tbool a1_2), .rows 3 1 a1_3.length (rowsRev tint a1_3)], []⟩)
  | .l2 x0_9 x0_10 x1_14 x2_15 a2_2 a2_3 => (cutOf Tryz.f93 2, ⟨mk 88 [(1, iI d), (2, iI all), (3, tint.lst off), (4, .ref 0 0 0), (9, tint.lst x0_9), (10, iI x0_10), (11, .ref 1 0 0), (12, .row 2 (((3601 : Int)).toNat)), (13, .row 3 a2_3.length), (14, iI x1_14), (15, iI x2_15)], [.cells (cC b), .cells [iI ((between (((b.days.getD (d).toNat tDay.zero).rooms).getD (x0_10).toNat tCount.zero) (min all ((b.rooms.getD (x0_10).toNat tRoom.zero).full)) (hasN off x0_10)).lo), iI ((between (((b.days.getD (d).toNat tDay.zero).rooms).getD (x0_10).toNat tCount.zero) (min all ((b.rooms.getD (x0_10).toNat tRoom.zero).full)) (hasN off x0_10)).hi)], .rows 4 1 (((3601 : Int)).toNat) (rowsOf tbool a2_2), .rows 3 1 a2_3.length (rowsRev tint a2_3)], []⟩)
noncomputable def n93 : R93 → Exit × St
  | .r0 r0 => (.ret, ⟨mk 88 [(8, tint.lst r0)], [], []⟩)
noncomputable def v93 : R93 → V
  | .r0 r0 => tint.lst r0
theorem s93 (b : Book) (d : Int) (all : Int) (off : List Int) : Sm 0 (g93 b d all off) (T93 b d all off) (n93)
  | .e => ⟨400, by kernel_rfl⟩
  | .l0 _ _ => ⟨400, by kernel_rfl⟩
  | .l1 _ _ _ _ _ => ⟨400, by kernel_rfl⟩
  | .l2 _ _ _ _ _ _ => ⟨400, by kernel_rfl⟩
theorem q93 : ∀ r, bodyQ Tryz.prog Tryz.f93 (· = v93 r) (n93 r).1 (n93 r).2
  | .r0 r0 => bq (tint.lst r0) (by kernel_rfl)
theorem w93 (b : Book) (d : Int) (all : Int) (off : List Int) {post : V → Prop} (h : WQ (T93 b d all off) v93 post .e) : PC 93 [.agg (cC b), iI d, iI all, tint.lst off] post :=
  PCalls.wq Tryz.func93 (s93 b d all off) q93 h
theorem w93_2 (b : Book) (d all : Int) (off : List Int) (D : Day) (hD : b.days.getD d.toNat zDay = D) (O : List Int) (i k : Nat) (hi : i < b.rooms.length) (hk : k < O.length) (S : Span) (hS : spanAt b D all off i = S) (hs : 0 ≤ S.lo ∧ S.hi ≤ 60)
    (hm : 0 ≤ (b.rooms.getD i zRoom).more ∧ (b.rooms.getD i zRoom).more ≤ 20) (hp : 0 ≤ O.getD k 0 ∧ O.getD k 0 ≤ 2400) (N : List Int) (hN : N.length ≤ 20000000) (j : Nat) (hj : j < (S.hi + 1 - S.lo).toNat) :
    WP Tryz.prog ⟨none, 0⟩ (T93 b d all off) (fun y => y = .inl (.l2 O (i : Int) (k : Int) (S.lo + (j : Int) + 1) (marks (addNew N (O.getD k 0 + (S.lo + (j : Int)) * (b.rooms.getD i zRoom).more))) (addNew N (O.getD k 0 + (S.lo + (j : Int)) * (b.rooms.getD i zRoom).more)).reverse)) (.l2 O (i : Int) (k : Int) (S.lo + (j : Int)) (marks N) N.reverse) := by
  have hle : S.lo + (j : Int) ≤ S.hi := by omega
  have hspe : between (D.rooms.getD i zCount) (min all (b.rooms.getD i zRoom).full) (hasN off (i : Int)) = S := hS
  have hk1 : (k : Int) < O.length := by omega
  have hi1 : (i : Int) < b.rooms.length := by omega
  generalize hn : S.lo + (j : Int) = n at *
  generalize hme : (b.rooms.getD i zRoom).more = more at *
  have hn60 : 0 ≤ n ∧ n ≤ 60 := by omega
  have q1 : 0 ≤ n * more := Int.mul_nonneg (by omega) hm.1
  have q2 := Int.mul_le_mul hn60.2 hm.2 hm.1 (by omega : (0 : Int) ≤ 60)
  have r1 : inR .i64 (n * more) = true := inR64 (by omega) (by omega)
  have r2 : inR .i64 (O.getD k 0 + n * more) = true := inR64 (by omega) (by omega)
  have r3 : inR .i64 (n + 1) = true := inR64 (by omega) (by omega)
  have hx : 0 ≤ O.getD k 0 + n * more ∧ O.getD k 0 + n * more < 3601 := by omega
  generalize hP : O.getD k 0 = P at *
  generalize hX : P + n * more = X at *
  have hg := marks_get (l := N) hx
  have hms := marks_set (l := N) hx
  have hml : ((3601 : Int)).toNat = (marks N).length := by simp [marks]
  have hx1 : X < ((((3601 : Int)).toNat : Nat) : Int) := by omega
  have hx2 : X.toNat < ((3601 : Int)).toNat := by omega
  have hNl : N.reverse.length + 1 ≤ 4294967296 := by rw [List.length_reverse]; omega
  by_cases hh : hasN N X = true
  · have e : addNew N X = N := by unfold addNew; rw [if_pos hh]
    rw [e]
    rw [hh] at hg
    refine WP.once ?_
    simp only [T93, Tr.sure, SS, hk1, hi1, hD, z8, z5, z2, z1, z9, hspe, hle, hme, hP, hX, hg, hx]
    repeat' with_reducible first | intro _ | apply And.intro
    all_goals first | (simp [r1, r2, r3, hx1, hx2, hx, Go, Ends', v93, -List.getD_eq_getElem?_getD, *]; done) | (simp_all [r1, r2, r3, hx1, hx2, hx, Go, Ends', v93, -List.getD_eq_getElem?_getD]; done)
  · have e : addNew N X = N ++ [X] := by unfold addNew; rw [if_neg hh]
    rw [e, ← hms, List.reverse_append]
    rw [Bool.eq_false_iff.2 hh] at hg
    refine WP.once ?_
    simp only [T93, Tr.sure, SS, hk1, hi1, hD, z8, z5, z2, z1, z9, hspe, hle, hme, hP, hX, hg, hx]
    repeat' with_reducible first | intro _ | apply And.intro
    all_goals first | exact (by with_reducible exact tel_setB _ _ hml _ _ ‹_› ‹_›) | exact (by with_reducible exact underB) | (simp [r1, r2, r3, hx1, hx2, hx, hNl, Go, Ends', v93, -List.getD_eq_getElem?_getD, *]; done) | (simp_all [r1, r2, r3, hx1, hx2, hx, hNl, Go, Ends', v93, -List.getD_eq_getElem?_getD]; done)
theorem c93 (b : Book) (d all : Int) (off : List Int) (h : OkBook b) (hd : 0 ≤ d ∧ d < b.days.length) (ha : 0 ≤ all ∧ all ≤ 60) : PC 93 [.agg (tBook.cells b), iI d, iI all, tint.lst off] (· = tint.lst (extrasR b d all off)) := by
  have hday := h.day _ (getD_mem zDay b.days d.toNat (by omega))
  have h3 := h.nr
  have hmany := hday.many
  unfold extrasR dayOf
  refine w93 b d all off (WP.step ?_)
  simp only [T93, Go, Ends', v93, Tr.sure, SS]
  repeat' with_reducible first | intro _ | apply And.intro
  all_goals first | exact (by with_reducible exact rev_1int _) | (simp [Go, Ends', v93, -List.getD_eq_getElem?_getD, *]; done) | skip
  generalize hD : b.days.getD d.toNat zDay = D at *
  refine WP.run (fun i => .l0 (extN b D all off i) i) rfl b.rooms.length (fun i hi => ?_) ?_
  · have hr : inR .i64 ((i : Int) + 1) = true := inR64 (by omega) (by omega)
    have hsm := ext_small h hday all off (i := i) (by omega)
    obtain ⟨-, hval⟩ := extN_in h hday all off i (by omega)
    have hrm := hday.room _ (getD_mem zCount D.rooms i (by omega))
    have hmore := (h.room _ (getD_mem zRoom b.rooms i hi)).1
    have k71 := c71 (D.rooms.getD i zCount) (min all (b.rooms.getD i zRoom).full) (hasN off (i : Int)) hrm
    have hi1 : (i : Int) < b.rooms.length := by omega
    have hi2 : (i : Int) < D.rooms.length := by omega
    have hsp := spanAt_in h hday all off hi
    have hspe : between (D.rooms.getD i zCount) (min all (b.rooms.getD i zRoom).full) (hasN off (i : Int)) = spanAt b D all off i := rfl
    have hnext : extN b D all off (i + 1) = addAll [] ((extN b D all off i).flatMap (candL (b.rooms.getD i zRoom).more (spanAt b D all off i))) := rfl
    rw [hnext]
    have n1 : (3601 : Int) ≤ 4294967296 := by decide
    have n2 : (0 : Int) ≤ 3601 := by decide
    have hcl := fun p => candL_len (more := (b.rooms.getD i zRoom).more) (p := p) (s := spanAt b D all off i) ⟨hsp.1, hsp.2.2⟩
    generalize hO : extN b D all off i = O at *
    have hmain : WP Tryz.prog ⟨none, 0⟩ (T93 b d all off) (fun y => y = .inl (.l0 (addAll [] (O.flatMap (candL (b.rooms.getD i zRoom).more (spanAt b D all off i)))) ((i + 1 : Nat) : Int))) (.l1 O (i : Int) 0 (List.replicate ((3601 : Int)).toNat false) []) := by
      rw [marks_nil]
      refine WP.run (fun k => .l1 O (i : Int) (k : Int) (marks (addAll [] ((O.take k).flatMap (candL (b.rooms.getD i zRoom).more (spanAt b D all off i))))) (addAll [] ((O.take k).flatMap (candL (b.rooms.getD i zRoom).more (spanAt b D all off i)))).reverse) (by simp [addAll]) O.length (fun k hk => ?_) ?_
      · have hr' : inR .i64 ((k : Int) + 1) = true := inR64 (by omega) (by omega)
        rw [flat_snoc (candL (b.rooms.getD i zRoom).more (spanAt b D all off i)) 0 O k hk, addAll_append]
        have hNl := addAll_len ((O.take k).flatMap (candL (b.rooms.getD i zRoom).more (spanAt b D all off i))) []
        have hal := flat_le (l := O.take k) (f := candL (b.rooms.getD i zRoom).more (spanAt b D all off i)) (b := 61) fun x _ => hcl x
        rw [List.length_take] at hal
        simp only [List.length_nil] at hNl
        generalize addAll [] ((O.take k).flatMap (candL (b.rooms.getD i zRoom).more (spanAt b D all off i))) = N at *
        have hN : N.length ≤ 14000000 := by omega
        have hk1 : (k : Int) < O.length := by omega
        have hp := hval _ (getD_mem 0 O k hk)
        have hp2 : 0 ≤ O.getD k 0 ∧ O.getD k 0 ≤ 2400 := by omega
        have hcast : ((k + 1 : Nat) : Int) = (k : Int) + 1 := by omega
        rw [hcast]
        have hinner : WP Tryz.prog ⟨none, 0⟩ (T93 b d all off) (fun y => y = .inl (.l1 O (i : Int) ((k : Int) + 1) (marks (addAll N (candL (b.rooms.getD i zRoom).more (spanAt b D all off i) (O.getD k 0)))) (addAll N (candL (b.rooms.getD i zRoom).more (spanAt b D all off i) (O.getD k 0))).reverse)) (.l2 O (i : Int) (k : Int) (spanAt b D all off i).lo (marks N) N.reverse) := by
          generalize hS : spanAt b D all off i = S at *
          refine WP.run (fun j => .l2 O (i : Int) (k : Int) (S.lo + (j : Int)) (marks (addAll N ((candL (b.rooms.getD i zRoom).more S (O.getD k 0)).take j))) (addAll N ((candL (b.rooms.getD i zRoom).more S (O.getD k 0)).take j)).reverse) (by simp [addAll]) (S.hi + 1 - S.lo).toNat (fun j hj => ?_) ?_
          · have hcl2 : j < (candL (b.rooms.getD i zRoom).more S (O.getD k 0)).length := by simp only [candL, List.length_map, rangeI_len]; exact hj
            have hcg : (candL (b.rooms.getD i zRoom).more S (O.getD k 0)).getD j 0 = O.getD k 0 + (S.lo + (j : Int)) * (b.rooms.getD i zRoom).more := by
              have hj2 : j < (rangeI S.lo S.hi).length := by rw [rangeI_len]; exact hj
              have := rangeI_get hj2
              simp only [candL, List.getD_eq_getElem?_getD, List.getElem?_map, List.getElem?_eq_getElem hj2, Option.map_some, Option.getD_some] at this ⊢
              rw [this]
            have hfold : addAll N ((candL (b.rooms.getD i zRoom).more S (O.getD k 0)).take (j + 1)) = addNew (addAll N ((candL (b.rooms.getD i zRoom).more S (O.getD k 0)).take j)) (O.getD k 0 + (S.lo + (j : Int)) * (b.rooms.getD i zRoom).more) := by
              rw [take_snoc 0 _ j hcl2, addAll_append, hcg]; rfl
            rw [hfold]
            have hl3 := addAll_len ((candL (b.rooms.getD i zRoom).more S (O.getD k 0)).take j) N
            have hl4 := hcl (O.getD k 0)
            rw [List.length_take] at hl3
            have hcast2 : S.lo + ((j + 1 : Nat) : Int) = S.lo + (j : Int) + 1 := by omega
            rw [hcast2]
            exact w93_2 b d all off D hD O i k hi hk S hS ⟨hsp.1, hsp.2.2⟩ hmore hp2 _ (by omega) j hj
          · have hno : ¬ S.lo + (((S.hi + 1 - S.lo).toNat : Nat) : Int) ≤ S.hi := by omega
            have htk : (candL (b.rooms.getD i zRoom).more S (O.getD k 0)).take (S.hi + 1 - S.lo).toNat = candL (b.rooms.getD i zRoom).more S (O.getD k 0) := List.take_of_length_le (by simp only [candL, List.length_map, rangeI_len]; omega)
            rw [htk]
            refine WP.once ?_
            simp only [T93, Tr.sure, SS, hk1, z8, z5, z2, hD, hspe, hno]
            repeat' with_reducible first | intro _ | apply And.intro
            all_goals simp [hr', Go, Ends', v93, -List.getD_eq_getElem?_getD, *]
        refine WP.step ?_
        simp only [T93, Go, Ends', v93, Tr.sure, SS, hk1, hD, z8, z5, z2, hspe]
        repeat' with_reducible first | intro _ | apply And.intro
        all_goals exact hinner
      · rw [List.take_length]
        have hcast : ((i + 1 : Nat) : Int) = (i : Int) + 1 := by omega
        rw [hcast]
        generalize addAll [] (O.flatMap (candL (b.rooms.getD i zRoom).more (spanAt b D all off i))) = N
        have hrr : N.reverse.reverse = N := List.reverse_reverse _
        have hrv := rev_int N.reverse
        rw [hrr] at hrv
        refine WP.once ?_
        simp only [T93, Tr.sure, SS, Int.lt_irrefl, hrr]
        repeat' with_reducible first | intro _ | apply And.intro
        all_goals first | exact (by with_reducible exact hrv) | (simp [hr, Go, Ends', v93, -List.getD_eq_getElem?_getD, *]; done)
    refine WP.step ?_
    simp only [T93, Go, Ends', v93, Tr.sure, SS, hi1, hd, z8, z5, z2, hD]
    repeat' with_reducible first | intro _ | apply And.intro
    all_goals first | exact (c92 _ _) | exact k71 | exact (by with_reducible exact tel_repB ‹_›) | exact hmain | (simp [hd, hi1, hi2, n1, n2, Go, Ends', v93, -List.getD_eq_getElem?_getD, *]; done)
  · refine WP.step ?_
    simp only [T93, Go, Ends', v93, Tr.sure, SS, Int.lt_irrefl]
    repeat' with_reducible first | intro _ | apply And.intro
end
noncomputable section
theorem doorO_in {b : Book} {d : Int} (hd : OkDay b (dayOf b d)) (off : List Int) : 0 ≤ (doorO b d off).lo ∧ (doorO b d off).lo ≤ 60 ∧ (doorO b d off).hi ≤ 60 := by
  have h1 := hd.door
  unfold doorO between
  split
  · simp only; omega
  · simp only; omega
inductive P47
  | e
  | l0 (x0_10 : Int)
  | l1 (x0_10 : Int) (x1_12 : Int)
inductive R47
  | r0 (r0 : Bool)
noncomputable def T47 (b : Book) (d : Int) (off : List Int) : P47 → Tr P47 R47
  | .e => let c2 := b.days.getD (d).toNat tDay.zero; let c1 := between (c2.door) 60 (hasN off (-1)); (.front [(2, 66, [.agg (cC b), iI d], iI (pupilsD b d))] [] (((decide ((2 : Int) ≠ 0) && inR .i64 (b.price.tdiv (2 : Int))) && true) && true) true (.front [(7, 92, [tint.lst off, iI (-1)], .bool (hasN off (-1))), (8, 71, [.agg [iI (c2.door.seen), iI (c2.door.miss)], iI 60, .bool (hasN off (-1))], .agg [iI (c1.lo), iI (c1.hi)])] [] (((decide (0 ≤ d) && decide (d < (b.days.length : Int))) && true) && true) true (.go (.l0 (max (c1.lo) (pupilsD b d))))))
  | .l0 x0_10 => (.br (decide (x0_10 ≤ (between ((b.days.getD (d).toNat tDay.zero).door) 60 (hasN off (-1))).hi)) (.call 93 [.agg (cC b), iI d, iI x0_10, tint.lst off] (tint.lst (extrasR b d x0_10 off)) true true (.br (decide ((((extrasR b d x0_10 off).length) : Int) > (0 : Int))) (.call 92 [tint.lst off, iI 3] (.bool (hasN off 3)) true true (.br (hasN off 3) (.out (.r0 true)) (.go (.l1 x0_10 0)))) (.lit false (.go (.l1 x0_10 0))))) (.out (.r0 false)))
  | .l1 x0_10 x1_12 => let c2 : Tr P47 R47 := .need (inR .i64 (x1_12 + (1 : Int))) (.go (.l1 x0_10 (x1_12 + (1 : Int)))); let c3 := b.price.tdiv (2 : Int); let c4 := x0_10 - (pupilsD b d); let c5 := (b.days.getD (d).toNat tDay.zero).taken - (feesD b d); let c1 := (c5 - ((extrasR b d x0_10 off).getD (x1_12).toNat tint.zero)) - (c3 * c4); let c6 := x1_12 < (((extrasR b d x0_10 off).length) : Int); (.br (decide c6) (.front [(8, 44, [.agg (cC b), iI d], iI (feesD b d))] [] (((decide (0 ≤ d) && decide (d < (b.days.length : Int))) && ((inR .i64 c5) && ((decide (0 ≤ x1_12) && decide c6) && ((inR .i64 (c5 - ((extrasR b d x0_10 off).getD (x1_12).toNat tint.zero))) && ((inR .i64 c4) && ((inR .i64 (c3 * c4)) && ((inR .i64 c1) && true))))))) && true) true (.br (decide (c1 ≥ (0 : Int))) (.need (decide (c3 ≠ 0)) (.br ((c1.tmod c3) == (0 : Int)) (.need (decide (c3 ≠ 0) && inR .i64 (c1.tdiv c3)) (.need (inR .i64 c4) (.br (decide ((c1.tdiv c3) ≤ c4)) (.out (.r0 true)) c2))) (.lit false c2))) (.lit false (.lit false c2)))) (.need (inR .i64 (x0_10 + (1 : Int))) (.go (.l0 (x0_10 + (1 : Int))))))
noncomputable def g47 (b : Book) (d : Int) (off : List Int) : P47 → List Item × St
  | .e => bd Tryz.f47 [.agg (cC b), iI d, tint.lst off] 92
  | .l0 x0_10 => (cutOf Tryz.f47 0, ⟨mk 95 [(1, iI d), (2, tint.lst off), (3, .ref 0 0 0), (7, iI (pupilsD b d)), (8, iI (b.price.tdiv (2 : Int))), (9, .ref 1 0 0), (10, iI x0_10)], [.cells (cC b), .cells [iI ((between ((b.days.getD (d).toNat tDay.zero).door) 60 (hasN off (-1))).lo), iI ((between ((b.days.getD (d).toNat tDay.zero).door) 60 (hasN off (-1))).hi)]], []⟩)
  | .l1 x0_10 x1_12 => (cutOf Tryz.f47 1, ⟨mk 95 [(1, iI d), (2, tint.lst off), (3, .ref 0 0 0), (7, iI (pupilsD b d)), (8, iI (b.price.tdiv (2 : Int))), (9, .ref 1 0 0), (10, iI x0_10), (11, tint.lst (extrasR b d x0_10 off)), (12, iI x1_12)], [.cells (cC b), .cells [iI ((between ((b.days.getD (d).toNat tDay.zero).door) 60 (hasN off (-1))).lo), iI ((between ((b.days.getD (d).toNat tDay.zero).door) 60 (hasN off (-1))).hi)]], []⟩)
noncomputable def n47 : R47 → Exit × St
  | .r0 r0 => (.ret, ⟨mk 95 [(6, .bool r0)], [], []⟩)
noncomputable def v47 : R47 → V
  | .r0 r0 => .bool r0
theorem s47 (b : Book) (d : Int) (off : List Int) : Sm 0 (g47 b d off) (T47 b d off) (n47)
  | .e => ⟨400, by kernel_rfl⟩
  | .l0 _ => ⟨400, by kernel_rfl⟩
  | .l1 _ _ => ⟨400, by kernel_rfl⟩
theorem q47 : ∀ r, bodyQ Tryz.prog Tryz.f47 (· = v47 r) (n47 r).1 (n47 r).2
  | .r0 r0 => bq (.bool r0) (by kernel_rfl)
theorem w47 (b : Book) (d : Int) (off : List Int) {post : V → Prop} (h : WQ (T47 b d off) v47 post .e) : PC 47 [.agg (cC b), iI d, tint.lst off] post :=
  PCalls.wq Tryz.func47 (s47 b d off) q47 h
theorem c47 (b : Book) (d : Int) (off : List Int) (h : OkBook b) (hd : 0 ≤ d ∧ d < b.days.length) : PC 47 [.agg (tBook.cells b), iI d, tint.lst off] (· = .bool (explainsR b d off)) := by
  have hday : OkDay b (dayOf b d) := h.day _ (getD_mem zDay b.days d.toNat (by omega))
  have hp := half_in h
  have r0 : inR .i64 (b.price.tdiv 2) = true := inR64 (by omega) (by omega)
  have k66 := c66 b d h hd
  have k44 := c44 b d h hd
  have k71 := c71 (dayOf b d).door 60 (hasN off (-1)) hday.door
  have hpu := pupils_in hday
  have hfe := feesD_in h hday
  have hta := hday.taken
  have hdo := doorO_in hday off
  have e2 : between (dayOf b d).door 60 (hasN off (-1)) = doorO b d off := rfl
  have e3 : b.days.getD d.toNat zDay = dayOf b d := rfl
  have hne : b.price.tdiv 2 ≠ 0 := by omega
  have hmain : WP Tryz.prog ⟨none, 0⟩ (T47 b d off) (Ends' fun r => v47 r = .bool (explainsR b d off)) (.l0 (firstO b d off)) := by
    refine WP.findI (fun i => .l0 (firstO b d off + (i : Int))) (by simp) (rangeI (firstO b d off) (doorO b d off).hi) 0 (explAt b d off) (fun i hi => ?_) fun hI => ?_
    · rw [rangeI_get hi]
      rw [rangeI_len] at hi
      have hcast : firstO b d off + ((i + 1 : Nat) : Int) = firstO b d off + (i : Int) + 1 := by omega
      rw [hcast]
      have hn0 : pupilsD b d ≤ firstO b d off := by unfold firstO; omega
      have hex : firstI (explAt b d off) 0 (rangeI (firstO b d off) (doorO b d off).hi) = some i → explainsR b d off = true := fun q => any_of_firstI q
      generalize hn : firstO b d off + (i : Int) = n at *
      have hnle : n ≤ (doorO b d off).hi := by omega
      have hn60 : 0 ≤ n ∧ n ≤ 60 := by omega
      have hown : 0 ≤ n - pupilsD b d ∧ n - pupilsD b d ≤ 60 := by omega
      have k93 := c93 b d n off h hd hn60
      have hrn : inR .i64 (n + 1) = true := inR64 (by omega) (by omega)
      have hmul := half_mul h hown
      obtain ⟨hlen0, hval⟩ := extN_in h hday n off b.rooms.length (Nat.le_refl _)
      have hsm : (extrasR b d n off).length ≤ 226981 := ext_small h hday n off (Nat.le_refl _)
      have hval2 : ∀ x ∈ extrasR b d n off, 0 ≤ x ∧ x ≤ 3600 := fun x hx => by have := hval x hx; have := h.nr; omega
      have hxa : explAt b d off n = ((decide (0 < (extrasR b d n off).length) && hasN off 3) || (extrasR b d n off).any (payOk b d n)) := rfl
      have hsplit : (decide (0 < (extrasR b d n off).length) && hasN off 3) = false → (extrasR b d n off).any (payOk b d n) = false → explAt b d off n = false := fun q1 q2 => by rw [hxa, q1, q2]; rfl
      have hyes1 : 0 < (extrasR b d n off).length → hasN off 3 = true → explAt b d off n = true := fun q1 q2 => by rw [hxa, q2]; simp [q1]
      have hyes2 : (extrasR b d n off).any (payOk b d n) = true → explAt b d off n = true := fun q => by rw [hxa, q, Bool.or_true]
      have hpay : ∀ x, payOk b d n x = (decide (0 ≤ (dayOf b d).taken - feesD b d - x - b.price.tdiv 2 * (n - pupilsD b d)) && (decide (((dayOf b d).taken - feesD b d - x - b.price.tdiv 2 * (n - pupilsD b d)).tmod (b.price.tdiv 2) = 0) && decide (((dayOf b d).taken - feesD b d - x - b.price.tdiv 2 * (n - pupilsD b d)).tdiv (b.price.tdiv 2) ≤ n - pupilsD b d))) := fun _ => rfl
      generalize hE : extrasR b d n off = E at *
      have inner : (decide (0 < E.length) && hasN off 3) = false → WP Tryz.prog ⟨none, 0⟩ (T47 b d off) (fun x => (explAt b d off n = false ∧ x = .inl (.l0 (n + 1))) ∨ (explAt b d off n = true ∧ (firstI (explAt b d off) 0 (rangeI (firstO b d off) (doorO b d off).hi) = some i → Go Tryz.prog ⟨none, 0⟩ (T47 b d off) (Ends' fun r => v47 r = .bool (explainsR b d off)) x))) (.l1 n 0) := fun hno => by
        refine WP.findI (fun k => .l1 n (k : Int)) rfl E 0 (payOk b d n) (fun k hk => ?_) fun hK => ?_
        · have hk' : (k : Int) < E.length := by omega
          have hrk : inR .i64 ((k : Int) + 1) = true := inR64 (by omega) (by omega)
          have hx := hval2 _ (getD_mem 0 E k hk)
          have hany : firstI (payOk b d n) 0 E = some k → E.any (payOk b d n) = true := fun q => any_of_firstI q
          have hpx := hpay (E.getD k 0)
          generalize hX : E.getD k 0 = X at *
          have ra : inR .i64 ((dayOf b d).taken - feesD b d) = true := inR64 (by omega) (by omega)
          have rb : inR .i64 ((dayOf b d).taken - feesD b d - X) = true := inR64 (by omega) (by omega)
          have rc : inR .i64 (n - pupilsD b d) = true := inR64 (by omega) (by omega)
          have rd : inR .i64 (b.price.tdiv 2 * (n - pupilsD b d)) = true := inR64 (by omega) (by omega)
          have re : inR .i64 ((dayOf b d).taken - feesD b d - X - b.price.tdiv 2 * (n - pupilsD b d)) = true := inR64 (by omega) (by omega)
          have hlt : (dayOf b d).taken - feesD b d - X - b.price.tdiv 2 * (n - pupilsD b d) ≤ 10000 := by omega
          generalize hL : (dayOf b d).taken - feesD b d - X - b.price.tdiv 2 * (n - pupilsD b d) = L at *
          have hq : 0 ≤ L → 0 ≤ L.tdiv (b.price.tdiv 2) ∧ L.tdiv (b.price.tdiv 2) ≤ 10000 := fun h0 => by
            rw [Int.tdiv_eq_ediv_of_nonneg h0]
            exact ⟨Int.ediv_nonneg h0 (by omega), by have := Int.ediv_le_self (b.price.tdiv 2) h0; omega⟩
          have rf : 0 ≤ L → inR .i64 (L.tdiv (b.price.tdiv 2)) = true := fun h0 => inR64 (by have := hq h0; omega) (by have := hq h0; omega)
          by_cases a1 : 0 ≤ L
          · have rf' := rf a1
            by_cases a2 : L.tmod (b.price.tdiv 2) = 0
            · by_cases a3 : L.tdiv (b.price.tdiv 2) ≤ n - pupilsD b d
              · have hp1 : payOk b d n X = true := by rw [hpx]; simp [a1, a2, a3]
                refine WP.once ?_
                simp only [T47, Tr.sure, SS, hk', hE, z1, e3, hX, hL, hd, a1, a2, a3, z8]
                repeat' with_reducible first | intro _ | apply And.intro
                all_goals first | exact k44 | (simp [r0, ra, rb, rc, rd, re, rf', hne, Go, Ends', v47, -List.getD_eq_getElem?_getD, *]; done) | (simp_all [r0, ra, rb, rc, rd, re, rf', hne, Go, Ends', v47, -List.getD_eq_getElem?_getD]; done)
                all_goals exact .inr ⟨hp1, fun q => .inr ⟨hyes2 (hany q), fun q2 => by show _ = _; rw [hex q2]; rfl⟩⟩
              · have hp1 : payOk b d n X = false := by rw [hpx]; simp [a3]
                refine WP.once ?_
                simp only [T47, Tr.sure, SS, hk', hE, z1, e3, hX, hL, hd, a1, a2, a3, z8]
                repeat' with_reducible first | intro _ | apply And.intro
                all_goals first | exact k44 | (simp [r0, ra, rb, rc, rd, re, rf', hne, hrk, hp1, Go, Ends', v47, -List.getD_eq_getElem?_getD, *]; done)
            · have hp1 : payOk b d n X = false := by rw [hpx]; simp [a2]
              refine WP.once ?_
              simp only [T47, Tr.sure, SS, hk', hE, z1, e3, hX, hL, hd, a1, a2, z8]
              repeat' with_reducible first | intro _ | apply And.intro
              all_goals first | exact k44 | (simp [r0, ra, rb, rc, rd, re, rf', hne, hrk, hp1, Go, Ends', v47, -List.getD_eq_getElem?_getD, *]; done)
          · have hp1 : payOk b d n X = false := by rw [hpx]; simp [a1]
            refine WP.once ?_
            simp only [T47, Tr.sure, SS, hk', hE, z1, e3, hX, hL, hd, a1, z8]
            repeat' with_reducible first | intro _ | apply And.intro
            all_goals first | exact k44 | (simp [r0, ra, rb, rc, rd, re, hne, hrk, hp1, Go, Ends', v47, -List.getD_eq_getElem?_getD, *]; done)
        · have hn0 : E.any (payOk b d n) = false := by rw [← firstI_any _ _ 0, hK]; rfl
          have hxf := hsplit hno hn0
          refine WP.once ?_
          simp only [T47, Tr.sure, SS, Int.lt_irrefl, e3, hE]
          repeat' with_reducible first | intro _ | apply And.intro
          all_goals simp [hrn, hxf, Go, Ends', v47, -List.getD_eq_getElem?_getD, *]
      refine WP.step ?_
      simp only [T47, Go, Ends', v47, Tr.sure, SS, hnle, hE, e3, e2, z8]
      repeat' with_reducible first | intro _ | apply And.intro
      all_goals first | exact k93 | exact (c92 _ _) | (simp_all [hrn, Go, Ends', v47, -List.getD_eq_getElem?_getD]; done)
    · have hno : ¬ firstO b d off + ((rangeI (firstO b d off) (doorO b d off).hi).length : Int) ≤ (doorO b d off).hi := by rw [rangeI_len]; omega
      have hfalse : explainsR b d off = false := any_of_none hI
      refine WP.step ?_
      simp only [T47, Go, Ends', v47, Tr.sure, SS, e3, e2, z8, hno]
      repeat' with_reducible first | intro _ | apply And.intro
      all_goals simp [hfalse, Go, Ends', v47, -List.getD_eq_getElem?_getD, *]
  refine w47 b d off (WP.step ?_)
  simp only [T47, Go, Ends', v47, Tr.sure, SS, e2, e3, z8]
  repeat' with_reducible first | intro _ | apply And.intro
  all_goals first | exact k66 | exact (c92 _ _) | exact k71 | exact hmain | (simp [r0, hd, Go, Ends', v47, -List.getD_eq_getElem?_getD, *]; done)
end
noncomputable section
theorem tel_one (n : Int) {r j : Nat} (hr : r < 1) (hj : j < 1) : VLe (litC 1 1 [iI n] r j) (rowsRev tint [n] r j) := by
  obtain rfl : r = 0 := by omega
  obtain rfl : j = 0 := by omega
  exact VLe.refl _
inductive P48
  | e
  | l0 (x0_4 : Int) (a0_1 : List Int)
inductive R48
  | r0 (r0 : List Int)
noncomputable def T48 (b : Book) : P48 → Tr P48 R48
  | .e => (.wait 8 (.telb 1 1 1 (litC 1 1 [iI (-1)]) (rowsRev tint ([(-1)])) (.go (.l0 0 ([(-1)])))))
  | .l0 x0_4 a0_1 => let c1 := (decide (a0_1.length = a0_1.length) && decide (a0_1.length + 1 ≤ 4294967296)) && decide (1 ≤ 1); (.br (decide (x0_4 < (b.rooms.length : Int))) (.need c1 (.scal (fun _ => true) (.need (inR .i64 (x0_4 + (1 : Int))) (.telb 2 1 1 (litC 1 1 [iI x0_4]) (rowsRev tint ([x0_4])) (.go (.l0 (x0_4 + (1 : Int)) (x0_4 :: a0_1))))))) (.need c1 (.scal (fun _ => true) (.out (.r0 (3 :: a0_1))))))
noncomputable def g48 (b : Book) : P48 → List Item × St
  | .e => bd Tryz.f48 [.agg (cC b)] 19
  | .l0 x0_4 a0_1 => (cutOf Tryz.f48 0, ⟨mk 20 [(1, .ref 0 0 0), (3, .row 1 a0_1.length), (4, iI x0_4)], [.cells (cC b), .rows 3 1 a0_1.length (rowsRev tint a0_1)], []⟩)
noncomputable def n48 : R48 → Exit × St
  | .r0 r0 => (.ret, ⟨mk 20 [(2, .row 1 r0.length)], [.gone, .rows 3 1 r0.length (rowsRev tint r0)], []⟩)
noncomputable def v48 : R48 → V
  | .r0 r0 => tint.lst r0.reverse
theorem s48 (b : Book) : Sm 0 (g48 b) (T48 b) (n48)
  | .e => ⟨400, by kernel_rfl⟩
  | .l0 _ _ => ⟨400, by kernel_rfl⟩
theorem q48 : ∀ r, bodyQ Tryz.prog Tryz.f48 (· = v48 r) (n48 r).1 (n48 r).2
  | .r0 r0 => ⟨.inr rfl, by simp [n48], (.row 1 r0.length), (tint.lst r0.reverse), by kernel_rfl, (.weak (.row rfl (Nat.le_refl _)) (VLe.rev tint r0)), rfl⟩
theorem w48 (b : Book) {post : V → Prop} (h : WQ (T48 b) v48 post .e) : PC 48 [.agg (cC b)] post :=
  PCalls.wq Tryz.func48 (s48 b) q48 h
theorem c48 (b : Book) (h : OkBook b) : PC 48 [.agg (tBook.cells b)] (· = tint.lst (entriesR b)) := by
  have h3 := h.nr
  have hmain : WP Tryz.prog ⟨none, 0⟩ (T48 b) (Ends' fun r => v48 r = tint.lst (entriesR b)) (.l0 0 [-1]) := by
   refine WP.run (fun i => .l0 (i : Int) (((List.range i).map fun (k : Nat) => (k : Int)).reverse ++ [-1])) rfl b.rooms.length (fun i hi => ?_) ?_
   · have hr : inR .i64 ((i : Int) + 1) = true := inR64 (by omega) (by omega)
     have hi' : (i : Int) < b.rooms.length := by omega
     have hn : ((List.range (i + 1)).map fun (k : Nat) => (k : Int)).reverse ++ [-1] = (i : Int) :: (((List.range i).map fun (k : Nat) => (k : Int)).reverse ++ [-1]) := by simp [List.range_succ]
     rw [hn]
     have hl : (((List.range i).map fun (k : Nat) => (k : Int)).reverse ++ [-1] : List Int).length + 1 ≤ 4294967296 := by simp; omega
     generalize ((List.range i).map fun (k : Nat) => (k : Int)).reverse ++ [-1] = B at *
     refine WP.once ?_
     simp only [T48, Tr.sure, SS, hi']
     repeat' with_reducible first | intro _ | apply And.intro
     all_goals first | exact (by with_reducible exact tel_one _ ‹_› ‹_›) | (simp [hr, hl, Go, Ends', v48, -List.getD_eq_getElem?_getD, *]; done)
   · have hl : (((List.range b.rooms.length).map fun (k : Nat) => (k : Int)).reverse ++ [-1] : List Int).length + 1 ≤ 4294967296 := by simp; omega
     have he : (3 :: (((List.range b.rooms.length).map fun (k : Nat) => (k : Int)).reverse ++ [-1] : List Int)).reverse = entriesR b := by simp [entriesR]
     generalize ((List.range b.rooms.length).map fun (k : Nat) => (k : Int)).reverse ++ [-1] = B at *
     refine WP.step ?_
     simp only [T48, Go, Ends', v48, Tr.sure, SS, Int.lt_irrefl]
     repeat' with_reducible first | intro _ | apply And.intro
     all_goals simp [hl, he, Go, Ends', v48, -List.getD_eq_getElem?_getD, *]
  refine w48 b (WP.step ?_)
  simp only [T48, Go, Ends', v48, Tr.sure, SS]
  repeat' with_reducible first | intro _ | apply And.intro
  all_goals first | exact (by with_reducible exact tel_one _ ‹_› ‹_›) | exact hmain
end
noncomputable section
theorem first_how (b : Book) (d : Int) : (∃ f, firstT b d = (zTruth, 0, f) ∧ f ≠ 0 ∧ (askedR b d = 0 → f = 8 ∧ (agreeD b d).length = 0)) ∨ (askedR b d = 0 ∧ 0 < (agreeD b d).length ∧ firstT b d = (bestD (agreeD b d), ((agreeD b d).length : Int), 0)) := by
  by_cases ha : askedR b d = 0
  · by_cases hz : (agreeD b d).length = 0
    · have hx : explainedR b d (askedR b d) = ([], 8) := by unfold explainedR; rw [if_neg (fun q => q ha), if_pos hz]
      left
      refine ⟨8, ?_, by decide, fun _ => ⟨rfl, hz⟩⟩
      unfold firstT; rw [hx]; rfl
    · have hx : explainedR b d (askedR b d) = (agreeD b d, 0) := by unfold explainedR; rw [if_neg (fun q => q ha), if_neg hz]
      right
      refine ⟨ha, by omega, ?_⟩
      unfold firstT; rw [hx]; rfl
  · have hx : explainedR b d (askedR b d) = ([], askedR b d) := by unfold explainedR; rw [if_pos ha]
    left
    refine ⟨askedR b d, ?_, ha, fun h => absurd h ha⟩
    unfold firstT; rw [hx, if_pos ha]; rfl
end
noncomputable section
def validR (b : Book) : Bool := (bookCheck b).2.2 == 0
inductive P36
  | e
inductive R36
  | r0 (r0 : Bool)
noncomputable def T36 (b : Book) : P36 → Tr P36 R36
  | .e => let c1 := bookCheck b; (.call 14 [.agg (cC b)] (.tuple [iI (c1.1), iI (c1.2.1), iI (c1.2.2)]) true true (.out (.r0 (c1.2.2 == (0 : Int)))))
noncomputable def g36 (b : Book) : P36 → List Item × St
  | .e => bd Tryz.f36 [.agg (cC b)] 13
noncomputable def n36 : R36 → Exit × St
  | .r0 r0 => (.ret, ⟨mk 14 [(2, .bool r0)], [], []⟩)
noncomputable def v36 : R36 → V
  | .r0 r0 => .bool r0
theorem s36 (b : Book) : Sm 0 (g36 b) (T36 b) (n36)
  | .e => ⟨400, by kernel_rfl⟩
theorem q36 : ∀ r, bodyQ Tryz.prog Tryz.f36 (· = v36 r) (n36 r).1 (n36 r).2
  | .r0 r0 => bq (.bool r0) (by kernel_rfl)
theorem w36 (b : Book) {post : V → Prop} (h : WQ (T36 b) v36 post .e) : PC 36 [.agg (cC b)] post :=
  PCalls.wq Tryz.func36 (s36 b) q36 h
theorem c36 (b : Book) : PC 36 [.agg (tBook.cells b)] (· = .bool (validR b)) := by
  refine w36 b (WP.step ?_)
  simp only [T36, Go, Ends', v36, Tr.sure, SS]
  repeat' with_reducible first | intro _ | apply And.intro
  all_goals first | exact (c14 b) | (simp [validR, Go, Ends', v36, -List.getD_eq_getElem?_getD, *]; done)
def ofDay (d : Int) (l : List Entry) : List Int := (l.filter fun e => e.day == d).map fun e => e.of
inductive P40
  | e
  | l0 (x0_6 : Int) (a0_0 : List Int)
inductive R40
  | r0 (r0 : List Int)
noncomputable def T40 (l : List Entry) (d : Int) : P40 → Tr P40 R40
  | .e => (.wait 4 (.own 5 3 1 (.go (.l0 0 ([])))))
  | .l0 x0_6 a0_0 => let c1 := decide (0 ≤ x0_6) && decide (x0_6 < (l.length : Int)); let c2 := x0_6 + (1 : Int); let c3 := l.getD (x0_6).toNat tEntry.zero; (.br (decide (x0_6 < (l.length : Int))) (.need c1 (.br (c3.day == d) (.need c1 (.need ((decide (a0_0.length = a0_0.length) && decide (a0_0.length + 1 ≤ 4294967296)) && decide (1 ≤ 1)) (.scal (fun _ => true) (.need (inR .i64 c2) (.go (.l0 c2 (c3.of :: a0_0))))))) (.need (inR .i64 c2) (.go (.l0 c2 a0_0))))) (.out (.r0 a0_0)))
noncomputable def g40 (l : List Entry) (d : Int) : P40 → List Item × St
  | .e => bd Tryz.f40 [tEntry.lst l, iI d] 27
  | .l0 x0_6 a0_0 => (cutOf Tryz.f40 0, ⟨mk 29 [(0, tEntry.lst l), (1, iI d), (5, .row 0 a0_0.length), (6, iI x0_6)], [.rows 3 1 a0_0.length (rowsRev tint a0_0)], []⟩)
noncomputable def n40 : R40 → Exit × St
  | .r0 r0 => (.ret, ⟨mk 29 [(4, .row 0 r0.length)], [.rows 3 1 r0.length (rowsRev tint r0)], []⟩)
noncomputable def v40 : R40 → V
  | .r0 r0 => tint.lst r0.reverse
theorem s40 (l : List Entry) (d : Int) : Sm 0 (g40 l d) (T40 l d) (n40)
  | .e => ⟨400, by kernel_rfl⟩
  | .l0 _ _ => ⟨400, by kernel_rfl⟩
theorem q40 : ∀ r, bodyQ Tryz.prog Tryz.f40 (· = v40 r) (n40 r).1 (n40 r).2
  | .r0 r0 => ⟨.inr rfl, by simp [n40], (.row 0 r0.length), (tint.lst r0.reverse), by kernel_rfl, (.weak (.row rfl (Nat.le_refl _)) (VLe.rev tint r0)), rfl⟩
theorem w40 (l : List Entry) (d : Int) {post : V → Prop} (h : WQ (T40 l d) v40 post .e) : PC 40 [tEntry.lst l, iI d] post :=
  PCalls.wq Tryz.func40 (s40 l d) q40 h
theorem ofDay_next (d : Int) (l : List Entry) {i : Nat} (hi : i < l.length) : (ofDay d (l.take (i + 1))).reverse = if (l.getD i zEntry).day == d then (l.getD i zEntry).of :: (ofDay d (l.take i)).reverse else (ofDay d (l.take i)).reverse := by
  unfold ofDay
  rw [take_snoc zEntry l i hi, List.filter_append, List.map_append, List.reverse_append]
  cases h : (l.getD i zEntry).day == d
  · simp only [List.filter, h]; rfl
  · simp only [List.filter, h]; rfl
theorem c40 (l : List Entry) (d : Int) (hm : l.length ≤ 1000000) : PC 40 [tEntry.lst l, iI d] (· = tint.lst (ofDay d l)) := by
  refine w40 l d (WP.step ?_)
  simp only [T40, Go, Ends', v40, Tr.sure, SS]
  repeat' with_reducible first | intro _ | apply And.intro
  refine WP.run (fun i => .l0 (i : Int) (ofDay d (l.take i)).reverse) rfl l.length (fun i hi => ?_) ?_
  · have hr : inR .i64 ((i : Int) + 1) = true := inR64 (by omega) (by omega)
    have hi' : (i : Int) < l.length := by omega
    have hn := ofDay_next d l hi
    have hle : (ofDay d (l.take i)).reverse.length + 1 ≤ 4294967296 := by
      have h1 := List.length_filter_le (fun e : Entry => e.day == d) (l.take i)
      rw [List.length_reverse]; unfold ofDay; rw [List.length_map]; rw [List.length_take] at h1; omega
    generalize (ofDay d (l.take (i + 1))).reverse = B at *
    generalize (ofDay d (l.take i)).reverse = A at *
    generalize hx : l.getD i zEntry = x at *
    refine WP.once ?_
    simp only [T40, Tr.sure, SS, hi', hi, hx, z11]
    repeat' with_reducible first | intro _ | apply And.intro
    all_goals simp [hr, hle, hn, Go, Ends', v40, -List.getD_eq_getElem?_getD, *]
  · rw [List.take_length]
    refine WP.step ?_
    simp only [T40, Go, Ends', v40, Tr.sure, SS, Int.lt_irrefl]
    repeat' with_reducible first | intro _ | apply And.intro
    all_goals simp [Go, Ends', v40, -List.getD_eq_getElem?_getD, *]
end
noncomputable section
theorem getD_app_left (p : List Int) (n : Int) {k : Nat} (h : k < p.length) : (p ++ [n]).getD k 0 = p.getD k 0 := by
  rw [List.getD_eq_getElem?_getD, List.getElem?_append_left h, List.getD_eq_getElem?_getD]
theorem getD_app_last (p : List Int) (n : Int) : (p ++ [n]).getD p.length 0 = n := by
  rw [List.getD_eq_getElem?_getD, List.getElem?_append_right (Nat.le_refl _), Nat.sub_self]; rfl
theorem mem_roomsN {b : Book} {D : Day} {all : Int} {off : List Int} : ∀ (i : Nat) (l : List Int), l ∈ roomsN b D all off i ↔ l.length = i ∧ ∀ k, k < i → (spanAt b D all off k).lo ≤ l.getD k 0 ∧ l.getD k 0 ≤ (spanAt b D all off k).hi
  | 0, l => by
    simp only [roomsN, List.mem_singleton]
    constructor
    · rintro rfl; exact ⟨rfl, fun k hk => absurd hk (Nat.not_lt_zero _)⟩
    · exact fun h => List.length_eq_zero_iff.1 h.1
  | i + 1, l => by
    simp only [roomsN, List.mem_flatMap, growL, List.mem_map, mem_rangeI]
    constructor
    · rintro ⟨p, hp, n, hn, rfl⟩
      obtain ⟨h1, h2⟩ := (mem_roomsN i p).1 hp
      refine ⟨by simp [h1], fun k hk => ?_⟩
      rcases Nat.lt_or_ge k i with q | q
      · rw [getD_app_left p n (by omega)]; exact h2 k q
      · obtain rfl : k = p.length := by omega
        rw [getD_app_last, h1]; exact hn
    · rintro ⟨h1, h2⟩
      refine ⟨l.take i, (mem_roomsN i _).2 ⟨by rw [List.length_take]; omega, fun k hk => ?_⟩, l.getD i 0, h2 i (by omega), ?_⟩
      · have := h2 k (by omega)
        rw [List.getD_eq_getElem?_getD, List.getElem?_take_of_lt hk, ← List.getD_eq_getElem?_getD]; exact this
      · rw [← take_snoc 0 l i (by omega), List.take_of_length_le (by omega)]
theorem extra_app (b : Book) (p : List Int) (n : Int) : ∀ i, i ≤ p.length → extraTo b (p ++ [n]) i = extraTo b p i
  | 0, _ => rfl
  | i + 1, h => by rw [extra_next, extra_next, extra_app b p n i (by omega), getD_app_left p n (by omega)]
theorem mem_extN {b : Book} {D : Day} {all : Int} {off : List Int} : ∀ (i : Nat) (v : Int), v ∈ extN b D all off i ↔ ∃ l ∈ roomsN b D all off i, extraTo b l i = v
  | 0, v => by
    simp only [extN, roomsN, List.mem_singleton]
    constructor
    · rintro rfl; exact ⟨[], rfl, rfl⟩
    · rintro ⟨l, rfl, rfl⟩; rfl
  | i + 1, v => by
    rw [extN, mem_addAll]
    simp only [List.not_mem_nil, false_or, List.mem_flatMap, candL, List.mem_map, mem_rangeI]
    constructor
    · rintro ⟨x, hx, n, hn, rfl⟩
      obtain ⟨p, hp, rfl⟩ := (mem_extN i x).1 hx
      have hl := ((mem_roomsN i p).1 hp).1
      refine ⟨p ++ [n], ?_, ?_⟩
      · simp only [roomsN, List.mem_flatMap, growL, List.mem_map, mem_rangeI]
        exact ⟨p, hp, n, hn, rfl⟩
      · rw [extra_next, extra_app b p n i (by omega)]
        subst hl
        rw [getD_app_last]
    · rintro ⟨l, hl, rfl⟩
      simp only [roomsN, List.mem_flatMap, growL, List.mem_map, mem_rangeI] at hl
      obtain ⟨p, hp, n, hn, rfl⟩ := hl
      have hl := ((mem_roomsN i p).1 hp).1
      refine ⟨extraTo b p i, (mem_extN i _).2 ⟨p, hp, rfl⟩, n, hn, ?_⟩
      rw [extra_next, extra_app b p n i (by omega)]
      subst hl
      rw [getD_app_last]
theorem mem_extras {b : Book} {d all : Int} {off : List Int} {v : Int} : v ∈ extrasR b d all off ↔ ∃ l ∈ inRoomsR b d all off, extraR b l = v := by
  unfold extrasR inRoomsR
  rw [mem_extN]
  constructor
  · rintro ⟨l, hl, e⟩
    refine ⟨l, hl, ?_⟩
    unfold extraR; rw [((mem_roomsN _ _).1 hl).1]; exact e
  · rintro ⟨l, hl, e⟩
    refine ⟨l, hl, ?_⟩
    unfold extraR at e; rw [((mem_roomsN _ _).1 hl).1] at e; exact e
theorem mem_agree {b : Book} {d : Int} {t : Truth} : t ∈ agreeD b d ↔ ∃ n, (firstN b d ≤ n ∧ n ≤ (doorS b d).hi) ∧ ∃ l ∈ inRoomsR b d n [], t ∈ agreeAt b d n l := by
  simp only [agreeD, agreeN, List.mem_flatMap, mem_rangeI]
theorem pay_at {b : Book} {d n : Int} {l : List Int} : payOk b d n (extraR b l) = true ↔ ∃ t, t ∈ agreeAt b d n l := by
  unfold agreeAt
  have e : payOk b d n (extraR b l) = true ↔ (0 ≤ leftR b d n l ∧ (leftR b d n l).tmod (b.price.tdiv 2) = 0 ∧ (leftR b d n l).tdiv (b.price.tdiv 2) ≤ n - pupilsD b d) := by
    unfold payOk leftR
    simp only [Bool.and_eq_true, decide_eq_true_eq]
  rw [e]
  constructor
  · intro h; rw [if_pos h]; exact ⟨_, List.mem_cons_self⟩
  · rintro ⟨t, ht⟩
    split at ht
    · rename_i h; exact h
    · exact absurd ht List.not_mem_nil
theorem explains_nil {b : Book} {d : Int} : explainsR b d [] = true ↔ 0 < (agreeD b d).length := by
  have e : explainsR b d [] = true ↔ ∃ t, t ∈ agreeD b d := by
    unfold explainsR
    rw [List.any_eq_true]
    constructor
    · rintro ⟨n, hn, h⟩
      rw [mem_rangeI] at hn
      unfold explAt at h
      have h0 : hasN [] 3 = false := rfl
      rw [h0, Bool.and_false, Bool.false_or, List.any_eq_true] at h
      obtain ⟨v, hv, hp⟩ := h
      obtain ⟨l, hl, rfl⟩ := mem_extras.1 hv
      obtain ⟨t, ht⟩ := pay_at.1 hp
      exact ⟨t, mem_agree.2 ⟨n, hn, l, hl, ht⟩⟩
    · rintro ⟨t, ht⟩
      obtain ⟨n, hn, l, hl, ht⟩ := mem_agree.1 ht
      refine ⟨n, mem_rangeI.2 hn, ?_⟩
      unfold explAt
      rw [Bool.or_eq_true]
      exact .inr (List.any_eq_true.2 ⟨_, mem_extras.2 ⟨l, hl, rfl⟩, pay_at.2 ⟨t, ht⟩⟩)
  rw [e]
  constructor
  · rintro ⟨t, ht⟩; exact List.length_pos_of_mem ht
  · exact fun h => ⟨_, List.getElem_mem h⟩
theorem valid_ok {b : Book} (h : validR b = true) : OkBook b := okBook (by simpa [validR] using h)
theorem asked_in {b : Book} (h : validR b = true) {d : Int} (hd : 0 ≤ d ∧ d < b.days.length) : askedR b d = 0 := by
  have h0 : (bookCheck b).2.2 = 0 := by simpa [validR] using h
  unfold askedR
  rw [if_neg (by rw [h0]; simp), if_pos]
  unfold within
  simp only [Bool.and_eq_true, decide_eq_true_eq]; omega
theorem which_in {w : Int} (hw : 0 ≤ w) {n : Nat} (h : 0 < n) : 0 ≤ w.tmod (n : Int) ∧ w.tmod (n : Int) < (n : Int) := by
  rw [Int.tmod_eq_emod_of_nonneg hw]
  exact ⟨Int.emod_nonneg _ (by omega), Int.emod_lt_of_pos _ (by omega)⟩
end
noncomputable section
theorem first_err {b : Book} {d : Int} (ha : askedR b d = 0) : ((firstT b d).2.2 = 0 ∧ explainsR b d [] = true ∧ firstT b d = (bestD (agreeD b d), ((agreeD b d).length : Int), 0) ∧ 0 < (agreeD b d).length) ∨ ((firstT b d).2.2 = 8 ∧ explainsR b d [] = false ∧ firstT b d = (zTruth, 0, 8) ∧ (agreeD b d).length = 0) := by
  rcases first_how b d with ⟨f, h1, h2, h3⟩ | ⟨_, h0, h1⟩
  · obtain ⟨rfl, h4⟩ := h3 ha
    refine .inr ⟨by rw [h1], ?_, h1, h4⟩
    cases hx : explainsR b d [] with
    | false => rfl
    | true => have := explains_nil.1 hx; omega
  · exact .inl ⟨by rw [h1], explains_nil.2 h0, h1, h0⟩
end
noncomputable section
structure Asc (b : Book) (l : List Entry) : Prop where
  day : ∀ i : Nat, i < l.length → 0 ≤ (l.getD i zEntry).day ∧ (l.getD i zEntry).day < b.days.length
  of : ∀ i : Nat, i < l.length → hasN (entriesR b) (l.getD i zEntry).of = true
  less : ∀ i : Nat, i + 1 < l.length → less [(l.getD i zEntry).day, (l.getD i zEntry).of] [(l.getD (i + 1) zEntry).day, (l.getD (i + 1) zEntry).of] = true
theorem c41l (a b c d : Int) : PC 41 [.list 1 2 (litC 1 2 [iI a, iI b]), .list 1 2 (litC 1 2 [iI c, iI d])] (· = .bool (less [a, b] [c, d])) := by
  have h1 := PCalls.arg (pre := []) (c41 [a, b] [c, d]) (VLe.lit tint [a, b] rfl rfl (fun _ => rfl) : VLe (.list 1 2 (litC 1 2 [iI a, iI b])) _)
  exact PCalls.arg (pre := [.list 1 2 (litC 1 2 [iI a, iI b])]) h1 (VLe.lit tint [c, d] rfl rfl (fun _ => rfl))
inductive P46
  | e
  | l0 (x0_5 : Int)
inductive R46
  | r0 (r0 : Bool)
noncomputable def T46 (b : Book) (l : List Entry) : P46 → Tr P46 R46
  | .e => (.go (.l0 0))
  | .l0 x0_5 => let c1 := l.getD (x0_5).toNat tEntry.zero; let c2 := decide (0 ≤ x0_5) && decide (x0_5 < (l.length : Int)); let c3 := l.getD ((x0_5 - (1 : Int))).toNat tEntry.zero; let c4 := decide (0 ≤ (x0_5 - (1 : Int))) && decide ((x0_5 - (1 : Int)) < (l.length : Int)); let c5 := decide (c1.day < (0 : Int)); let c6 := decide (c1.day ≥ (b.days.length : Int)); let c7 : Tr P46 R46 := .need (inR .i64 (x0_5 + (1 : Int))) (.go (.l0 (x0_5 + (1 : Int)))); let c8 := less ([c3.day, c3.of] : List Int) ([c1.day, c1.of] : List Int); let c9 := decide (x0_5 > (0 : Int)); let c10 : Tr P46 R46 := .out (.r0 false); let c11 := entriesR b; let c12 := inR .i64 (x0_5 - (1 : Int)); (.br (decide (x0_5 < (l.length : Int))) (.br c5 (.front [] [(6, true)] ((c2 && ((c5 == true) && true)) && true) true (.lit true c10)) (.br c6 (.front [] [(6, false), (17, true)] ((c2 && ((c5 == false) && (c2 && ((c6 == true) && true)))) && true) true (.lit true c10)) (.front [(19, 48, [.agg (cC b)], tint.lst c11), (25, 92, [tint.lst c11, iI (c1.of)], .bool (hasN c11 (c1.of)))] [(6, false), (17, false)] ((c2 && ((c5 == false) && (c2 && ((c6 == false) && (c2 && true))))) && true) true (.br (!(hasN c11 (c1.of))) c10 (.br c9 (.front [(27, 41, [.list 1 2 (litC 1 2 [iI (c3.day), iI (c3.of)]), .list 1 2 (litC 1 2 [iI (c1.day), iI (c1.of)])], .bool c8)] [(2, true)] (((c9 == true) && (c12 && (c4 && (c12 && (c4 && (c2 && (c2 && true))))))) && true) true (.br (!c8) c10 c7)) (.front [] [(2, false)] (((c9 == false) && true) && true) true (.lit false c7))))))) (.out (.r0 true)))
noncomputable def g46 (b : Book) (l : List Entry) : P46 → List Item × St
  | .e => bd Tryz.f46 [.agg (cC b), tEntry.lst l] 68
  | .l0 x0_5 => (cutOf Tryz.f46 0, ⟨mk 70 [(1, tEntry.lst l), (2, .ref 0 0 0), (5, iI x0_5)], [.cells (cC b)], []⟩)
noncomputable def n46 : R46 → Exit × St
  | .r0 r0 => (.ret, ⟨mk 70 [(4, .bool r0)], [], []⟩)
noncomputable def v46 : R46 → V
  | .r0 r0 => .bool r0
theorem s46 (b : Book) (l : List Entry) : Sm 0 (g46 b l) (T46 b l) (n46)
  | .e => ⟨400, by kernel_rfl⟩
  | .l0 _ => ⟨400, by kernel_rfl⟩
theorem q46 : ∀ r, bodyQ Tryz.prog Tryz.f46 (· = v46 r) (n46 r).1 (n46 r).2
  | .r0 r0 => bq (.bool r0) (by kernel_rfl)
theorem w46 (b : Book) (l : List Entry) {post : V → Prop} (h : WQ (T46 b l) v46 post .e) : PC 46 [.agg (cC b), tEntry.lst l] post :=
  PCalls.wq Tryz.func46 (s46 b l) q46 h
theorem c46 (b : Book) (l : List Entry) (h : OkBook b) (ha : Asc b l) (hm : l.length ≤ 1000000) : PC 46 [.agg (tBook.cells b), tEntry.lst l] (· = .bool true) := by
  have k48 := c48 b h
  refine w46 b l (WP.step ?_)
  simp only [T46, Go, Ends', v46, Tr.sure, SS]
  repeat' with_reducible first | intro _ | apply And.intro
  refine WP.run (fun i => .l0 (i : Int)) rfl l.length (fun i hi => ?_) ?_
  · have hr : inR .i64 ((i : Int) + 1) = true := inR64 (by omega) (by omega)
    have hi' : (i : Int) < l.length := by omega
    have hd := ha.day i hi
    have ho := ha.of i hi
    have hd1 : ¬ (l.getD i zEntry).day < 0 := by omega
    have hd2 : ¬ (b.days.length : Int) ≤ (l.getD i zEntry).day := by omega
    cases i with
    | zero =>
      have hz : (((0 : Nat) : Int)) = 0 := rfl
      rw [hz] at hr hi'
      have i0 : Int.toNat 0 = 0 := rfl
      generalize hx : l.getD 0 zEntry = x at *
      refine WP.once ?_
      simp only [T46, Tr.sure, SS, hz, hi', i0, hx, z11]
      repeat' with_reducible first | intro _ | apply And.intro
      all_goals first | exact k48 | exact (c92 _ _) | (simp [hr, hd1, hd2, ho, Go, Ends', v46, -List.getD_eq_getElem?_getD, *]; done) | (simp_all [hr, hd1, hd2, ho, Go, Ends', v46, -List.getD_eq_getElem?_getD]; done)
    | succ j =>
      have hl := ha.less j hi
      have hz : (((j + 1 : Nat) : Int)) = (j : Int) + 1 := by omega
      have hj1 : (j : Int) + 1 - 1 = j := by omega
      have hj2 : ((j : Int) + 1).toNat = j + 1 := by omega
      have hj3 : ((j : Int)).toNat = j := by omega
      have hj4 : (0 : Int) < (j : Int) + 1 := by omega
      have hj5 : (0 : Int) ≤ (j : Int) := by omega
      have hj6 : (j : Int) < l.length := by omega
      have hj7 : (0 : Int) ≤ (j : Int) + 1 := by omega
      have r1 : inR .i64 ((j : Int) + 1 - 1) = true := inR64 (by omega) (by omega)
      rw [hj1] at r1
      rw [hz] at hr hi'
      generalize hx : l.getD (j + 1) zEntry = x at *
      generalize hy : l.getD j zEntry = y at *
      refine WP.once ?_
      simp only [T46, Tr.sure, SS, hz, hi', hj1, hj2, hj3, hj4, hj5, hj6, hj7, hx, hy, z11]
      repeat' with_reducible first | intro _ | apply And.intro
      all_goals first | exact k48 | exact (c92 _ _) | exact (c41l _ _ _ _) | (simp [hr, hd1, hd2, ho, hl, r1, Go, Ends', v46, -List.getD_eq_getElem?_getD, *]; done) | (simp_all [hr, hd1, hd2, ho, hl, r1, Go, Ends', v46, -List.getD_eq_getElem?_getD]; done)
  · refine WP.step ?_
    simp only [T46, Go, Ends', v46, Tr.sure, SS, Int.lt_irrefl]
    repeat' with_reducible first | intro _ | apply And.intro
end
end Go.Proofs.YtfgmckfomckliaaGreat
