/-
  Part of the proof of DoorFirsts. Conditions: those that stand in each theorem.
-/
import Derived.Test.YtfgmckfomckliaaGreatChecked
import Derived.Test.YtfgmckfomckliaaGreatB13
set_option linter.unusedSimpArgs false
set_option linter.unusedVariables false
set_option maxRecDepth 100000
namespace Ab
theorem rev_take {τ υ : Type} (f : τ → υ) (d : τ) (l : List τ) (i : Nat) (hi : i < l.length) : ((l.take (i + 1)).map f).reverse = f (l.getD i d) :: ((l.take i).map f).reverse := by
  rw [List.take_succ_eq_append_getElem hi, List.map_append, List.reverse_append, List.map_singleton, List.reverse_singleton, List.singleton_append]
  simp only [List.getD_eq_getElem?_getD, List.getElem?_eq_getElem hi, Option.getD_some]
theorem rev_take' {τ υ : Type} (f : τ → υ) (d : τ) (l : List τ) (i : Nat) (hi : i < l.length) : ((l.map f).take (i + 1)).reverse = f (l.getD i d) :: ((l.map f).take i).reverse := by
  rw [← List.map_take, ← List.map_take]; exact rev_take f d l i hi
theorem flat_take {τ υ : Type} (f : τ → List υ) (d : τ) (l : List τ) (i : Nat) (hi : i < l.length) : ((l.take (i + 1)).flatMap f).reverse = (f (l.getD i d)).reverse ++ ((l.take i).flatMap f).reverse := by
  rw [List.take_succ_eq_append_getElem hi, List.flatMap_append, List.reverse_append]
  simp [List.getD_eq_getElem?_getD, hi]
end Ab
namespace Go.Proofs.YtfgmckfomckliaaGreat
open Ab
def indexS (l : List ByteArray) (s : ByteArray) : Int := match firstI (fun o => same o s) 0 l with | some i => i | none => -1
def tstr : Ty ByteArray := ⟨1, fun s => [.str s], ByteArray.empty⟩
def tlist {τ : Type} (E : Ty τ) : Ty (List τ) := ⟨1, fun l => [E.lst l], []⟩
theorem z6 {τ : Type} {E : Ty τ} : (tlist E).zero = [] := rfl
theorem z10 : tTruth.zero = zTruth := rfl
end Go.Proofs.YtfgmckfomckliaaGreat
namespace Go.Proofs.YtfgmckfomckliaaGreat
open Ab Go
noncomputable section
theorem map_take_len {τ υ : Type} (f : τ → υ) (l : List τ) (i : Nat) (hi : i ≤ l.length) : ((l.map f).take i).reverse.length = i := by simp; omega
inductive P91
  | e
inductive R91
  | r0 (r0 : Bool)
noncomputable def T91 (p0 : Int) (p1 : Int) (p2 : Int) : P91 → Tr P91 R91
  | .e => (.br (decide (p0 ≥ p1)) (.out (.r0 (decide (p0 ≤ p2)))) (.out (.r0 false)))
noncomputable def g91 (p0 : Int) (p1 : Int) (p2 : Int) : P91 → List Item × St
  | .e => bd Tryz.f91 [iI p0, iI p1, iI p2] 12
noncomputable def n91 : R91 → Exit × St
  | .r0 r0 => (.ret, ⟨mk 15 [(6, .bool r0)], [], []⟩)
noncomputable def v91 : R91 → V
  | .r0 r0 => .bool r0
theorem s91 (p0 : Int) (p1 : Int) (p2 : Int) : Sm 0 (g91 p0 p1 p2) (T91 p0 p1 p2) (n91)
  | .e => ⟨400, by kernel_rfl⟩
theorem q91 : ∀ r, bodyQ Tryz.prog Tryz.f91 (· = v91 r) (n91 r).1 (n91 r).2
  | .r0 r0 => bq (.bool r0) (by kernel_rfl)
theorem w91 (p0 : Int) (p1 : Int) (p2 : Int) {post : V → Prop} (h : WQ (T91 p0 p1 p2) v91 post .e) : PC 91 [iI p0, iI p1, iI p2] post :=
  PCalls.wq Tryz.func91 (s91 p0 p1 p2) q91 h
theorem c91 (n a b : Int) : PC 91 [iI n, iI a, iI b] (· = .bool (within n a b)) := by
  refine w91 _ _ _ (WP.step ?_)
  simp only [T91, Go, Ends', v91, Tr.sure, SS]
  repeat' with_reducible first | intro _ | apply And.intro
  all_goals simp [within, GE.ge, Go, Ends', v91, -List.getD_eq_getElem?_getD, *]
  all_goals simp_all [within]
inductive P58
  | e
inductive R58
  | r0 (r0 : Bool)
noncomputable def T58 (p0 : Int) (p1 : Int) (p2 : Int) : P58 → Tr P58 R58
  | .e => (.br (decide (p0 ≥ p1)) (.out (.r0 (decide (p0 ≤ p2)))) (.out (.r0 false)))
noncomputable def g58 (p0 : Int) (p1 : Int) (p2 : Int) : P58 → List Item × St
  | .e => bd Tryz.f58 [iI p0, iI p1, iI p2] 12
noncomputable def n58 : R58 → Exit × St
  | .r0 r0 => (.ret, ⟨mk 15 [(6, .bool r0)], [], []⟩)
noncomputable def v58 : R58 → V
  | .r0 r0 => .bool r0
theorem s58 (p0 : Int) (p1 : Int) (p2 : Int) : Sm 0 (g58 p0 p1 p2) (T58 p0 p1 p2) (n58)
  | .e => ⟨400, by kernel_rfl⟩
theorem q58 : ∀ r, bodyQ Tryz.prog Tryz.f58 (· = v58 r) (n58 r).1 (n58 r).2
  | .r0 r0 => bq (.bool r0) (by kernel_rfl)
theorem w58 (p0 : Int) (p1 : Int) (p2 : Int) {post : V → Prop} (h : WQ (T58 p0 p1 p2) v58 post .e) : PC 58 [iI p0, iI p1, iI p2] post :=
  PCalls.wq Tryz.func58 (s58 p0 p1 p2) q58 h
theorem c58 (n a b : Int) : PC 58 [iI n, iI a, iI b] (· = .bool (within n a b)) := by
  refine w58 _ _ _ (WP.step ?_)
  simp only [T58, Go, Ends', v58, Tr.sure, SS]
  repeat' with_reducible first | intro _ | apply And.intro
  all_goals simp [within, GE.ge, Go, Ends', v58, -List.getD_eq_getElem?_getD, *]
  all_goals simp_all [within]
theorem data_get (s : ByteArray) (i : Nat) : s.data.getD i 0 = s.data.toList.getD i 0 := by simp
theorem inR8 (c : UInt8) : inR .i64 (c.toNat : Int) = true := inR64 (by omega) (by have := c.toNat_lt; omega)
inductive P127
  | e
  | l0 (x0_3 : Int)
inductive R127
  | r0 (r0 : Bool)
noncomputable def T127 (p0 : ByteArray) : P127 → Tr P127 R127
  | .e => (.br ((p0.size : Int) == (0 : Int)) (.lit true (.out (.r0 false))) (.br (decide ((p0.size : Int) > (16 : Int))) (.out (.r0 false)) (.go (.l0 0))))
  | .l0 x0_3 => let c1 := ((p0.data.getD (x0_3).toNat 0).toNat : Int); let c2 : Tr P127 R127 := .need (inR .i64 (x0_3 + (1 : Int))) (.go (.l0 (x0_3 + (1 : Int)))); let c3 := decide (0 ≤ x0_3) && decide (x0_3 < (p0.size : Int)); let c4 : Tr P127 R127 := .lit true (.lit true (.out (.r0 false))); let c5 := within c1 97 122; let c6 : Tr P127 R127 := .lit false (.lit false c2); (.br (decide (x0_3 < (p0.size : Int))) (.need c3 (.need (inR .i64 c1) (.call 91 [iI c1, iI 97, iI 122] (.bool c5) true true (.need c3 (.need (inR .i64 c1) (.call 91 [iI c1, iI 48, iI 57] (.bool (within c1 48 57)) true true (.br (within c1 48 57) (.br (!c5) (.br (x0_3 == (0 : Int)) c4 (.lit true (.lit false c2))) c6) (.need c3 (.br (!c5) (.br (x0_3 == (0 : Int)) c4 (.lit true (.br (!(c1 == (46 : Int))) (.out (.r0 false)) c2))) c6))))))))) (.out (.r0 true)))
noncomputable def g127 (p0 : ByteArray) : P127 → List Item × St
  | .e => bd Tryz.f127 [.str p0] 45
  | .l0 x0_3 => (cutOf Tryz.f127 0, ⟨mk 46 [(0, .str p0), (2, .bool false), (3, iI x0_3)], [], []⟩)
noncomputable def n127 : R127 → Exit × St
  | .r0 r0 => (.ret, ⟨mk 46 [(2, .bool r0)], [], []⟩)
noncomputable def v127 : R127 → V
  | .r0 r0 => .bool r0
theorem s127 (p0 : ByteArray) : Sm 0 (g127 p0) (T127 p0) (n127)
  | .e => ⟨400, by kernel_rfl⟩
  | .l0 _ => ⟨400, by kernel_rfl⟩
theorem q127 : ∀ r, bodyQ Tryz.prog Tryz.f127 (· = v127 r) (n127 r).1 (n127 r).2
  | .r0 r0 => bq (.bool r0) (by kernel_rfl)
theorem w127 (p0 : ByteArray) {post : V → Prop} (h : WQ (T127 p0) v127 post .e) : PC 127 [.str p0] post :=
  PCalls.wq Tryz.func127 (s127 p0) q127 h
theorem c127 (s : ByteArray) : PC 127 [.str s] (· = .bool (nameOk s)) := by
  refine w127 _ (WP.step ?_)
  simp only [T127, Tr.sure, Go, Ends', v127]
  refine ⟨fun h => ?_, fun h0 => ⟨fun h => ?_, fun h1 => ?_⟩⟩
  · simp at h; simp [nameOk, h]
  · simp at h; simp [nameOk]; omega
  simp only [beq_eq_false_iff_ne, ne_eq, decide_eq_false_iff_not, Int.not_lt, gt_iff_lt] at h0 h1
  have hs : s.size ≤ 16 := by omega
  have hn : nameOk s = nameFrom true s.data.toList := by
    have h0' : s.size ≠ 0 := by omega
    simp [nameOk, hs, h0']
  refine WP.count (fun i => .l0 i) rfl s.size (fun i => nameFrom true s.data.toList = nameFrom (i == 0) (s.data.toList.drop i)) rfl (fun i hi hI => ?_) fun hI => ?_
  · have hd := drop_cons 0 s.data.toList i hi
    have hr : inR .i64 ((i : Int) + 1) = true := inR64 (by omega) (by omega)
    have hc := inR8 (s.data.toList.getD i 0)
    rw [hd] at hI
    simp only [nameFrom] at hI
    generalize hg : s.data.toList.getD i 0 = c at *
    refine WP.once ?_
    simp only [T127, Tr.sure, SS, hi, data_get, hg]
    repeat' with_reducible first | intro _ | apply And.intro
    all_goals first | exact c91 _ _ _ | (simp [hr, hc, hI, hn, letter, other, Go, Ends', v127, -List.getD_eq_getElem?_getD, *]; done)
  · have he : nameFrom (s.size == 0) (s.data.toList.drop s.size) = true := by rw [← data_len, List.drop_length]; rfl
    refine WP.step ?_
    simp only [T127, Go, Ends', v127, Tr.sure, SS]
    repeat' with_reducible first | intro _ | apply And.intro
    all_goals simp [hn, hI, he, Go, Ends', v127, -List.getD_eq_getElem?_getD, *]
theorem tstr_zero : tstr.zero = ByteArray.empty := rfl
inductive P128
  | e
  | l0 (x0_5 : Int)
inductive R128
  | r0 (r0 : Int)
noncomputable def T128 (p0 : List ByteArray) (p1 : ByteArray) : P128 → Tr P128 R128
  | .e => (.go (.l0 0))
  | .l0 x0_5 => let c1 := x0_5 < (p0.length : Int); (.br (decide c1) (.need (decide (0 ≤ x0_5) && decide c1) (.br ((p0.getD (x0_5).toNat tstr.zero).toList == p1.toList) (.out (.r0 x0_5)) (.need (inR .i64 (x0_5 + (1 : Int))) (.go (.l0 (x0_5 + (1 : Int))))))) (.out (.r0 (-1))))
noncomputable def g128 (p0 : List ByteArray) (p1 : ByteArray) : P128 → List Item × St
  | .e => bd Tryz.f128 [tstr.lst p0, .str p1] 17
  | .l0 x0_5 => (cutOf Tryz.f128 0, ⟨mk 19 [(0, tstr.lst p0), (1, .str p1), (4, iI 0), (5, iI x0_5)], [], []⟩)
noncomputable def n128 : R128 → Exit × St
  | .r0 r0 => (.ret, ⟨mk 19 [(4, iI r0)], [], []⟩)
noncomputable def v128 : R128 → V
  | .r0 r0 => iI r0
theorem s128 (p0 : List ByteArray) (p1 : ByteArray) : Sm 0 (g128 p0 p1) (T128 p0 p1) (n128)
  | .e => ⟨400, by kernel_rfl⟩
  | .l0 _ => ⟨400, by kernel_rfl⟩
theorem q128 : ∀ r, bodyQ Tryz.prog Tryz.f128 (· = v128 r) (n128 r).1 (n128 r).2
  | .r0 r0 => bq (iI r0) (by kernel_rfl)
theorem w128 (p0 : List ByteArray) (p1 : ByteArray) {post : V → Prop} (h : WQ (T128 p0 p1) v128 post .e) : PC 128 [tstr.lst p0, .str p1] post :=
  PCalls.wq Tryz.func128 (s128 p0 p1) q128 h
theorem c128 (l : List ByteArray) (n : ByteArray) (h : l.length ≤ 4) : PC 128 [tstr.lst l, .str n] (· = iI (indexS l n)) := by
  refine w128 _ _ (WP.step ?_)
  simp only [T128, Go, Ends', v128, Tr.sure, SS]
  repeat' with_reducible first | intro _ | apply And.intro
  refine WP.findI (fun i => .l0 i) rfl l ByteArray.empty (fun o => same o n) (fun i hi => ?_) fun hI => ?_
  · have hr : inR .i64 ((i : Int) + 1) = true := inR64 (by omega) (by omega)
    refine WP.once ?_
    simp only [T128, Tr.sure, SS, hi]
    repeat' with_reducible first | intro _ | apply And.intro
    all_goals first | (simp [hr, same, tstr_zero, indexS, Go, Ends', v128, -List.getD_eq_getElem?_getD, *]; done) | (simp_all [hr, same, tstr_zero, indexS, Go, Ends', v128, -List.getD_eq_getElem?_getD]; done)
  · refine WP.step ?_
    simp only [T128, Go, Ends', v128, Tr.sure, SS]
    repeat' with_reducible first | intro _ | apply And.intro
    all_goals simp [hI, indexS, Go, Ends', v128, -List.getD_eq_getElem?_getD, *]
theorem indexS_ge (l : List ByteArray) (n : ByteArray) : (0 ≤ indexS l n) ↔ l.any (fun o => same o n) = true := by
  rw [← firstI_any _ l 0, indexS]
  cases firstI (fun o => same o n) 0 l <;> simp
inductive P101
  | e
inductive R101
  | r0 (r0 : Int)
noncomputable def T101 (p0 : ByteArray) (p1 : List ByteArray) : P101 → Tr P101 R101
  | .e => (.call 127 [.str p0] (.bool (nameOk p0)) true true (.br (!(nameOk p0)) (.out (.r0 6)) (.call 128 [tstr.lst p1, .str p0] (iI (indexS p1 p0)) true true (.br (decide ((indexS p1 p0) ≥ (0 : Int))) (.out (.r0 5)) (.out (.r0 0))))))
noncomputable def g101 (p0 : ByteArray) (p1 : List ByteArray) : P101 → List Item × St
  | .e => bd Tryz.f101 [.str p0, tstr.lst p1] 10
noncomputable def n101 : R101 → Exit × St
  | .r0 r0 => (.ret, ⟨mk 12 [(4, iI r0)], [], []⟩)
noncomputable def v101 : R101 → V
  | .r0 r0 => iI r0
theorem s101 (p0 : ByteArray) (p1 : List ByteArray) : Sm 0 (g101 p0 p1) (T101 p0 p1) (n101)
  | .e => ⟨400, by kernel_rfl⟩
theorem q101 : ∀ r, bodyQ Tryz.prog Tryz.f101 (· = v101 r) (n101 r).1 (n101 r).2
  | .r0 r0 => bq (iI r0) (by kernel_rfl)
theorem w101 (p0 : ByteArray) (p1 : List ByteArray) {post : V → Prop} (h : WQ (T101 p0 p1) v101 post .e) : PC 101 [.str p0, tstr.lst p1] post :=
  PCalls.wq Tryz.func101 (s101 p0 p1) q101 h
theorem c101 (n : ByteArray) (l : List ByteArray) (h : l.length ≤ 4) : PC 101 [.str n, tstr.lst l] (· = iI (newErr n l)) := by
  have hi := indexS_ge l n
  refine w101 _ _ (WP.step ?_)
  simp only [T101, Go, Ends', v101, Tr.sure, SS]
  repeat' with_reducible first | intro _ | apply And.intro
  all_goals first | exact c127 _ | exact c128 _ _ h | (simp [newErr, Go, Ends', v101, -List.getD_eq_getElem?_getD, *]; done) | (simp_all [newErr, Go, Ends', v101, -List.getD_eq_getElem?_getD]; done)
theorem c101r (n : ByteArray) (l : List ByteArray) (h : l.length ≤ 4) : PC 101 [.str n, .list 1 l.reverse.length (rowsRev tstr l.reverse)] (· = iI (newErr n l)) :=
  PCalls.arg (pre := [.str n]) (c101 n l h) (by have := VLe.rev tstr l.reverse; rwa [List.reverse_reverse] at this)
theorem less_end (a b : List Int) (h : a.length = 0 ∨ b.length = 0) : less a b = decide (a.length < b.length) := by
  cases a <;> cases b <;> simp_all [less]
theorem less_drop (a b : List Int) {i : Nat} (ha : i < a.length) (hb : i < b.length) : less (a.drop i) (b.drop i) = if a.getD i 0 = b.getD i 0 then less (a.drop (i + 1)) (b.drop (i + 1)) else decide (a.getD i 0 < b.getD i 0) := by
  rw [drop_cons 0 a i ha, drop_cons 0 b i hb]; rfl
inductive P41
  | e
  | l0 (x0_6 : Int)
inductive R41
  | r0 (r0 : Bool)
noncomputable def T41 (p0 : List Int) (p1 : List Int) : P41 → Tr P41 R41
  | .e => (.go (.l0 0))
  | .l0 x0_6 => let c1 := ((decide (0 ≤ x0_6) && decide (x0_6 < (p0.length : Int))) && ((decide (0 ≤ x0_6) && decide (x0_6 < (p1.length : Int))) && true)) && true; let c2 := p1.getD (x0_6).toNat tint.zero; let c3 := p0.getD (x0_6).toNat tint.zero; (.br (decide (x0_6 < (min (p0.length : Int) (p1.length : Int)))) (.front [] [] c1 true (.br (c3 != c2) (.front [] [] c1 true (.out (.r0 (decide (c3 < c2))))) (.need (inR .i64 (x0_6 + (1 : Int))) (.go (.l0 (x0_6 + (1 : Int))))))) (.out (.r0 (decide ((p0.length : Int) < (p1.length : Int))))))
noncomputable def g41 (p0 : List Int) (p1 : List Int) : P41 → List Item × St
  | .e => bd Tryz.f41 [tint.lst p0, tint.lst p1] 38
  | .l0 x0_6 => (cutOf Tryz.f41 0, ⟨mk 40 [(0, tint.lst p0), (1, tint.lst p1), (5, iI (min (p0.length : Int) (p1.length : Int))), (6, iI x0_6)], [], []⟩)
noncomputable def n41 : R41 → Exit × St
  | .r0 r0 => (.ret, ⟨mk 40 [(4, .bool r0)], [], []⟩)
noncomputable def v41 : R41 → V
  | .r0 r0 => .bool r0
theorem s41 (p0 : List Int) (p1 : List Int) : Sm 0 (g41 p0 p1) (T41 p0 p1) (n41)
  | .e => ⟨400, by kernel_rfl⟩
  | .l0 _ => ⟨400, by kernel_rfl⟩
theorem q41 : ∀ r, bodyQ Tryz.prog Tryz.f41 (· = v41 r) (n41 r).1 (n41 r).2
  | .r0 r0 => bq (.bool r0) (by kernel_rfl)
theorem w41 (p0 : List Int) (p1 : List Int) {post : V → Prop} (h : WQ (T41 p0 p1) v41 post .e) : PC 41 [tint.lst p0, tint.lst p1] post :=
  PCalls.wq Tryz.func41 (s41 p0 p1) q41 h
theorem e41 : ∀ xs w, (callFunc 41 xs).run Tryz.prog w = .ok (.enter 41 xs) w := PCalls.enters Tryz.func41 (c := Tryz.f41.body.getD .skip) (by kernel_rfl) (by kernel_rfl)
theorem c41 (a b : List Int) : PC 41 [tint.lst a, tint.lst b] (· = .bool (less a b)) := by
  refine PCalls.assume e41 0 (by simp) .list fun hl => ?_
  refine w41 _ _ (WP.step ?_)
  simp only [T41, Go, Ends', v41, Tr.sure, SS]
  repeat' with_reducible first | intro _ | apply And.intro
  refine WP.count (fun i => .l0 i) rfl (min a.length b.length) (fun i => less a b = less (a.drop i) (b.drop i)) rfl (fun i hi hI => ?_) fun hI => ?_
  · have hia : i < a.length := by omega
    have hib : i < b.length := by omega
    have hr := inRi hia hl
    have hd := less_drop a b hia hib
    have hi' : ((i : Nat) : Int) < min (a.length : Int) (b.length : Int) := by omega
    have hd1 : a.getD i 0 = b.getD i 0 → less a b = less (a.drop (i + 1)) (b.drop (i + 1)) := fun h => by rw [hI, hd, if_pos h]
    have hd2 : ¬ a.getD i 0 = b.getD i 0 → less a b = decide (a.getD i 0 < b.getD i 0) := fun h => by rw [hI, hd, if_neg h]
    clear hI hd
    refine WP.once ?_
    simp only [T41, Tr.sure, SS, hi', hia, hib, z1]
    repeat' with_reducible first | intro _ | apply And.intro
    all_goals simp [hr, Go, Ends', v41, -List.getD_eq_getElem?_getD, *]
    all_goals (right; simp only [Go, Ends', v41]; rw [hd2 (by assumption)]; rfl)
  · have hge : ¬ ((min a.length b.length : Nat) : Int) < min (a.length : Int) (b.length : Int) := by omega
    have he : less a b = decide ((a.length : Int) < (b.length : Int)) := by
      rw [hI, less_end _ _ (by simp only [List.length_drop]; omega)]
      simp only [List.length_drop]
      congr 1
      simp only [eq_iff_iff]; omega
    refine WP.step ?_
    simp only [T41, Go, Ends', v41, Tr.sure, SS, hge]
    repeat' with_reducible first | intro _ | apply And.intro
    all_goals simp [he, Go, Ends', v41, -List.getD_eq_getElem?_getD, *]
inductive P92
  | e
  | l0 (x0_5 : Int)
inductive R92
  | r0 (r0 : Bool)
noncomputable def T92 (p0 : List Int) (p1 : Int) : P92 → Tr P92 R92
  | .e => (.go (.l0 0))
  | .l0 x0_5 => let c1 := x0_5 < (p0.length : Int); (.br (decide c1) (.need (decide (0 ≤ x0_5) && decide c1) (.br ((p0.getD (x0_5).toNat tint.zero) == p1) (.out (.r0 true)) (.need (inR .i64 (x0_5 + (1 : Int))) (.go (.l0 (x0_5 + (1 : Int))))))) (.out (.r0 false)))
noncomputable def g92 (p0 : List Int) (p1 : Int) : P92 → List Item × St
  | .e => bd Tryz.f92 [tint.lst p0, iI p1] 16
  | .l0 x0_5 => (cutOf Tryz.f92 0, ⟨mk 18 [(0, tint.lst p0), (1, iI p1), (4, .bool false), (5, iI x0_5)], [], []⟩)
noncomputable def n92 : R92 → Exit × St
  | .r0 r0 => (.ret, ⟨mk 18 [(4, .bool r0)], [], []⟩)
noncomputable def v92 : R92 → V
  | .r0 r0 => .bool r0
theorem s92 (p0 : List Int) (p1 : Int) : Sm 0 (g92 p0 p1) (T92 p0 p1) (n92)
  | .e => ⟨400, by kernel_rfl⟩
  | .l0 _ => ⟨400, by kernel_rfl⟩
theorem q92 : ∀ r, bodyQ Tryz.prog Tryz.f92 (· = v92 r) (n92 r).1 (n92 r).2
  | .r0 r0 => bq (.bool r0) (by kernel_rfl)
theorem w92 (p0 : List Int) (p1 : Int) {post : V → Prop} (h : WQ (T92 p0 p1) v92 post .e) : PC 92 [tint.lst p0, iI p1] post :=
  PCalls.wq Tryz.func92 (s92 p0 p1) q92 h
theorem e92 : ∀ xs w, (callFunc 92 xs).run Tryz.prog w = .ok (.enter 92 xs) w := PCalls.enters Tryz.func92 (c := Tryz.f92.body.getD .skip) (by kernel_rfl) (by kernel_rfl)
theorem c92 (l : List Int) (n : Int) : PC 92 [tint.lst l, iI n] (· = .bool (hasN l n)) := by
  refine PCalls.assume e92 0 (by simp) .list fun hl => ?_
  refine w92 _ _ (WP.step ?_)
  simp only [T92, Go, Ends', v92, Tr.sure, SS]
  repeat' with_reducible first | intro _ | apply And.intro
  refine WP.findI (fun i => .l0 i) rfl l 0 (· == n) (fun i hi => ?_) fun hI => ?_
  · have hr := inRi hi hl
    have ha : firstI (· == n) 0 l = some i → l.any (· == n) = true := any_of_firstI
    refine WP.once ?_
    simp only [T92, Tr.sure, SS, hi, z1]
    repeat' with_reducible first | intro _ | apply And.intro
    all_goals first | (simp [hr, hasN, Go, Ends', v92, -List.getD_eq_getElem?_getD, *]; done) | (simp_all [hr, hasN, Go, Ends', v92, -List.getD_eq_getElem?_getD]; done)
  · have ha := any_of_none hI
    refine WP.step ?_
    simp only [T92, Go, Ends', v92, Tr.sure, SS, Int.lt_irrefl]
    repeat' with_reducible first | intro _ | apply And.intro
    all_goals simp [hasN, ha, Go, Ends', v92, -List.getD_eq_getElem?_getD, *]
end
noncomputable section
inductive P59
  | e
  | l0 (x0_5 : Int) (a0_0 : List ByteArray)
inductive R59
  | r0 (r0 : Int) (r1 : Int)
noncomputable def T59 (l : List Room) : P59 → Tr P59 R59
  | .e => (.br (decide ((l.length : Int) > (3 : Int))) (.out (.r0 0 3)) (.wait 3 (.own 4 9 1 (.go (.l0 0 ([]))))))
  | .l0 x0_5 a0_0 => let c1 := l.getD (x0_5).toNat tRoom.zero; let c2 : Tr P59 R59 := .need (inR .i64 (x0_5 + (1 : Int))) (.go (.l0 (x0_5 + (1 : Int)) (c1.name :: a0_0))); let c3 := decide (0 ≤ x0_5) && decide (x0_5 < (l.length : Int)); let c4 := newErr (c1.name) a0_0.reverse; let c5 : Tr P59 R59 := .br ((7 : Int) != (0 : Int)) (.out (.r0 x0_5 7)) c2; let c6 : Tr P59 R59 := .br (c4 != (0 : Int)) (.out (.r0 x0_5 c4)) c2; (.br (decide (x0_5 < (l.length : Int))) (.need c3 (.call 101 [.str (c1.name), .list 1 a0_0.length (rowsRev tstr a0_0)] (iI c4) ((decide (a0_0.length ≤ a0_0.length)) && true) true (.need c3 (.need ((decide (a0_0.length = a0_0.length) && decide (a0_0.length + 1 ≤ 4294967296)) && decide (1 ≤ 1)) (.scal (fun _ => true) (.br (c4 == (0 : Int)) (.need c3 (.call 58 [iI (c1.more), iI 0, iI 20] (.bool (within (c1.more) 0 20)) true true (.br (!(within (c1.more) 0 20)) (.lit true (.lit true c5)) (.need c3 (.call 58 [iI (c1.full), iI 0, iI 60] (.bool (within (c1.full) 0 60)) true true (.lit true (.br (!(within (c1.full) 0 60)) c5 c6))))))) (.lit false (.lit false c6)))))))) (.out (.r0 0 0)))
noncomputable def g59 (l : List Room) : P59 → List Item × St
  | .e => bd Tryz.f59 [tRoom.lst l] 54
  | .l0 x0_5 a0_0 => (cutOf Tryz.f59 0, ⟨mk 55 [(0, tRoom.lst l), (4, .row 0 a0_0.length), (5, iI x0_5)], [.rows 9 1 a0_0.length (rowsRev tstr a0_0)], []⟩)
noncomputable def n59 : R59 → Exit × St
  | .r0 r0 r1 => (.ret, ⟨mk 55 [(2, iI r0), (3, iI r1)], [], []⟩)
noncomputable def v59 : R59 → V
  | .r0 r0 r1 => .tuple [iI r0, iI r1]
theorem s59 (l : List Room) : Sm 0 (g59 l) (T59 l) (n59)
  | .e => ⟨400, by kernel_rfl⟩
  | .l0 _ _ => ⟨400, by kernel_rfl⟩
theorem q59 : ∀ r, bodyQ Tryz.prog Tryz.f59 (· = v59 r) (n59 r).1 (n59 r).2
  | .r0 r0 r1 => bq (.tuple [iI r0, iI r1]) (by kernel_rfl)
theorem w59 (l : List Room) {post : V → Prop} (h : WQ (T59 l) v59 post .e) : PC 59 [tRoom.lst l] post :=
  PCalls.wq Tryz.func59 (s59 l) q59 h
theorem c59 (l : List Room) : PC 59 [tRoom.lst l] (· = .tuple [iI (roomsErr l).1, iI (roomsErr l).2]) := by
  refine w59 _ (WP.step ?_)
  simp only [T59, Go, Ends', v59, Tr.sure, SS]
  repeat' with_reducible first | intro _ | apply And.intro
  all_goals first | (simp [roomsErr, Go, Ends', v59, -List.getD_eq_getElem?_getD, *]; done) | skip
  rename_i h1
  have hm : l.length ≤ 3 := by omega
  refine WP.findE (fun i => .l0 i (((l.map (·.name)).take i).reverse)) rfl l zRoom (roomAt l) (fun i hi => ?_) fun hI => ?_
  · have hr : inR .i64 ((i : Int) + 1) = true := inR64 (by omega) (by omega)
    have hl := map_take_len (·.name) l i (by omega)
    have hl' : ((l.map (·.name)).take i).length ≤ 4 := by simp; omega
    have ht := rev_take' (·.name) zRoom l i hi
    have hb : i + 1 ≤ 4294967296 := by omega
    refine WP.once ?_
    simp only [T59, Tr.sure, SS, hi, z2, List.reverse_reverse]
    repeat' with_reducible first | intro _ | apply And.intro
    all_goals first | exact c101r _ _ hl' | exact c58 _ _ _ | (simp [hr, roomsErr, firstR, roomAt, ht, hb, hl, Go, Ends', v59, -List.getD_eq_getElem?_getD, *]; done) | (simp_all [hr, roomsErr, firstR, roomAt, ht, hb, hl, Go, Ends', v59, -List.getD_eq_getElem?_getD]; done) | (simp +contextual [hr, roomsErr, firstR, roomAt, ht, hb, hl, Go, Ends', v59, -List.getD_eq_getElem?_getD, *]; done)
  · refine WP.step ?_
    simp only [T59, Go, Ends', v59, Tr.sure, SS, z2]
    repeat' with_reducible first | intro _ | apply And.intro
    all_goals simp [roomsErr, firstR, hI, Go, Ends', v59, -List.getD_eq_getElem?_getD, *]
inductive P102
  | e
  | l0 (x0_4 : Int) (x0_5 : Int) (a0_0 : List ByteArray)
inductive R102
  | r0 (r0 : Int)
noncomputable def T102 (l : List School) : P102 → Tr P102 R102
  | .e => (.br (decide ((l.length : Int) > (3 : Int))) (.out (.r0 3)) (.wait 3 (.own 3 9 1 (.go (.l0 0 0 ([]))))))
  | .l0 x0_4 x0_5 a0_0 => let c3 := decide (0 ≤ x0_5) && decide (x0_5 < (l.length : Int)); let c4 := l.getD (x0_5).toNat tSchool.zero; let c1 : Tr P102 R102 := .need c3 (.need (inR .i64 (x0_4 + c4.children)) (.need (inR .i64 (x0_5 + (1 : Int))) (.go (.l0 (x0_4 + c4.children) (x0_5 + (1 : Int)) (c4.name :: a0_0))))); let c2 := newErr (c4.name) a0_0.reverse; let c5 : Tr P102 R102 := .br (c2 != (0 : Int)) (.out (.r0 c2)) c1; let c6 := within (c4.children) 1 60; (.br (decide (x0_5 < (l.length : Int))) (.need c3 (.call 101 [.str (c4.name), .list 1 a0_0.length (rowsRev tstr a0_0)] (iI c2) ((decide (a0_0.length ≤ a0_0.length)) && true) true (.need c3 (.need ((decide (a0_0.length = a0_0.length) && decide (a0_0.length + 1 ≤ 4294967296)) && decide (1 ≤ 1)) (.scal (fun _ => true) (.br (c2 == (0 : Int)) (.need c3 (.call 58 [iI (c4.children), iI 1, iI 60] (.bool c6) true true (.br (!c6) (.br ((7 : Int) != (0 : Int)) (.out (.r0 7)) c1) c5))) (.lit false c5))))))) (.br (decide (x0_4 > (60 : Int))) (.out (.r0 9)) (.out (.r0 0))))
noncomputable def g102 (l : List School) : P102 → List Item × St
  | .e => bd Tryz.f102 [tSchool.lst l] 53
  | .l0 x0_4 x0_5 a0_0 => (cutOf Tryz.f102 0, ⟨mk 54 [(0, tSchool.lst l), (3, .row 0 a0_0.length), (4, iI x0_4), (5, iI x0_5)], [.rows 9 1 a0_0.length (rowsRev tstr a0_0)], []⟩)
noncomputable def n102 : R102 → Exit × St
  | .r0 r0 => (.ret, ⟨mk 54 [(2, iI r0)], [], []⟩)
noncomputable def v102 : R102 → V
  | .r0 r0 => iI r0
theorem s102 (l : List School) : Sm 0 (g102 l) (T102 l) (n102)
  | .e => ⟨400, by kernel_rfl⟩
  | .l0 _ _ _ => ⟨400, by kernel_rfl⟩
theorem q102 : ∀ r, bodyQ Tryz.prog Tryz.f102 (· = v102 r) (n102 r).1 (n102 r).2
  | .r0 r0 => bq (iI r0) (by kernel_rfl)
theorem w102 (l : List School) {post : V → Prop} (h : WQ (T102 l) v102 post .e) : PC 102 [tSchool.lst l] post :=
  PCalls.wq Tryz.func102 (s102 l) q102 h
theorem c102 (l : List School) : PC 102 [tSchool.lst l] (· = iI (schoolsErr l)) := by
  refine w102 _ (WP.step ?_)
  simp only [T102, Go, Ends', v102, Tr.sure, SS]
  repeat' with_reducible first | intro _ | apply And.intro
  all_goals first | (simp [schoolsErr, Go, Ends', v102, -List.getD_eq_getElem?_getD, *]; done) | skip
  rename_i h1
  have hm : l.length ≤ 3 := by omega
  refine WP.findEI (fun i => .l0 (sumS l i) i (((l.map (·.name)).take i).reverse)) rfl l zSchool (schoolAt l) (fun i => 0 ≤ sumS l i ∧ sumS l i ≤ 60 * i) ⟨Int.le_refl _, Int.le_refl _⟩ (fun i hi hS => ?_) fun hI hS => ?_
  · have hr : inR .i64 ((i : Int) + 1) = true := inR64 (by omega) (by omega)
    have hl := map_take_len (·.name) l i (by omega)
    have hl' : ((l.map (·.name)).take i).length ≤ 4 := by simp; omega
    have ht := rev_take' (·.name) zSchool l i hi
    have hb : i + 1 ≤ 4294967296 := by omega
    rw [sumS_next]
    have hw : within (l.getD i zSchool).children 1 60 = true → inR .i64 (sumS l i + (l.getD i zSchool).children) = true ∧ 0 ≤ sumS l i + (l.getD i zSchool).children ∧ sumS l i + (l.getD i zSchool).children ≤ 60 * ((i : Int) + 1) := fun hw => by
      rw [within_iff] at hw
      exact ⟨inR64 (by omega) (by omega), by omega, by omega⟩
    refine WP.once ?_
    simp only [T102, Tr.sure, SS, hi, z3, List.reverse_reverse]
    repeat' with_reducible first | intro _ | apply And.intro
    all_goals first | exact c101r _ _ hl' | exact c58 _ _ _ | (simp [hr, schoolsErr, schoolAt, ht, hb, hl, Go, Ends', v102, -List.getD_eq_getElem?_getD, *]; done) | (simp_all [hr, schoolsErr, schoolAt, ht, hb, hl, Go, Ends', v102, -List.getD_eq_getElem?_getD]; done) | (simp +contextual [hr, schoolsErr, schoolAt, ht, hb, hl, Go, Ends', v102, -List.getD_eq_getElem?_getD, *]; done)
  · refine WP.step ?_
    simp only [T102, Go, Ends', v102, Tr.sure, SS, z3]
    repeat' with_reducible first | intro _ | apply And.intro
    all_goals simp [schoolsErr, hI, Go, Ends', v102, -List.getD_eq_getElem?_getD, *]
inductive P103
  | e
inductive R103
  | r0 (r0 : Bool)
noncomputable def T103 (c : Count) : P103 → Tr P103 R103
  | .e => (.call 58 [iI c.seen, iI 0, iI 60] (.bool (within c.seen 0 60)) true true (.br (within c.seen 0 60) (.call 58 [iI c.miss, iI 0, iI 5] (.bool (within c.miss 0 5)) true true (.out (.r0 (within c.miss 0 5)))) (.out (.r0 false))))
noncomputable def g103 (c : Count) : P103 → List Item × St
  | .e => bd Tryz.f103 [.agg [iI c.seen, iI c.miss]] 10
noncomputable def n103 : R103 → Exit × St
  | .r0 r0 => (.ret, ⟨mk 11 [(2, .bool r0)], [], []⟩)
noncomputable def v103 : R103 → V
  | .r0 r0 => .bool r0
theorem s103 (c : Count) : Sm 0 (g103 c) (T103 c) (n103)
  | .e => ⟨400, by kernel_rfl⟩
theorem q103 : ∀ r, bodyQ Tryz.prog Tryz.f103 (· = v103 r) (n103 r).1 (n103 r).2
  | .r0 r0 => bq (.bool r0) (by kernel_rfl)
theorem w103 (c : Count) {post : V → Prop} (h : WQ (T103 c) v103 post .e) : PC 103 [.agg [iI c.seen, iI c.miss]] post :=
  PCalls.wq Tryz.func103 (s103 c) q103 h
theorem c103 (c : Count) : PC 103 [.agg (tCount.cells c)] (· = .bool (countOk c)) := by
  refine w103 _ (WP.step ?_)
  simp only [T103, Go, Ends', v103, Tr.sure, SS]
  repeat' with_reducible first | intro _ | apply And.intro
  all_goals first | exact c58 _ _ _ | (simp [countOk, Go, Ends', v103, -List.getD_eq_getElem?_getD, *]; done)
inductive P60
  | e
  | l0 (x0_6 : Bool) (x0_7 : Int)
inductive R60
  | r0 (r0 : Int)
noncomputable def T60 (b : Book) (d : Day) : P60 → Tr P60 R60
  | .e => let c1 : Tr P60 R60 := .call 103 [.agg [iI d.door.seen, iI d.door.miss]] (.bool (countOk d.door)) true true (.br (countOk d.door) (.call 58 [iI d.taken, iI 0, iI 10000] (.bool (within d.taken 0 10000)) true true (.go (.l0 (within d.taken 0 10000) 0))) (.go (.l0 false 0))); let c2 := schoolsErr d.schools; let c3 : Tr P60 R60 := .br (c2 != (0 : Int)) (.out (.r0 c2)) c1; (.call 102 [tSchool.lst d.schools] (iI c2) true true (.br (c2 == (0 : Int)) (.br ((d.rooms.length : Int) != (b.rooms.length : Int)) (.br ((3 : Int) != (0 : Int)) (.out (.r0 3)) c1) c3) (.lit false c3)))
  | .l0 x0_6 x0_7 => let c1 := d.rooms.getD (x0_7).toNat tCount.zero; let c2 := x0_7 + (1 : Int); let c3 := x0_7 < (d.rooms.length : Int); (.br (decide c3) (.br x0_6 (.need (decide (0 ≤ x0_7) && decide c3) (.call 103 [.agg [iI (c1.seen), iI (c1.miss)]] (.bool (countOk c1)) true true (.need (inR .i64 c2) (.go (.l0 (countOk c1) c2))))) (.need (inR .i64 c2) (.go (.l0 false c2)))) (.br (!x0_6) (.out (.r0 7)) (.out (.r0 0))))
noncomputable def g60 (b : Book) (d : Day) : P60 → List Item × St
  | .e => bd Tryz.f60 [.agg (cC b), .agg [tSchool.lst d.schools, iI d.door.seen, iI d.door.miss, tCount.lst d.rooms, iI d.taken]] 49
  | .l0 x0_6 x0_7 => (cutOf Tryz.f60 0, ⟨mk 51 [(3, .ref 1 0 0), (6, .bool x0_6), (7, iI x0_7)], [.gone, .cells [tSchool.lst d.schools, iI d.door.seen, iI d.door.miss, tCount.lst d.rooms, iI d.taken]], []⟩)
noncomputable def n60 : R60 → Exit × St
  | .r0 r0 => (.ret, ⟨mk 51 [(4, iI r0)], [], []⟩)
noncomputable def v60 : R60 → V
  | .r0 r0 => iI r0
theorem s60 (b : Book) (d : Day) : Sm 0 (g60 b d) (T60 b d) (n60)
  | .e => ⟨400, by kernel_rfl⟩
  | .l0 _ _ => ⟨400, by kernel_rfl⟩
theorem q60 : ∀ r, bodyQ Tryz.prog Tryz.f60 (· = v60 r) (n60 r).1 (n60 r).2
  | .r0 r0 => bq (iI r0) (by kernel_rfl)
theorem w60 (b : Book) (d : Day) {post : V → Prop} (h : WQ (T60 b d) v60 post .e) : PC 60 [.agg (cC b), .agg [tSchool.lst d.schools, iI d.door.seen, iI d.door.miss, tCount.lst d.rooms, iI d.taken]] post :=
  PCalls.wq Tryz.func60 (s60 b d) q60 h
theorem c60 (b : Book) (d : Day) (h : b.rooms.length ≤ 3) : PC 60 [.agg (tBook.cells b), .agg (tDay.cells d)] (· = iI (dayErr b d)) := by
  have hmain : ¬ schoolsErr d.schools ≠ 0 → (d.rooms.length : Int) = b.rooms.length → WP Tryz.prog ⟨none, 0⟩ (T60 b d) (Ends' fun r => v60 r = iI (dayErr b d)) (.l0 (countOk d.door && within d.taken 0 10000) 0) := fun h1 h2 => by
    refine WP.run (fun i => .l0 (countOk d.door && within d.taken 0 10000 && (d.rooms.take i).all countOk) i) (by simp) d.rooms.length (fun i hi => ?_) ?_
    · have hr : inR .i64 ((i : Int) + 1) = true := inR64 (by omega) (by omega)
      have hi' : (i : Int) < d.rooms.length := by omega
      have ht : (d.rooms.take (i + 1)).all countOk = ((d.rooms.take i).all countOk && countOk (d.rooms.getD i zCount)) := by rw [take_snoc zCount d.rooms i hi, List.all_append]; simp
      rw [ht, ← Bool.and_assoc]
      generalize (countOk d.door && within d.taken 0 10000 && (d.rooms.take i).all countOk) = A
      cases A with
      | true =>
        refine WP.once ?_
        simp only [T60, Tr.sure, SS, hi', hi, z5]
        repeat' with_reducible first | intro _ | apply And.intro
        all_goals first | exact (c103 _) | (simp [hr, Go, Ends', v60, -List.getD_eq_getElem?_getD, *]; done)
      | false =>
        refine WP.once ?_
        simp only [T60, Tr.sure, SS, hi', hi, z5]
        repeat' with_reducible first | intro _ | apply And.intro
        all_goals simp [hr, Go, Ends', v60, -List.getD_eq_getElem?_getD, *]
    · rw [List.take_length]
      have e : dayErr b d = if (countOk d.door && within d.taken 0 10000 && d.rooms.all countOk) = true then 0 else 7 := by
        unfold dayErr; rw [if_neg h1, if_neg (fun q => q h2)]
      generalize (countOk d.door && within d.taken 0 10000 && d.rooms.all countOk) = A at *
      cases A with
      | true =>
        refine WP.step ?_
        simp only [T60, Go, Ends', v60, Tr.sure, SS, Int.lt_irrefl]
        repeat' with_reducible first | intro _ | apply And.intro
        all_goals simp [e, Go, Ends', v60, -List.getD_eq_getElem?_getD, *]
      | false =>
        refine WP.step ?_
        simp only [T60, Go, Ends', v60, Tr.sure, SS, Int.lt_irrefl]
        repeat' with_reducible first | intro _ | apply And.intro
        all_goals simp [e, Go, Ends', v60, -List.getD_eq_getElem?_getD, *]
  by_cases h1 : schoolsErr d.schools ≠ 0
  · have e : dayErr b d = schoolsErr d.schools := by unfold dayErr; rw [if_pos h1]
    refine w60 b d (WP.step ?_)
    simp only [T60, Go, Ends', v60, Tr.sure, SS]
    repeat' with_reducible first | intro _ | apply And.intro
    all_goals first | exact (c102 _) | exact (c103 _) | exact (c58 _ _ _) | (simp [e, Go, Ends', v60, -List.getD_eq_getElem?_getD, *]; done) | (simp_all [e, Go, Ends', v60, -List.getD_eq_getElem?_getD]; done)
  · by_cases h2 : (d.rooms.length : Int) = b.rooms.length
    · have hm := hmain h1 h2
      have h1' := Decidable.not_not.1 h1
      cases hc : countOk d.door with
      | true =>
        rw [hc, Bool.true_and] at hm
        refine w60 b d (WP.step ?_)
        simp only [T60, Go, Ends', v60, Tr.sure, SS]
        repeat' with_reducible first | intro _ | apply And.intro
        all_goals first | exact (c102 _) | exact (c103 _) | exact (c58 _ _ _) | exact hm | (simp_all [hc, h1', h2, Go, Ends', v60, -List.getD_eq_getElem?_getD]; done)
      | false =>
        rw [hc, Bool.false_and] at hm
        refine w60 b d (WP.step ?_)
        simp only [T60, Go, Ends', v60, Tr.sure, SS]
        repeat' with_reducible first | intro _ | apply And.intro
        all_goals first | exact (c102 _) | exact (c103 _) | exact (c58 _ _ _) | exact hm | (simp_all [hc, h1', h2, Go, Ends', v60, -List.getD_eq_getElem?_getD]; done)
    · have h1' := Decidable.not_not.1 h1
      have e : dayErr b d = 3 := by unfold dayErr; rw [if_neg h1, if_pos h2]
      refine w60 b d (WP.step ?_)
      simp only [T60, Go, Ends', v60, Tr.sure, SS]
      repeat' with_reducible first | intro _ | apply And.intro
      all_goals first | exact (c102 _) | exact (c103 _) | exact (c58 _ _ _) | (simp [e, h1', h2, Go, Ends', v60, -List.getD_eq_getElem?_getD, *]; done) | (simp_all [e, h1', h2, Go, Ends', v60, -List.getD_eq_getElem?_getD]; done)
inductive P14
  | e
  | l0 (x0_7 : Int)
inductive R14
  | r0 (r0 : Int) (r1 : Int) (r2 : Int)
noncomputable def T14 (b : Book) : P14 → Tr P14 R14
  | .e => let c1 := roomsErr b.rooms; (.call 58 [iI b.price, iI 2, iI 60] (.bool (within b.price 2 60)) true true (.br (!(within b.price 2 60)) (.out (.r0 1 0 7)) (.need (decide ((2 : Int) ≠ 0)) (.br ((b.price.tmod (2 : Int)) == (1 : Int)) (.out (.r0 1 0 2)) (.call 59 [tRoom.lst b.rooms] (.tuple [iI (c1.1), iI (c1.2)]) true true (.br (c1.2 != (0 : Int)) (.out (.r0 2 (c1.1) (c1.2))) (.br (decide ((b.days.length : Int) > (4 : Int))) (.out (.r0 3 0 3)) (.go (.l0 0)))))))))
  | .l0 x0_7 => let c1 := b.days.getD (x0_7).toNat tDay.zero; let c2 := x0_7 < (b.days.length : Int); (.br (decide c2) (.front [] [] (((decide (0 ≤ x0_7) && decide c2) && true) && true) true (.call 60 [.agg (cC b), .agg [tSchool.lst (c1.schools), iI (c1.door.seen), iI (c1.door.miss), tCount.lst (c1.rooms), iI (c1.taken)]] (iI (dayErr b c1)) true true (.br ((dayErr b c1) != (0 : Int)) (.out (.r0 3 x0_7 (dayErr b c1))) (.need (inR .i64 (x0_7 + (1 : Int))) (.go (.l0 (x0_7 + (1 : Int)))))))) (.out (.r0 0 0 0)))
noncomputable def g14 (b : Book) : P14 → List Item × St
  | .e => bd Tryz.f14 [.agg (cC b)] 47
  | .l0 x0_7 => (cutOf Tryz.f14 0, ⟨mk 48 [(1, .ref 0 0 0), (7, iI x0_7)], [.cells (cC b)], []⟩)
noncomputable def n14 : R14 → Exit × St
  | .r0 r0 r1 r2 => (.ret, ⟨mk 48 [(2, iI r0), (3, iI r1), (4, iI r2)], [], []⟩)
noncomputable def v14 : R14 → V
  | .r0 r0 r1 r2 => .tuple [iI r0, iI r1, iI r2]
theorem s14 (b : Book) : Sm 0 (g14 b) (T14 b) (n14)
  | .e => ⟨400, by kernel_rfl⟩
  | .l0 _ => ⟨400, by kernel_rfl⟩
theorem q14 : ∀ r, bodyQ Tryz.prog Tryz.f14 (· = v14 r) (n14 r).1 (n14 r).2
  | .r0 r0 r1 r2 => bq (.tuple [iI r0, iI r1, iI r2]) (by kernel_rfl)
theorem w14 (b : Book) {post : V → Prop} (h : WQ (T14 b) v14 post .e) : PC 14 [.agg (cC b)] post :=
  PCalls.wq Tryz.func14 (s14 b) q14 h
theorem c14 (b : Book) : PC 14 [.agg (tBook.cells b)] (· = .tuple [iI (bookCheck b).1, iI (bookCheck b).2.1, iI (bookCheck b).2.2]) := by
  refine w14 _ (WP.step ?_)
  simp only [T14, Go, Ends', v14, Tr.sure, SS]
  repeat' with_reducible first | intro _ | apply And.intro
  all_goals first | exact c58 _ _ _ | exact c59 _ | (simp [bookCheck, Go, Ends', v14, -List.getD_eq_getElem?_getD, *]; done) | skip
  rename_i h1 h2 h3 h4 h5
  have h6 := (okRooms h4).1
  refine WP.findE (fun i => .l0 i) rfl b.days tDay.zero (fun _ d => dayErr b d) (fun i hi => ?_) fun hI => ?_
  · have hr : inR .i64 ((i : Int) + 1) = true := inR64 (by omega) (by omega)
    refine WP.once ?_
    simp only [T14, Tr.sure, SS, hi]
    repeat' with_reducible first | intro _ | apply And.intro
    all_goals first | exact c60 _ _ h6 | (simp [hr, bookCheck, Go, Ends', v14, -List.getD_eq_getElem?_getD, *]; done) | (simp +contextual [hr, bookCheck, Go, Ends', v14, -List.getD_eq_getElem?_getD, *]; done)
  · refine WP.step ?_
    simp only [T14, Go, Ends', v14, Tr.sure, SS]
    repeat' with_reducible first | intro _ | apply And.intro
    all_goals simp [bookCheck, hI, Go, Ends', v14, -List.getD_eq_getElem?_getD, *]
inductive P62
  | e
inductive R62
  | r0 (r0 : Int)
noncomputable def T62 (b : Book) (n : Int) : P62 → Tr P62 R62
  | .e => let c1 := (b.price.tdiv (2 : Int)) * (n - (n.tdiv (13 : Int))); (.need (decide ((2 : Int) ≠ 0) && inR .i64 (b.price.tdiv (2 : Int))) (.need (decide ((13 : Int) ≠ 0) && inR .i64 (n.tdiv (13 : Int))) (.need (inR .i64 (n - (n.tdiv (13 : Int)))) (.need (inR .i64 c1) (.out (.r0 c1))))))
noncomputable def g62 (b : Book) (n : Int) : P62 → List Item × St
  | .e => bd Tryz.f62 [.agg (cC b), iI n] 11
noncomputable def n62 : R62 → Exit × St
  | .r0 r0 => (.ret, ⟨mk 13 [(4, iI r0)], [], []⟩)
noncomputable def v62 : R62 → V
  | .r0 r0 => iI r0
theorem s62 (b : Book) (n : Int) : Sm 0 (g62 b n) (T62 b n) (n62)
  | .e => ⟨400, by kernel_rfl⟩
theorem q62 : ∀ r, bodyQ Tryz.prog Tryz.f62 (· = v62 r) (n62 r).1 (n62 r).2
  | .r0 r0 => bq (iI r0) (by kernel_rfl)
theorem w62 (b : Book) (n : Int) {post : V → Prop} (h : WQ (T62 b n) v62 post .e) : PC 62 [.agg (cC b), iI n] post :=
  PCalls.wq Tryz.func62 (s62 b n) q62 h
theorem c62 (b : Book) (n : Int) (h : OkBook b) (hn : 0 ≤ n ∧ n ≤ 60) : PC 62 [.agg (tBook.cells b), iI n] (· = iI (feeR b n)) := by
  have hp := half_in h
  have hf := fee_in h hn
  have r1 : inR .i64 (b.price.tdiv 2) = true := inR64 (by omega) (by omega)
  have r2 : inR .i64 (n.tdiv 13) = true := inR64 (by omega) (by omega)
  have r3 : inR .i64 (n - n.tdiv 13) = true := inR64 (by omega) (by omega)
  have r4 : inR .i64 (b.price.tdiv 2 * (n - n.tdiv 13)) = true := by have := hf.1; have := hf.2.1; unfold feeR at *; exact inR64 (by omega) (by omega)
  clear hp hf
  refine w62 b n (WP.step ?_)
  simp only [T62, Go, Ends', v62, Tr.sure, SS]
  repeat' with_reducible first | intro _ | apply And.intro
  all_goals simp [r1, r2, r3, r4, feeR, Go, Ends', v62, -List.getD_eq_getElem?_getD, *]
inductive P65
  | e
inductive R65
  | r0 (r0 : Int)
noncomputable def T65 (b : Book) (d : Int) : P65 → Tr P65 R65
  | .e => let c1 := (b.days.length : Int) - (1 : Int); let c2 := bookCheck b; (.call 14 [.agg (cC b)] (.tuple [iI (c2.1), iI (c2.2.1), iI (c2.2.2)]) true true (.br (c2.2.2 == (0 : Int)) (.need (inR .i64 c1) (.call 58 [iI d, iI 0, iI c1] (.bool (within d 0 c1)) true true (.br (!(within d 0 c1)) (.out (.r0 4)) (.out (.r0 (c2.2.2)))))) (.lit false (.out (.r0 (c2.2.2))))))
noncomputable def g65 (b : Book) (d : Int) : P65 → List Item × St
  | .e => bd Tryz.f65 [.agg (cC b), iI d] 24
noncomputable def n65 : R65 → Exit × St
  | .r0 r0 => (.ret, ⟨mk 26 [(4, iI r0)], [], []⟩)
noncomputable def v65 : R65 → V
  | .r0 r0 => iI r0
theorem s65 (b : Book) (d : Int) : Sm 0 (g65 b d) (T65 b d) (n65)
  | .e => ⟨400, by kernel_rfl⟩
theorem q65 : ∀ r, bodyQ Tryz.prog Tryz.f65 (· = v65 r) (n65 r).1 (n65 r).2
  | .r0 r0 => bq (iI r0) (by kernel_rfl)
theorem w65 (b : Book) (d : Int) {post : V → Prop} (h : WQ (T65 b d) v65 post .e) : PC 65 [.agg (cC b), iI d] post :=
  PCalls.wq Tryz.func65 (s65 b d) q65 h
theorem c65 (b : Book) (d : Int) : PC 65 [.agg (tBook.cells b), iI d] (· = iI (askedR b d)) := by
  by_cases h : (bookCheck b).2.2 = 0
  · have hd := (okBook h).nd
    have r : inR .i64 ((b.days.length : Int) - 1) = true := inR64 (by omega) (by omega)
    refine w65 b d (WP.step ?_)
    simp only [T65, Go, Ends', v65, Tr.sure, SS]
    repeat' with_reducible first | intro _ | apply And.intro
    all_goals first | exact (c14 _) | exact (c58 _ _ _) | (simp [askedR, r, h, Go, Ends', v65, -List.getD_eq_getElem?_getD, *]; done) | (simp_all [askedR, r, h, Go, Ends', v65, -List.getD_eq_getElem?_getD]; done)
  · refine w65 b d (WP.step ?_)
    simp only [T65, Go, Ends', v65, Tr.sure, SS]
    repeat' with_reducible first | intro _ | apply And.intro
    all_goals first | exact (c14 _) | exact (c58 _ _ _) | (simp [askedR, h, Go, Ends', v65, -List.getD_eq_getElem?_getD, *]; done) | (simp_all [askedR, h, Go, Ends', v65, -List.getD_eq_getElem?_getD]; done)
inductive P44
  | e
  | l0 (x0_5 : Int) (x0_6 : Int)
inductive R44
  | r0 (r0 : Int)
noncomputable def T44 (b : Book) (d : Int) : P44 → Tr P44 R44
  | .e => (.go (.l0 0 0))
  | .l0 x0_5 x0_6 => let c1 := (((b.days.getD (d).toNat tDay.zero).schools).getD (x0_6).toNat tSchool.zero).children; let c2 := x0_6 < (((b.days.getD (d).toNat tDay.zero).schools.length) : Int); let c3 := decide (0 ≤ d) && decide (d < (b.days.length : Int)); (.need c3 (.br (decide c2) (.front [(12, 62, [.agg (cC b), iI c1], iI (feeR b c1))] [] ((c3 && ((decide (0 ≤ x0_6) && decide c2) && ((inR .i64 (x0_5 + (feeR b c1))) && true))) && true) true (.need (inR .i64 (x0_6 + (1 : Int))) (.go (.l0 (x0_5 + (feeR b c1)) (x0_6 + (1 : Int)))))) (.out (.r0 x0_5))))
noncomputable def g44 (b : Book) (d : Int) : P44 → List Item × St
  | .e => bd Tryz.f44 [.agg (cC b), iI d] 31
  | .l0 x0_5 x0_6 => (cutOf Tryz.f44 0, ⟨mk 33 [(1, iI d), (2, .ref 0 0 0), (5, iI x0_5), (6, iI x0_6)], [.cells (cC b)], []⟩)
noncomputable def n44 : R44 → Exit × St
  | .r0 r0 => (.ret, ⟨mk 33 [(4, iI r0)], [], []⟩)
noncomputable def v44 : R44 → V
  | .r0 r0 => iI r0
theorem s44 (b : Book) (d : Int) : Sm 0 (g44 b d) (T44 b d) (n44)
  | .e => ⟨400, by kernel_rfl⟩
  | .l0 _ _ => ⟨400, by kernel_rfl⟩
theorem q44 : ∀ r, bodyQ Tryz.prog Tryz.f44 (· = v44 r) (n44 r).1 (n44 r).2
  | .r0 r0 => bq (iI r0) (by kernel_rfl)
theorem w44 (b : Book) (d : Int) {post : V → Prop} (h : WQ (T44 b d) v44 post .e) : PC 44 [.agg (cC b), iI d] post :=
  PCalls.wq Tryz.func44 (s44 b d) q44 h
theorem c44 (b : Book) (d : Int) (h : OkBook b) (hd : 0 ≤ d ∧ d < b.days.length) : PC 44 [.agg (tBook.cells b), iI d] (· = iI (feesD b d)) := by
  have hday := h.day _ (getD_mem zDay b.days d.toNat (by omega))
  have hns := hday.ns
  unfold feesD feesR dayOf
  refine w44 b d (WP.step ?_)
  simp only [T44, Go, Ends', v44, Tr.sure, SS]
  repeat' with_reducible first | intro _ | apply And.intro
  generalize hD : b.days.getD d.toNat zDay = D at *
  refine WP.run (fun i => .l0 (feesTo b D.schools i) i) rfl D.schools.length (fun i hi => ?_) ?_
  · have hin := fees_in h hday.school i (by omega)
    have hs := hday.school _ (getD_mem zSchool D.schools i hi)
    have hf := fee_in h (n := (D.schools.getD i zSchool).children) (by omega)
    have hc := c62 b (D.schools.getD i zSchool).children h (by omega)
    have hi' : (i : Int) < D.schools.length := by omega
    have r1 : inR .i64 (feesTo b D.schools i + feeR b (D.schools.getD i zSchool).children) = true := inR64 (by omega) (by omega)
    have r2 : inR .i64 ((i : Int) + 1) = true := inR64 (by omega) (by omega)
    rw [fees_next]
    refine WP.once ?_
    simp only [T44, Tr.sure, SS, hi', hi, z3, z8, hD]
    repeat' with_reducible first | intro _ | apply And.intro
    all_goals first | exact hc | (simp [r1, r2, hd, Go, Ends', v44, -List.getD_eq_getElem?_getD, *]; done)
  · refine WP.step ?_
    simp only [T44, Go, Ends', v44, Tr.sure, SS, z8, hD, Int.lt_irrefl]
    repeat' with_reducible first | intro _ | apply And.intro
    all_goals simp [hd, Go, Ends', v44, -List.getD_eq_getElem?_getD, *]
inductive P66
  | e
  | l0 (x0_5 : Int) (x0_6 : Int)
inductive R66
  | r0 (r0 : Int)
noncomputable def T66 (b : Book) (d : Int) : P66 → Tr P66 R66
  | .e => (.go (.l0 0 0))
  | .l0 x0_5 x0_6 => let c1 := x0_5 + (((b.days.getD (d).toNat tDay.zero).schools).getD (x0_6).toNat tSchool.zero).children; let c2 := x0_6 < (((b.days.getD (d).toNat tDay.zero).schools.length) : Int); let c3 := decide (0 ≤ d) && decide (d < (b.days.length : Int)); (.need c3 (.br (decide c2) (.need c3 (.need (decide (0 ≤ x0_6) && decide c2) (.need (inR .i64 c1) (.need (inR .i64 (x0_6 + (1 : Int))) (.go (.l0 c1 (x0_6 + (1 : Int)))))))) (.out (.r0 x0_5))))
noncomputable def g66 (b : Book) (d : Int) : P66 → List Item × St
  | .e => bd Tryz.f66 [.agg (cC b), iI d] 29
  | .l0 x0_5 x0_6 => (cutOf Tryz.f66 0, ⟨mk 31 [(1, iI d), (2, .ref 0 0 0), (5, iI x0_5), (6, iI x0_6)], [.cells (cC b)], []⟩)
noncomputable def n66 : R66 → Exit × St
  | .r0 r0 => (.ret, ⟨mk 31 [(4, iI r0)], [], []⟩)
noncomputable def v66 : R66 → V
  | .r0 r0 => iI r0
theorem s66 (b : Book) (d : Int) : Sm 0 (g66 b d) (T66 b d) (n66)
  | .e => ⟨400, by kernel_rfl⟩
  | .l0 _ _ => ⟨400, by kernel_rfl⟩
theorem q66 : ∀ r, bodyQ Tryz.prog Tryz.f66 (· = v66 r) (n66 r).1 (n66 r).2
  | .r0 r0 => bq (iI r0) (by kernel_rfl)
theorem w66 (b : Book) (d : Int) {post : V → Prop} (h : WQ (T66 b d) v66 post .e) : PC 66 [.agg (cC b), iI d] post :=
  PCalls.wq Tryz.func66 (s66 b d) q66 h
theorem c66 (b : Book) (d : Int) (h : OkBook b) (hd : 0 ≤ d ∧ d < b.days.length) : PC 66 [.agg (tBook.cells b), iI d] (· = iI (pupilsD b d)) := by
  have hday := h.day _ (getD_mem zDay b.days d.toNat (by omega))
  have hns := hday.ns
  unfold pupilsD pupilsR dayOf
  refine w66 b d (WP.step ?_)
  simp only [T66, Go, Ends', v66, Tr.sure, SS]
  repeat' with_reducible first | intro _ | apply And.intro
  generalize hD : b.days.getD d.toNat zDay = D at *
  refine WP.run (fun i => .l0 (sumS D.schools i) i) rfl D.schools.length (fun i hi => ?_) ?_
  · have hin := sum_in hday.school i (by omega)
    have hs := hday.school _ (getD_mem zSchool D.schools i hi)
    have hi' : (i : Int) < D.schools.length := by omega
    have r1 : inR .i64 (sumS D.schools i + (D.schools.getD i zSchool).children) = true := inR64 (by omega) (by omega)
    have r2 : inR .i64 ((i : Int) + 1) = true := inR64 (by omega) (by omega)
    rw [sumS_next]
    refine WP.once ?_
    simp only [T66, Tr.sure, SS, hi', hi, z3, z8, hD]
    repeat' with_reducible first | intro _ | apply And.intro
    all_goals simp [r1, r2, hd, Go, Ends', v66, -List.getD_eq_getElem?_getD, *]
  · refine WP.step ?_
    simp only [T66, Go, Ends', v66, Tr.sure, SS, z8, hD, Int.lt_irrefl]
    repeat' with_reducible first | intro _ | apply And.intro
    all_goals simp [hd, Go, Ends', v66, -List.getD_eq_getElem?_getD, *]
inductive P45
  | e
  | l0 (x0_5 : Int) (x0_6 : Int)
inductive R45
  | r0 (r0 : Int)
noncomputable def T45 (b : Book) (r : List Int) : P45 → Tr P45 R45
  | .e => (.go (.l0 0 0))
  | .l0 x0_5 x0_6 => let c1 := (r.getD (x0_6).toNat tint.zero) * (b.rooms.getD (x0_6).toNat tRoom.zero).more; (.br (decide (x0_6 < (r.length : Int))) (.front [] [] (((decide (0 ≤ x0_6) && decide (x0_6 < (r.length : Int))) && ((decide (0 ≤ x0_6) && decide (x0_6 < (b.rooms.length : Int))) && ((inR .i64 c1) && ((inR .i64 (x0_5 + c1)) && true)))) && true) true (.need (inR .i64 (x0_6 + (1 : Int))) (.go (.l0 (x0_5 + c1) (x0_6 + (1 : Int)))))) (.out (.r0 x0_5)))
noncomputable def g45 (b : Book) (r : List Int) : P45 → List Item × St
  | .e => bd Tryz.f45 [.agg (cC b), tint.lst r] 25
  | .l0 x0_5 x0_6 => (cutOf Tryz.f45 0, ⟨mk 27 [(1, tint.lst r), (2, .ref 0 0 0), (5, iI x0_5), (6, iI x0_6)], [.cells (cC b)], []⟩)
noncomputable def n45 : R45 → Exit × St
  | .r0 r0 => (.ret, ⟨mk 27 [(4, iI r0)], [], []⟩)
noncomputable def v45 : R45 → V
  | .r0 r0 => iI r0
theorem s45 (b : Book) (r : List Int) : Sm 0 (g45 b r) (T45 b r) (n45)
  | .e => ⟨400, by kernel_rfl⟩
  | .l0 _ _ => ⟨400, by kernel_rfl⟩
theorem q45 : ∀ r, bodyQ Tryz.prog Tryz.f45 (· = v45 r) (n45 r).1 (n45 r).2
  | .r0 r0 => bq (iI r0) (by kernel_rfl)
theorem w45 (b : Book) (r : List Int) {post : V → Prop} (h : WQ (T45 b r) v45 post .e) : PC 45 [.agg (cC b), tint.lst r] post :=
  PCalls.wq Tryz.func45 (s45 b r) q45 h
theorem c45 (b : Book) (r : List Int) (h : OkBook b) (hr : ∀ n ∈ r, 0 ≤ n ∧ n ≤ 100000) (hl : r.length ≤ b.rooms.length) : PC 45 [.agg (tBook.cells b), tint.lst r] (· = iI (extraR b r)) := by
  have h3 := h.nr
  refine w45 b r (WP.step ?_)
  simp only [T45, Go, Ends', v45, Tr.sure, SS]
  repeat' with_reducible first | intro _ | apply And.intro
  refine WP.run (fun i => .l0 (extraTo b r i) i) rfl r.length (fun i hi => ?_) ?_
  · have hin := extra_in h hr hl i (by omega)
    have hs := hin.2.2 hi
    have hi' : (i : Int) < r.length := by omega
    have hb' : (i : Int) < b.rooms.length := by omega
    have r0 : inR .i64 (r.getD i 0 * (b.rooms.getD i zRoom).more) = true := inR64 (by omega) (by omega)
    have r1 : inR .i64 (extraTo b r i + r.getD i 0 * (b.rooms.getD i zRoom).more) = true := inR64 (by omega) (by omega)
    have r2 : inR .i64 ((i : Int) + 1) = true := inR64 (by omega) (by omega)
    rw [extra_next]
    refine WP.once ?_
    simp only [T45, Tr.sure, SS, hi', hb', hi, z1, z2]
    repeat' with_reducible first | intro _ | apply And.intro
    all_goals simp [r0, r1, r2, Go, Ends', v45, -List.getD_eq_getElem?_getD, *]
  · refine WP.step ?_
    simp only [T45, Go, Ends', v45, Tr.sure, SS, Int.lt_irrefl]
    repeat' with_reducible first | intro _ | apply And.intro
    all_goals simp [extraR, Go, Ends', v45, -List.getD_eq_getElem?_getD, *]
end
noncomputable section
inductive P71
  | e
inductive R71
  | r0 (r0_0 : Int) (r0_1 : Int)
noncomputable def T71 (c : Count) (most : Int) (off : Bool) : P71 → Tr P71 R71
  | .e => (.br off (.out (.r0 0 most)) (.need (inR .i64 (c.seen + c.miss)) (.out (.r0 c.seen (min most (c.seen + c.miss))))))
noncomputable def g71 (c : Count) (most : Int) (off : Bool) : P71 → List Item × St
  | .e => bd Tryz.f71 [.agg [iI c.seen, iI c.miss], iI most, .bool off] 17
noncomputable def n71 : R71 → Exit × St
  | .r0 r0_0 r0_1 => (.ret, ⟨mk 20 [(6, .ref 1 0 0)], [.gone, .cells [iI r0_0, iI r0_1]], []⟩)
noncomputable def v71 : R71 → V
  | .r0 r0_0 r0_1 => .agg [iI r0_0, iI r0_1]
theorem s71 (c : Count) (most : Int) (off : Bool) : Sm 0 (g71 c most off) (T71 c most off) (n71)
  | .e => ⟨400, by kernel_rfl⟩
theorem q71 : ∀ r, bodyQ Tryz.prog Tryz.f71 (· = v71 r) (n71 r).1 (n71 r).2
  | .r0 r0_0 r0_1 => bq (.agg [iI r0_0, iI r0_1]) (by kernel_rfl)
theorem w71 (c : Count) (most : Int) (off : Bool) {post : V → Prop} (h : WQ (T71 c most off) v71 post .e) : PC 71 [.agg [iI c.seen, iI c.miss], iI most, .bool off] post :=
  PCalls.wq Tryz.func71 (s71 c most off) q71 h
theorem c71 (c : Count) (most : Int) (off : Bool) (h : (0 ≤ c.seen ∧ c.seen ≤ 60) ∧ 0 ≤ c.miss ∧ c.miss ≤ 1000) : PC 71 [.agg (tCount.cells c), iI most, .bool off] (· = .agg (tSpan.cells (between c most off))) := by
  have r : inR .i64 (c.seen + c.miss) = true := inR64 (by omega) (by omega)
  cases off with
  | true =>
    refine w71 c most true (WP.step ?_)
    simp only [T71, Go, Ends', v71, Tr.sure, SS]
    repeat' with_reducible first | intro _ | apply And.intro
    all_goals simp [r, between, tSpan, Go, Ends', v71, -List.getD_eq_getElem?_getD, *]
  | false =>
    refine w71 c most false (WP.step ?_)
    simp only [T71, Go, Ends', v71, Tr.sure, SS]
    repeat' with_reducible first | intro _ | apply And.intro
    all_goals simp [r, between, tSpan, Go, Ends', v71, -List.getD_eq_getElem?_getD, *]
theorem VLe.litNil {τ : Type} {E : Ty τ} : VLe (.list 1 1 (litC 1 1 [.nils])) ((tlist E).lst ([[]] : List (List τ))) := fun G β x hx => by
  cases hx with
  | list hG hs hc hn h =>
    refine .list hG hs hc hn fun i j hi hj => ?_
    have hj0 : j = 0 := by have : j < 1 := hj; omega
    have hi0 : i = 0 := by have : i < 1 := hi; omega
    subst hj0; subst hi0
    exact VLe.nils _ _ _ (h 0 0 (by omega) (by omega))
theorem app1_int (l : List Int) (n : Int) : VLe (.list 1 (0 + l.length + 1) (appC (0 + l.length) (appC 0 (litC 1 0 []) (rowsOf tint l)) (litC 1 1 [iI n]))) (tint.lst (l ++ [n])) := by
  have e : appC (0 + l.length) (appC 0 (litC 1 0 []) (rowsOf tint l)) (litC 1 1 [iI n]) = fun r j => if r < l.length then rowsOf tint l r j else litC 1 1 [iI n] (r - l.length) j := by
    funext r j; unfold appC; simp
  rw [e]
  show VLe _ (.list 1 (l ++ [n]).length (rowsOf tint (l ++ [n])))
  rw [show (l ++ [n]).length = 0 + l.length + 1 by simp]
  refine VLe.list fun r j hr hj => ?_
  obtain rfl : j = 0 := by omega
  by_cases h : r < l.length
  · rw [if_pos h]; simp [rowsOf, List.getD_eq_getElem?_getD, List.getElem?_append_left h]; try exact VLe.refl _
  · rw [if_neg h]
    have e : r = l.length := by omega
    subst e
    simp only [rowsOf, litC, List.getD_eq_getElem?_getD, tint, Nat.sub_self]
    simp
    try exact VLe.refl _
inductive P72
  | e
  | l0 (x0_9 : List (List Int)) (x0_10 : Int)
  | l1 (x0_9 : List (List Int)) (x0_10 : Int) (x1_13 : Int) (a1_2 : List (List Int))
  | l2 (x0_9 : List (List Int)) (x0_10 : Int) (x1_13 : Int) (x2_14 : Int) (a2_2 : List (List Int))
inductive R72
  | r0 (r0 : List (List Int))
noncomputable def T72 (b : Book) (d : Int) (all : Int) (off : List Int) : P72 → Tr P72 R72
  | .e => let c1 := ([[]] : List (List Int)); let c2 : V := .list 1 1 (litC 1 1 [.nils]); (.wait 8 (.frz 1 ((decide (1 ≤ 1)) && ((decide (1 ≤ 1)) && true)) (.vle 9 c2 ((tlist tint).lst c1) (.vle 15 c2 ((tlist tint).lst c1) (.go (.l0 c1 0))))))
  | .l0 x0_9 x0_10 => let c1 := ((b.days.getD (d).toNat tDay.zero).rooms).getD (x0_10).toNat tCount.zero; let c2 := min all ((b.rooms.getD (x0_10).toNat tRoom.zero).full); let c3 := hasN off x0_10; let c4 := x0_10 < (b.rooms.length : Int); (.br (decide c4) (.front [(19, 92, [tint.lst off, iI x0_10], .bool c3), (20, 71, [.agg [iI (c1.seen), iI (c1.miss)], iI c2, .bool c3], .agg [iI ((between c1 c2 c3).lo), iI ((between c1 c2 c3).hi)])] [] (((decide (0 ≤ d) && decide (d < (b.days.length : Int))) && ((decide (0 ≤ x0_10) && decide (x0_10 < (((b.days.getD (d).toNat tDay.zero).rooms.length) : Int))) && ((decide (0 ≤ x0_10) && decide c4) && true))) && true) true (.wait 2 (.own 12 40 1 (.go (.l1 x0_9 x0_10 0 ([])))))) (.out (.r0 x0_9)))
  | .l1 x0_9 x0_10 x1_13 a1_2 => let c1 : V := .list 1 a1_2.length (rowsRev (tlist tint) a1_2); let c2 := decide (a1_2.length ≤ a1_2.length); let c3 := (tlist tint).lst a1_2.reverse; (.br (decide (x1_13 < (x0_9.length : Int))) (.go (.l2 x0_9 x0_10 x1_13 ((between (((b.days.getD (d).toNat tDay.zero).rooms).getD (x0_10).toNat tCount.zero) (min all ((b.rooms.getD (x0_10).toNat tRoom.zero).full)) (hasN off x0_10)).lo) a1_2)) (.need (inR .i64 (x0_10 + (1 : Int))) (.frz 2 (c2 && (c2 && (c2 && true))) (.vle 9 c1 c3 (.vle 12 c1 c3 (.vle 70 c1 c3 (.go (.l0 a1_2.reverse (x0_10 + (1 : Int))))))))))
  | .l2 x0_9 x0_10 x1_13 x2_14 a2_2 => let c1 := x0_9.getD (x1_13).toNat (tlist tint).zero; let c2 := (0 + c1.length) + 1; (.br (decide (x2_14 ≤ (between (((b.days.getD (d).toNat tDay.zero).rooms).getD (x0_10).toNat tCount.zero) (min all ((b.rooms.getD (x0_10).toNat tRoom.zero).full)) (hasN off x0_10)).hi)) (.need (decide (0 ≤ x1_13) && decide (x1_13 < (x0_9.length : Int))) (.need ((decide (0 = 0) && decide (0 + c1.length ≤ 4294967296)) && true) (.scal (fun r => (List.range 1).all fun j => ((rowsOf tint c1) r j).scalar) (.need ((decide ((0 + c1.length) = (0 + c1.length)) && decide ((0 + c1.length) + 1 ≤ 4294967296)) && decide (1 ≤ 1)) (.scal (fun _ => true) (.wait 0 (.frz 3 ((decide (c2 ≤ c2)) && true) (.wait 0 (.vle 67 (.list 1 c2 (appC (0 + c1.length) (appC 0 (litC 1 0 []) (rowsOf tint c1)) (litC 1 1 [iI x2_14]))) (tint.lst (c1 ++ [x2_14])) (.need ((decide (a2_2.length = a2_2.length) && decide (a2_2.length + 1 ≤ 4294967296)) && decide (1 ≤ 1)) (.scal (fun _ => true) (.need (inR .i64 (x2_14 + (1 : Int))) (.go (.l2 x0_9 x0_10 x1_13 (x2_14 + (1 : Int)) ((c1 ++ [x2_14]) :: a2_2))))))))))))))) (.need (inR .i64 (x1_13 + (1 : Int))) (.go (.l1 x0_9 x0_10 (x1_13 + (1 : Int)) a2_2))))
noncomputable def g72 (b : Book) (d : Int) (all : Int) (off : List Int) : P72 → List Item × St
  | .e => bd Tryz.f72 [.agg (cC b), iI d, iI all, tint.lst off] 68
  | .l0 x0_9 x0_10 => (cutOf Tryz.f72 0, ⟨mk 72 [(1, iI d), (2, iI all), (3, tint.lst off), (4, .ref 0 0 0), (9, (tlist tint).lst x0_9), (10, iI x0_10)], [.cells (cC b)], []⟩)
  | .l1 x0_9 x0_10 x1_13 a1_2 => (cutOf Tryz.f72 1, ⟨mk 72 [(1, iI d), (2, iI all), (3, tint.lst off), (4, .ref 0 0 0), (9, (tlist tint).lst x0_9), (10, iI x0_10), (11, .ref 1 0 0), (12, .row 2 a1_2.length), (13, iI x1_13)], [.cells (cC b), .cells [iI ((between (((b.days.getD (d).toNat tDay.zero).rooms).getD (x0_10).toNat tCount.zero) (min all ((b.rooms.getD (x0_10).toNat tRoom.zero).full)) (hasN off x0_10)).lo), iI ((between (((b.days.getD (d).toNat tDay.zero).rooms).getD (x0_10).toNat tCount.zero) (min all ((b.rooms.getD (x0_10).toNat tRoom.zero).full)) (hasN off x0_10)).hi)], .rows 40 1 a1_2.length (rowsRev (tlist tint) a1_2)], []⟩)
  | .l2 x0_9 x0_10 x1_13 x2_14 a2_2 => (cutOf Tryz.f72 2, ⟨mk 72 [(1, iI d), (2, iI all), (3, tint.lst off), (4, .ref 0 0 0), (9, (tlist tint).lst x0_9), (10, iI x0_10), (11, .ref 1 0 0), (12, .row 2 a2_2.length), (13, iI x1_13), (14, iI x2_14)], [.cells (cC b), .cells [iI ((between (((b.days.getD (d).toNat tDay.zero).rooms).getD (x0_10).toNat tCount.zero) (min all ((b.rooms.getD (x0_10).toNat tRoom.zero).full)) (hasN off x0_10)).lo), iI ((between (((b.days.getD (d).toNat tDay.zero).rooms).getD (x0_10).toNat tCount.zero) (min all ((b.rooms.getD (x0_10).toNat tRoom.zero).full)) (hasN off x0_10)).hi)], .rows 40 1 a2_2.length (rowsRev (tlist tint) a2_2)], []⟩)
noncomputable def n72 : R72 → Exit × St
  | .r0 r0 => (.ret, ⟨mk 72 [(8, (tlist tint).lst r0)], [], []⟩)
noncomputable def v72 : R72 → V
  | .r0 r0 => (tlist tint).lst r0
theorem s72 (b : Book) (d : Int) (all : Int) (off : List Int) : Sm 0 (g72 b d all off) (T72 b d all off) (n72)
  | .e => ⟨400, by kernel_rfl⟩
  | .l0 _ _ => ⟨400, by kernel_rfl⟩
  | .l1 _ _ _ _ => ⟨400, by kernel_rfl⟩
  | .l2 _ _ _ _ _ => ⟨400, by kernel_rfl⟩
theorem q72 : ∀ r, bodyQ Tryz.prog Tryz.f72 (· = v72 r) (n72 r).1 (n72 r).2
  | .r0 r0 => bq ((tlist tint).lst r0) (by kernel_rfl)
theorem w72 (b : Book) (d : Int) (all : Int) (off : List Int) {post : V → Prop} (h : WQ (T72 b d all off) v72 post .e) : PC 72 [.agg (cC b), iI d, iI all, tint.lst off] post :=
  PCalls.wq Tryz.func72 (s72 b d all off) q72 h
theorem c72 (b : Book) (d all : Int) (off : List Int) (h : OkBook b) (hd : 0 ≤ d ∧ d < b.days.length) (ha : 0 ≤ all ∧ all ≤ 60) : PC 72 [.agg (tBook.cells b), iI d, iI all, tint.lst off] (· = (tlist tint).lst (inRoomsR b d all off)) := by
  have hday := h.day _ (getD_mem zDay b.days d.toNat (by omega))
  have h3 := h.nr
  have hmany := hday.many
  unfold inRoomsR dayOf
  refine w72 b d all off (WP.step ?_)
  simp only [T72, Go, Ends', v72, Tr.sure, SS]
  repeat' with_reducible first | intro _ | apply And.intro
  all_goals first | exact VLe.litNil | (simp [Go, Ends', v72, -List.getD_eq_getElem?_getD, *]; done) | skip
  generalize hD : b.days.getD d.toNat zDay = D at *
  refine WP.run (fun i => .l0 (roomsN b D all off i) i) rfl b.rooms.length (fun i hi => ?_) ?_
  · have hr : inR .i64 ((i : Int) + 1) = true := inR64 (by omega) (by omega)
    have hsm := rooms_small h hday all off (i := i) (by omega)
    have hrm := hday.room _ (getD_mem zCount D.rooms i (by omega))
    have k71 := c71 (D.rooms.getD i zCount) (min all (b.rooms.getD i zRoom).full) (hasN off (i : Int)) hrm
    have hi1 : (i : Int) < b.rooms.length := by omega
    have hi2 : (i : Int) < D.rooms.length := by omega
    have hsp := spanAt_in h hday all off hi
    have hspe : between (D.rooms.getD i zCount) (min all (b.rooms.getD i zRoom).full) (hasN off (i : Int)) = spanAt b D all off i := rfl
    have hgl := growL_len (s := spanAt b D all off i) ⟨hsp.1, hsp.2.2⟩
    refine WP.step ?_
    simp only [T72, Go, Ends', v72, Tr.sure, SS, hi1, hd, z8, z5, z2, hD]
    repeat' with_reducible first | intro _ | apply And.intro
    all_goals first | exact (c92 _ _) | exact k71 | (simp [hd, hi1, hi2, Go, Ends', v72, -List.getD_eq_getElem?_getD, *]; done) | skip
    refine WP.run (fun k => .l1 (roomsN b D all off i) i k ((((roomsN b D all off i).take k).flatMap (growL (spanAt b D all off i))).reverse)) rfl (roomsN b D all off i).length (fun k hk => ?_) ?_
    · have hr' : inR .i64 ((k : Int) + 1) = true := inR64 (by omega) (by omega)
      have hL0 := roomsN_in h hday all off i (by omega) _ (getD_mem [] (roomsN b D all off i) k hk)
      have hft := flat_take (growL (spanAt b D all off i)) [] (roomsN b D all off i) k hk
      have hal := flat_le (l := (roomsN b D all off i).take k) (f := growL (spanAt b D all off i)) (b := 61) fun x _ => hgl x
      simp only [List.length_take] at hal
      generalize hacc : (((roomsN b D all off i).take k).flatMap (growL (spanAt b D all off i))).reverse = acc at *
      have hacl : acc.length ≤ 20000000 := by rw [← hacc, List.length_reverse]; omega
      have hk1 : (k : Int) < (roomsN b D all off i).length := by omega
      refine WP.step ?_
      simp only [T72, Go, Ends', v72, Tr.sure, SS, hk1, z8, z5, z2, hD, hspe]
      repeat' with_reducible first | intro _ | apply And.intro
      generalize hL : (roomsN b D all off i).getD k [] = L at *
      generalize hS : spanAt b D all off i = S at *
      have hLl : L.length ≤ 3 := by omega
      refine WP.run (fun j => .l2 (roomsN b D all off i) i k (S.lo + (j : Int)) (((List.range j).map fun (q : Nat) => L ++ [S.lo + (q : Int)]).reverse ++ acc)) (by simp) (S.hi + 1 - S.lo).toNat (fun j hj => ?_) ?_
      · have hle : S.lo + (j : Int) ≤ S.hi := by omega
        have hr2 : inR .i64 (S.lo + (j : Int) + 1) = true := inR64 (by omega) (by omega)
        have hcast : S.lo + ((j + 1 : Nat) : Int) = S.lo + (j : Int) + 1 := by omega
        have hlen : (((List.range j).map fun (q : Nat) => L ++ [S.lo + (q : Int)]).reverse ++ acc).length + 1 ≤ 4294967296 := by simp only [List.length_append, List.length_reverse, List.length_map, List.length_range]; omega
        have hnx : ((List.range (j + 1)).map fun (q : Nat) => L ++ [S.lo + (q : Int)]).reverse ++ acc = (L ++ [S.lo + (j : Int)]) :: (((List.range j).map fun (q : Nat) => L ++ [S.lo + (q : Int)]).reverse ++ acc) := by rw [List.range_succ]; simp
        rw [hcast, hnx]
        generalize ((List.range j).map fun (q : Nat) => L ++ [S.lo + (q : Int)]).reverse ++ acc = B at *
        have hl1 : 0 + L.length ≤ 4294967296 := by omega
        have hl2 : 0 + L.length + 1 ≤ 4294967296 := by omega
        refine WP.once ?_
        simp only [T72, Tr.sure, SS, hk1, z8, z5, z2, z6, hD, hspe, hS, hL, hle]
        repeat' with_reducible first | intro _ | apply And.intro
        all_goals first | exact (by with_reducible exact app1_int _ _) | exact (by with_reducible exact scal_int _ _) | (simp [hr2, hlen, hl1, hl2, Go, Ends', v72, -List.getD_eq_getElem?_getD, *]; done) | (simp_all [hr2, hlen, hl1, hl2, Go, Ends', v72, -List.getD_eq_getElem?_getD]; done)
      · have hno : ¬ S.lo + ((S.hi + 1 - S.lo).toNat : Int) ≤ S.hi := by omega
        have hg : (growL S L).reverse = ((List.range (S.hi + 1 - S.lo).toNat).map fun (q : Nat) => L ++ [S.lo + (q : Int)]).reverse := by simp [growL, rangeI, List.map_map]; try rfl
        rw [hft, hg]
        refine WP.once ?_
        simp only [T72, Tr.sure, SS, hk1, z8, z5, z2, hD, hspe, hS, hno]
        repeat' with_reducible first | intro _ | apply And.intro
        all_goals simp [hr', Go, Ends', v72, -List.getD_eq_getElem?_getD, *]
    · have he : (((roomsN b D all off i).take (roomsN b D all off i).length).flatMap (growL (spanAt b D all off i))).reverse.reverse = roomsN b D all off (i + 1) := by rw [List.take_length, List.reverse_reverse]; rfl
      refine WP.once ?_
      simp only [T72, Tr.sure, SS, Int.lt_irrefl]
      repeat' with_reducible first | intro _ | apply And.intro
      all_goals first | exact VLe.rev (tlist tint) _ | (simp [hr, he, Go, Ends', v72, -List.getD_eq_getElem?_getD, *]; done) | (simp_all [hr, he, Go, Ends', v72, -List.getD_eq_getElem?_getD]; done)
  · refine WP.step ?_
    simp only [T72, Go, Ends', v72, Tr.sure, SS, Int.lt_irrefl]
    repeat' with_reducible first | intro _ | apply And.intro
end
noncomputable section
theorem key_len (t : Truth) : (keyR t).length = t.rooms.length + 2 := by simp [keyR]
def agreeR (b : Book) (d : Int) (_ : List Int) : List Truth := agreeD b d
inductive P109
  | e
  | l0 (x0_11 : Int) (a0_2 : List Truth)
  | l1 (x0_11 : Int) (x1_13 : Int) (a1_2 : List Truth)
  | l2 (x0_11 : Int) (x1_13 : Int) (x2_14 : Int) (a2_2 : List Truth)
inductive R109
  | r0 (r0 : List Truth)
noncomputable def T109 (b : Book) (d : Int) (off : List Int) : P109 → Tr P109 R109
  | .e => let c2 := b.days.getD (d).toNat tDay.zero; let c1 := between (c2.door) 60 (hasN off (-1)); (.front [(2, 66, [.agg (cC b), iI d], iI (pupilsD b d))] [] (((decide ((2 : Int) ≠ 0) && inR .i64 (b.price.tdiv (2 : Int))) && true) && true) true (.front [(7, 92, [tint.lst off, iI (-1)], .bool (hasN off (-1))), (8, 71, [.agg [iI (c2.door.seen), iI (c2.door.miss)], iI 60, .bool (hasN off (-1))], .agg [iI (c1.lo), iI (c1.hi)])] [] (((decide (0 ≤ d) && decide (d < (b.days.length : Int))) && true) && true) true (.wait 2 (.own 10 42 3 (.go (.l0 (max (c1.lo) (pupilsD b d)) ([])))))))
  | .l0 x0_11 a0_2 => (.br (decide (x0_11 ≤ (between ((b.days.getD (d).toNat tDay.zero).door) 60 (hasN off (-1))).hi)) (.call 72 [.agg (cC b), iI d, iI x0_11, tint.lst off] ((tlist tint).lst (inRoomsR b d x0_11 off)) true true (.go (.l1 x0_11 0 a0_2))) (.out (.r0 a0_2)))
  | .l1 x0_11 x1_13 a1_2 => let c2 := b.price.tdiv (2 : Int); let c3 := (inRoomsR b d x0_11 off).getD (x1_13).toNat (tlist tint).zero; let c4 : Tr P109 R109 := .need (inR .i64 (x1_13 + (1 : Int))) (.go (.l1 x0_11 (x1_13 + (1 : Int)) a1_2)); let c5 := x0_11 - (pupilsD b d); let c6 := x1_13 < (((inRoomsR b d x0_11 off).length) : Int); let c8 := (b.days.getD (d).toNat tDay.zero).taken - (feesD b d); let c1 := (c8 - (extraR b c3)) - (c2 * c5); let c9 := decide (0 ≤ x1_13) && decide c6; let c10 := c1.tdiv c2; let c7 := decide (c2 ≠ 0) && inR .i64 c10; (.br (decide c6) (.call 92 [tint.lst off, iI 3] (.bool (hasN off 3)) true true (.br (hasN off 3) (.go (.l2 x0_11 x1_13 0 a1_2)) (.front [(8, 44, [.agg (cC b), iI d], iI (feesD b d)), (15, 45, [.agg (cC b), tint.lst c3], iI (extraR b c3))] [] (((decide (0 ≤ d) && decide (d < (b.days.length : Int))) && ((inR .i64 c8) && (c9 && ((inR .i64 (c8 - (extraR b c3))) && ((inR .i64 c5) && ((inR .i64 (c2 * c5)) && ((inR .i64 c1) && true))))))) && true) true (.br (decide (c1 ≥ (0 : Int))) (.need (decide (c2 ≠ 0)) (.br ((c1.tmod c2) == (0 : Int)) (.need c7 (.need (inR .i64 c5) (.br (decide (c10 ≤ c5)) (.front [] [] ((c7 && ((inR .i64 c5) && (c7 && ((inR .i64 (c5 - c10)) && (c9 && true))))) && true) true (.need ((decide (a1_2.length = a1_2.length) && decide (a1_2.length + 1 ≤ 4294967296)) && true) (.scal (fun _ => true) (.need (inR .i64 (x1_13 + (1 : Int))) (.go (.l1 x0_11 (x1_13 + (1 : Int)) ((⟨c10, (c5 - c10), c3⟩ : Truth) :: a1_2))))))) c4))) (.lit false c4))) (.lit false (.lit false c4)))))) (.need (inR .i64 (x0_11 + (1 : Int))) (.go (.l0 (x0_11 + (1 : Int)) a1_2))))
  | .l2 x0_11 x1_13 x2_14 a2_2 => let c1 := x0_11 - (pupilsD b d); (.need (inR .i64 c1) (.br (decide (x2_14 ≤ c1)) (.need (inR .i64 c1) (.need (inR .i64 (c1 - x2_14)) (.need (decide (0 ≤ x1_13) && decide (x1_13 < (((inRoomsR b d x0_11 off).length) : Int))) (.need ((decide (a2_2.length = a2_2.length) && decide (a2_2.length + 1 ≤ 4294967296)) && decide (1 ≤ 1)) (.scal (fun _ => true) (.need (inR .i64 (x2_14 + (1 : Int))) (.go (.l2 x0_11 x1_13 (x2_14 + (1 : Int)) ((⟨x2_14, (c1 - x2_14), ((inRoomsR b d x0_11 off).getD (x1_13).toNat (tlist tint).zero)⟩ : Truth) :: a2_2))))))))) (.need (inR .i64 (x1_13 + (1 : Int))) (.go (.l1 x0_11 (x1_13 + (1 : Int)) a2_2)))))
noncomputable def g109 (b : Book) (d : Int) (off : List Int) : P109 → List Item × St
  | .e => bd Tryz.f109 [.agg (cC b), iI d, tint.lst off] 131
  | .l0 x0_11 a0_2 => (cutOf Tryz.f109 0, ⟨mk 134 [(1, iI d), (2, tint.lst off), (3, .ref 0 0 0), (7, iI (pupilsD b d)), (8, iI (b.price.tdiv (2 : Int))), (9, .ref 1 0 0), (10, .row 2 a0_2.length), (11, iI x0_11)], [.cells (cC b), .cells [iI ((between ((b.days.getD (d).toNat tDay.zero).door) 60 (hasN off (-1))).lo), iI ((between ((b.days.getD (d).toNat tDay.zero).door) 60 (hasN off (-1))).hi)], .rows 42 3 a0_2.length (rowsRev tTruth a0_2)], []⟩)
  | .l1 x0_11 x1_13 a1_2 => (cutOf Tryz.f109 1, ⟨mk 134 [(1, iI d), (2, tint.lst off), (3, .ref 0 0 0), (7, iI (pupilsD b d)), (8, iI (b.price.tdiv (2 : Int))), (9, .ref 1 0 0), (10, .row 2 a1_2.length), (11, iI x0_11), (12, (tlist tint).lst (inRoomsR b d x0_11 off)), (13, iI x1_13)], [.cells (cC b), .cells [iI ((between ((b.days.getD (d).toNat tDay.zero).door) 60 (hasN off (-1))).lo), iI ((between ((b.days.getD (d).toNat tDay.zero).door) 60 (hasN off (-1))).hi)], .rows 42 3 a1_2.length (rowsRev tTruth a1_2)], []⟩)
  | .l2 x0_11 x1_13 x2_14 a2_2 => (cutOf Tryz.f109 2, ⟨mk 134 [(1, iI d), (2, tint.lst off), (3, .ref 0 0 0), (7, iI (pupilsD b d)), (8, iI (b.price.tdiv (2 : Int))), (9, .ref 1 0 0), (10, .row 2 a2_2.length), (11, iI x0_11), (12, (tlist tint).lst (inRoomsR b d x0_11 off)), (13, iI x1_13), (14, iI x2_14)], [.cells (cC b), .cells [iI ((between ((b.days.getD (d).toNat tDay.zero).door) 60 (hasN off (-1))).lo), iI ((between ((b.days.getD (d).toNat tDay.zero).door) 60 (hasN off (-1))).hi)], .rows 42 3 a2_2.length (rowsRev tTruth a2_2)], []⟩)
noncomputable def n109 : R109 → Exit × St
  | .r0 r0 => (.ret, ⟨mk 134 [(6, .row 2 r0.length)], [.gone, .gone, .rows 42 3 r0.length (rowsRev tTruth r0)], []⟩)
noncomputable def v109 : R109 → V
  | .r0 r0 => tTruth.lst r0.reverse
theorem s109 (b : Book) (d : Int) (off : List Int) : Sm 0 (g109 b d off) (T109 b d off) (n109)
  | .e => ⟨400, by kernel_rfl⟩
  | .l0 _ _ => ⟨400, by kernel_rfl⟩
  | .l1 _ _ _ => ⟨400, by kernel_rfl⟩
  | .l2 _ _ _ _ => ⟨400, by kernel_rfl⟩
theorem q109 : ∀ r, bodyQ Tryz.prog Tryz.f109 (· = v109 r) (n109 r).1 (n109 r).2
  | .r0 r0 => ⟨.inr rfl, by simp [n109], (.row 2 r0.length), (tTruth.lst r0.reverse), by kernel_rfl, (.weak (.row rfl (Nat.le_refl _)) (VLe.rev tTruth r0)), rfl⟩
theorem w109 (b : Book) (d : Int) (off : List Int) {post : V → Prop} (h : WQ (T109 b d off) v109 post .e) : PC 109 [.agg (cC b), iI d, tint.lst off] post :=
  PCalls.wq Tryz.func109 (s109 b d off) q109 h
theorem c109 (b : Book) (d : Int) (h : OkBook b) (hd : 0 ≤ d ∧ d < b.days.length) : PC 109 [.agg (tBook.cells b), iI d, tint.lst []] (· = tTruth.lst (agreeR b d [])) := by
  have hday : OkDay b (dayOf b d) := h.day _ (getD_mem zDay b.days d.toNat (by omega))
  have hp := half_in h
  have r0 : inR .i64 (b.price.tdiv 2) = true := inR64 (by omega) (by omega)
  have k66 := c66 b d h hd
  have k44 := c44 b d h hd
  have k71 := c71 (dayOf b d).door 60 false hday.door
  have hpu := pupils_in hday
  have hfe := feesD_in h hday
  have hta := hday.taken
  have hdo := doorS_in hday
  have e1 : ∀ n, hasN [] n = false := fun _ => rfl
  have e2 : between (dayOf b d).door 60 false = doorS b d := rfl
  have e3 : b.days.getD d.toNat zDay = dayOf b d := rfl
  have k92 := fun n => c92 [] n
  simp only [e1] at k92
  have hne : b.price.tdiv 2 ≠ 0 := by omega
  have hmain : WP Tryz.prog ⟨none, 0⟩ (T109 b d []) (Ends' fun r => v109 r = tTruth.lst (agreeR b d [])) (.l0 (firstN b d) []) := by
    refine WP.run (fun i => .l0 (firstN b d + (i : Int)) (((rangeI (firstN b d) (doorS b d).hi).take i).flatMap (agreeN b d)).reverse) (by simp) (rangeI (firstN b d) (doorS b d).hi).length (fun i hi => ?_) ?_
    · have hft := flat_take (agreeN b d) 0 (rangeI (firstN b d) (doorS b d).hi) i hi
      rw [rangeI_get hi] at hft
      rw [rangeI_len] at hi
      have hal := flat_le (l := (rangeI (firstN b d) (doorS b d).hi).take i) (f := agreeN b d) (b := 226981) fun n _ => agreeN_len h hday n
      have hi61 : i ≤ 61 := by unfold firstN at hi; omega
      have hal2 : (((rangeI (firstN b d) (doorS b d).hi).take i).flatMap (agreeN b d)).length ≤ 14000000 := by rw [List.length_take] at hal; omega
      rw [hft]
      generalize hacc : (((rangeI (firstN b d) (doorS b d).hi).take i).flatMap (agreeN b d)).reverse = acc
      have hacl : acc.length ≤ 14000000 := by rw [← hacc, List.length_reverse]; exact hal2
      have hcast : firstN b d + ((i + 1 : Nat) : Int) = firstN b d + (i : Int) + 1 := by omega
      rw [hcast]
      have hn0 : pupilsD b d ≤ firstN b d := by unfold firstN; omega
      generalize hn : firstN b d + (i : Int) = n at *
      have hnle : n ≤ (doorS b d).hi := by omega
      have hn60 : 0 ≤ n ∧ n ≤ 60 := by omega
      have hown : 0 ≤ n - pupilsD b d ∧ n - pupilsD b d ≤ 60 := by omega
      have k72 := c72 b d n [] h hd hn60
      have hrn : inR .i64 (n + 1) = true := inR64 (by omega) (by omega)
      have hrl := inRooms_len h hday n []
      have hmul := half_mul h hown
      have hinner : WP Tryz.prog ⟨none, 0⟩ (T109 b d []) (fun x => x = .inl (.l0 (n + 1) ((agreeN b d n).reverse ++ acc))) (.l1 n 0 acc) := by
        refine WP.run (fun k => .l1 n (k : Int) ((((inRoomsR b d n []).take k).flatMap (agreeAt b d n)).reverse ++ acc)) (by simp) (inRoomsR b d n []).length (fun k hk => ?_) ?_
        · have hft2 := flat_take (agreeAt b d n) [] (inRoomsR b d n []) k hk
          have hal3 := flat_le (l := (inRoomsR b d n []).take k) (f := agreeAt b d n) (b := 1) fun l _ => agreeAt_len b d n l
          rw [List.length_take] at hal3
          obtain ⟨hL1, hL2⟩ := inRooms_in h hday n [] _ (getD_mem [] (inRoomsR b d n []) k hk)
          rw [hft2]
          have hk1 : (k : Int) < (inRoomsR b d n []).length := by omega
          have hrk : inR .i64 ((k : Int) + 1) = true := inR64 (by omega) (by omega)
          have hBl : ((((inRoomsR b d n []).take k).flatMap (agreeAt b d n)).reverse ++ acc).length + 1 ≤ 4294967296 := by simp only [List.length_append, List.length_reverse]; omega
          rw [List.append_assoc]
          generalize (((inRoomsR b d n []).take k).flatMap (agreeAt b d n)).reverse ++ acc = B at *
          generalize hL : (inRoomsR b d n []).getD k [] = L at *
          have hex := extraR_in h hL1 hL2
          have k45 := c45 b L h (fun n hn => by have := hL2 n hn; omega) (by omega)
          have q1 : inR .i64 ((dayOf b d).taken - feesD b d) = true := inR64 (by omega) (by omega)
          have q2 : inR .i64 ((dayOf b d).taken - feesD b d - extraR b L) = true := inR64 (by omega) (by omega)
          have q3 : inR .i64 (n - pupilsD b d) = true := inR64 (by omega) (by omega)
          have q4 : inR .i64 (b.price.tdiv 2 * (n - pupilsD b d)) = true := inR64 (by omega) (by omega)
          have hle : leftR b d n L = (dayOf b d).taken - feesD b d - extraR b L - b.price.tdiv 2 * (n - pupilsD b d) := rfl
          have q5 : inR .i64 (leftR b d n L) = true := inR64 (by omega) (by omega)
          have hq : 0 ≤ leftR b d n L → 0 ≤ (leftR b d n L).tdiv (b.price.tdiv 2) ∧ (leftR b d n L).tdiv (b.price.tdiv 2) ≤ 10000 := fun h0 => by
            rw [Int.tdiv_eq_ediv_of_nonneg h0]
            exact ⟨Int.ediv_nonneg h0 (by omega), Int.le_trans (Int.ediv_le_self _ h0) (by omega)⟩
          have q6 : 0 ≤ leftR b d n L → inR .i64 ((leftR b d n L).tdiv (b.price.tdiv 2)) = true := fun h0 => inR64 (by have := hq h0; omega) (by have := hq h0; omega)
          have q7 : 0 ≤ leftR b d n L → inR .i64 (n - pupilsD b d - (leftR b d n L).tdiv (b.price.tdiv 2)) = true := fun h0 => inR64 (by have := hq h0; omega) (by have := hq h0; omega)
          have hat : agreeAt b d n L = if 0 ≤ leftR b d n L ∧ (leftR b d n L).tmod (b.price.tdiv 2) = 0 ∧ (leftR b d n L).tdiv (b.price.tdiv 2) ≤ n - pupilsD b d then [⟨(leftR b d n L).tdiv (b.price.tdiv 2), n - pupilsD b d - (leftR b d n L).tdiv (b.price.tdiv 2), L⟩] else [] := rfl
          rw [hat]
          clear hat
          generalize leftR b d n L = left at *
          have hlf := hle.symm
          by_cases a1 : 0 ≤ left
          · have q6 := q6 a1
            have q7 := q7 a1
            by_cases a2 : left.tmod (b.price.tdiv 2) = 0
            · by_cases a3 : left.tdiv (b.price.tdiv 2) ≤ n - pupilsD b d
              · rw [if_pos ⟨a1, a2, a3⟩]
                clear hle
                refine WP.once ?_
                simp only [T109, Tr.sure, SS, hk1, hd, e3, e1, z8, z6, hL, hlf, a1, a2, a3]
                repeat' with_reducible first | intro _ | apply And.intro
                all_goals first | exact (k92 _) | exact k44 | exact k45 | (simp [q1, q2, q3, q4, q5, q6, q7, hrk, hBl, hne, Go, Ends', v109, -List.getD_eq_getElem?_getD, *]; done)
              · rw [if_neg (fun q => a3 q.2.2)]
                clear hle
                refine WP.once ?_
                simp only [T109, Tr.sure, SS, hk1, hd, e3, e1, z8, z6, hL, hlf, a1, a2, a3]
                repeat' with_reducible first | intro _ | apply And.intro
                all_goals first | exact (k92 _) | exact k44 | exact k45 | (simp [q1, q2, q3, q4, q5, q6, q7, hrk, hBl, hne, Go, Ends', v109, -List.getD_eq_getElem?_getD, *]; done)
            · rw [if_neg (fun q => a2 q.2.1)]
              clear hle
              refine WP.once ?_
              simp only [T109, Tr.sure, SS, hk1, hd, e3, e1, z8, z6, hL, hlf, a1, a2]
              repeat' with_reducible first | intro _ | apply And.intro
              all_goals first | exact (k92 _) | exact k44 | exact k45 | (simp [q1, q2, q3, q4, q5, q6, q7, hrk, hBl, hne, Go, Ends', v109, -List.getD_eq_getElem?_getD, *]; done)
          · rw [if_neg (fun q => a1 q.1)]
            clear hle
            refine WP.once ?_
            simp only [T109, Tr.sure, SS, hk1, hd, e3, e1, z8, z6, hL, hlf, a1]
            repeat' with_reducible first | intro _ | apply And.intro
            all_goals first | exact (k92 _) | exact k44 | exact k45 | (simp [q1, q2, q3, q4, q5, hrk, hBl, hne, Go, Ends', v109, -List.getD_eq_getElem?_getD, *]; done)
        · have hag : ((inRoomsR b d n []).take (inRoomsR b d n []).length).flatMap (agreeAt b d n) = agreeN b d n := by rw [List.take_length]; rfl
          rw [hag]
          refine WP.once ?_
          simp only [T109, Tr.sure, SS, Int.lt_irrefl]
          repeat' with_reducible first | intro _ | apply And.intro
          all_goals simp [hrn, Go, Ends', v109, -List.getD_eq_getElem?_getD, *]
      refine WP.step ?_
      simp only [T109, Go, Ends', v109, Tr.sure, SS, hnle, e1, e2, e3, z8]
      repeat' with_reducible first | intro _ | apply And.intro
      all_goals first | exact k72 | exact hinner
    · have hno : ¬ firstN b d + ((rangeI (firstN b d) (doorS b d).hi).length : Int) ≤ (doorS b d).hi := by rw [rangeI_len]; omega
      have hag : (((rangeI (firstN b d) (doorS b d).hi).take (rangeI (firstN b d) (doorS b d).hi).length).flatMap (agreeN b d)).reverse.reverse = agreeD b d := by rw [List.take_length, List.reverse_reverse]; rfl
      refine WP.step ?_
      simp only [T109, Go, Ends', v109, Tr.sure, SS, e1, e2, e3, z8, hno]
      repeat' with_reducible first | intro _ | apply And.intro
      all_goals simp_all [hag, agreeR, Go, Ends', v109, -List.getD_eq_getElem?_getD]
  refine w109 b d ([] : List Int) (WP.step ?_)
  simp only [T109, Go, Ends', v109, Tr.sure, SS, e1, e2, e3, z8]
  repeat' with_reducible first | intro _ | apply And.intro
  all_goals first | exact k66 | exact (k92 _) | exact k71 | exact hmain | (simp [r0, hd, Go, Ends', v109, -List.getD_eq_getElem?_getD, *]; done)
end
noncomputable section
theorem c109n (b : Book) (d : Int) (h : OkBook b) (hd : 0 ≤ d ∧ d < b.days.length) : PC 109 [.agg (tBook.cells b), iI d, .nils] (· = tTruth.lst (agreeR b d [])) :=
  PCalls.arg (pre := [.agg (tBook.cells b), iI d]) (c109 b d h hd) VLe.nils
inductive P76
  | e
inductive R76
  | r0 (r1 : Int)
  | r1 (r0 : List Truth) (r1 : Int)
noncomputable def T76 (b : Book) (d : Int) (e : Int) : P76 → Tr P76 R76
  | .e => let c1 := agreeR b d ([]); (.br (e != (0 : Int)) (.out (.r0 e)) (.call 109 [.agg (cC b), iI d, .nils] (tTruth.lst c1) true true (.br (((c1.length) : Int) == (0 : Int)) (.out (.r0 8)) (.out (.r1 c1 0)))))
noncomputable def g76 (b : Book) (d : Int) (e : Int) : P76 → List Item × St
  | .e => bd Tryz.f76 [.agg (cC b), iI d, iI e] 16
noncomputable def n76 : R76 → Exit × St
  | .r0 r1 => (.ret, ⟨mk 19 [(6, .nils), (7, iI r1)], [], []⟩)
  | .r1 r0 r1 => (.ret, ⟨mk 19 [(6, tTruth.lst r0), (7, iI r1)], [], []⟩)
noncomputable def v76 : R76 → V
  | .r0 r1 => .tuple [tTruth.lst ([] : List Truth), iI r1]
  | .r1 r0 r1 => .tuple [tTruth.lst r0, iI r1]
theorem s76 (b : Book) (d : Int) (e : Int) : Sm 0 (g76 b d e) (T76 b d e) (n76)
  | .e => ⟨400, by kernel_rfl⟩
theorem q76 : ∀ r, bodyQ Tryz.prog Tryz.f76 (· = v76 r) (n76 r).1 (n76 r).2
  | .r0 r1 => ⟨.inr rfl, by simp [n76], (.tuple [.nils, iI r1]), (.tuple [tTruth.lst ([] : List Truth), iI r1]), by kernel_rfl, (.tuple rfl fun j hj => match j, hj with | 0, _ => .weak (.imm rfl) VLe.nils | 1, _ => .imm rfl), rfl⟩
  | .r1 r0 r1 => bq (.tuple [tTruth.lst r0, iI r1]) (by kernel_rfl)
theorem w76 (b : Book) (d : Int) (e : Int) {post : V → Prop} (h : WQ (T76 b d e) v76 post .e) : PC 76 [.agg (cC b), iI d, iI e] post :=
  PCalls.wq Tryz.func76 (s76 b d e) q76 h
theorem c76 (b : Book) (d e : Int) (h : e = 0 → OkBook b ∧ 0 ≤ d ∧ d < b.days.length) : PC 76 [.agg (tBook.cells b), iI d, iI e] (· = .tuple [tTruth.lst (explainedR b d e).1, iI (explainedR b d e).2]) := by
  have har : agreeR b d [] = agreeD b d := rfl
  by_cases he : e = 0
  · obtain ⟨h1, h2⟩ := h he
    have k := c109n b d h1 h2
    rw [har] at k
    by_cases hz : (agreeD b d).length = 0
    · have ex : explainedR b d e = ([], 8) := by unfold explainedR; rw [if_neg (fun q => q he), if_pos hz]
      have hz' : agreeD b d = [] := List.eq_nil_of_length_eq_zero hz
      refine w76 b d e (WP.step ?_)
      simp only [T76, Go, Ends', v76, Tr.sure, SS, har]
      repeat' with_reducible first | intro _ | apply And.intro
      all_goals first | exact k | (simp_all [ex, he, hz', Go, Ends', v76, -List.getD_eq_getElem?_getD]; done)
    · have ex : explainedR b d e = (agreeD b d, 0) := by unfold explainedR; rw [if_neg (fun q => q he), if_neg hz]
      refine w76 b d e (WP.step ?_)
      simp only [T76, Go, Ends', v76, Tr.sure, SS, har]
      repeat' with_reducible first | intro _ | apply And.intro
      all_goals first | exact k | (simp_all [ex, he, hz, Go, Ends', v76, -List.getD_eq_getElem?_getD]; done)
  · have ex : explainedR b d e = ([], e) := by unfold explainedR; rw [if_pos he]
    refine w76 b d e (WP.step ?_)
    simp only [T76, Go, Ends', v76, Tr.sure, SS, har]
    repeat' with_reducible first | intro _ | apply And.intro
    all_goals first | (simp [ex, he, Go, Ends', v76, -List.getD_eq_getElem?_getD, *]; done) | (simp_all [ex, he, Go, Ends', v76, -List.getD_eq_getElem?_getD]; done)
end
noncomputable section
theorem spanS_next {all : List Truth} {at_ : Int} {i : Nat} (hi : i + 1 < all.length) : spanS all at_ (i + 1) = spanF at_ (spanS all at_ i) (all.getD (i + 1) zTruth) := by
  unfold spanS
  rw [foldl_take (spanF at_) _ zTruth (all.drop 1) i (by simp; omega), drop_get]
inductive P81
  | e
  | l0 (x0_7 : Int) (c0_1_0 : Int) (c0_1_1 : Int)
inductive R81
  | r0 (r0_0 : Int) (r0_1 : Int)
noncomputable def T81 (all : List Truth) (at_ : Int) : P81 → Tr P81 R81
  | .e => let c1 := all.getD ((0 : Int)).toNat tTruth.zero; let c2 := (keyR c1).getD (at_).toNat tint.zero; (.need (decide (0 ≤ (0 : Int)) && decide ((0 : Int) < (all.length : Int))) (.call 77 [.agg [iI (c1.adults), iI (c1.children), tint.lst (c1.rooms)]] (tint.lst (keyR c1)) true true (.need (decide (0 ≤ at_) && decide (at_ < (((keyR c1).length) : Int))) (.go (.l0 1 c2 c2)))))
  | .l0 x0_7 c0_1_0 c0_1_1 => let c1 := all.getD (x0_7).toNat tTruth.zero; let c2 := (keyR c1).getD (at_).toNat tint.zero; let c3 := x0_7 < (all.length : Int); (.br (decide c3) (.need (decide (0 ≤ x0_7) && decide c3) (.call 77 [.agg [iI (c1.adults), iI (c1.children), tint.lst (c1.rooms)]] (tint.lst (keyR c1)) true true (.need (decide (0 ≤ at_) && decide (at_ < (((keyR c1).length) : Int))) (.need (inR .i64 (x0_7 + (1 : Int))) (.go (.l0 (x0_7 + (1 : Int)) (min c0_1_0 c2) (max c0_1_1 c2))))))) (.out (.r0 c0_1_0 c0_1_1)))
noncomputable def g81 (all : List Truth) (at_ : Int) : P81 → List Item × St
  | .e => bd Tryz.f81 [tTruth.lst all, iI at_] 40
  | .l0 x0_7 c0_1_0 c0_1_1 => (cutOf Tryz.f81 0, ⟨mk 42 [(0, tTruth.lst all), (1, iI at_), (4, .ref 0 0 0), (6, .ref 1 0 0), (7, iI x0_7)], [.cells [iI 0, iI 0], .cells [iI c0_1_0, iI c0_1_1]], []⟩)
noncomputable def n81 : R81 → Exit × St
  | .r0 r0_0 r0_1 => (.ret, ⟨mk 42 [(4, .ref 0 0 0)], [.cells [iI r0_0, iI r0_1]], []⟩)
noncomputable def v81 : R81 → V
  | .r0 r0_0 r0_1 => .agg [iI r0_0, iI r0_1]
theorem s81 (all : List Truth) (at_ : Int) : Sm 0 (g81 all at_) (T81 all at_) (n81)
  | .e => ⟨400, by kernel_rfl⟩
  | .l0 _ _ _ => ⟨400, by kernel_rfl⟩
theorem q81 : ∀ r, bodyQ Tryz.prog Tryz.f81 (· = v81 r) (n81 r).1 (n81 r).2
  | .r0 r0_0 r0_1 => bq (.agg [iI r0_0, iI r0_1]) (by kernel_rfl)
theorem w81 (all : List Truth) (at_ : Int) {post : V → Prop} (h : WQ (T81 all at_) v81 post .e) : PC 81 [tTruth.lst all, iI at_] post :=
  PCalls.wq Tryz.func81 (s81 all at_) q81 h
theorem c81 (all : List Truth) (at_ : Int) (n : Nat) (h0 : 0 < all.length) (hl : all.length ≤ 14000000) (hr : ∀ t ∈ all, t.rooms.length = n) (hn : n ≤ 1000) (ha : 0 ≤ at_ ∧ at_ < n + 2) :
    PC 81 [tTruth.lst all, iI at_] (· = .agg (tSpan.cells (spanR all at_))) := by
  have hk : ∀ i, i < all.length → (keyR (all.getD i zTruth)).length = n + 2 := fun i hi => by rw [key_len, hr _ (getD_mem zTruth all i hi)]
  have k77 : ∀ i, i < all.length → PC 77 [.agg (tTruth.cells (all.getD i zTruth))] (· = tint.lst (keyR (all.getD i zTruth))) := fun i hi => c77 _ (by rw [hr _ (getD_mem zTruth all i hi)]; exact hn)
  have k0 := hk 0 h0
  have k0' : at_ < ((keyR (all.getD 0 zTruth)).length : Int) := by omega
  have h0' : (0 : Int) < all.length := by omega
  have hmain : WP Tryz.prog ⟨none, 0⟩ (T81 all at_) (Ends' fun r => v81 r = .agg (tSpan.cells (spanR all at_))) (.l0 1 ((keyR (all.getD 0 zTruth)).getD at_.toNat 0) ((keyR (all.getD 0 zTruth)).getD at_.toNat 0)) := by
    refine WP.run (fun i => .l0 ((i + 1 : Nat) : Int) (spanS all at_ i).1 (spanS all at_ i).2) rfl (all.length - 1) (fun i hi => ?_) ?_
    · have hi2 : i + 1 < all.length := by omega
      rw [spanS_next hi2]
      have k1 := hk (i + 1) hi2
      have k2 := k77 (i + 1) hi2
      have hi3 : ((i + 1 : Nat) : Int) < all.length := by omega
      have hc : ((i + 1 + 1 : Nat) : Int) = ((i + 1 : Nat) : Int) + 1 := by omega
      have hrr : inR .i64 (((i + 1 : Nat) : Int) + 1) = true := inR64 (by omega) (by omega)
      have k3 : at_ < ((keyR (all.getD (i + 1) zTruth)).length : Int) := by omega
      rw [hc]
      generalize i + 1 = j at *
      generalize spanS all at_ i = S at *
      obtain ⟨lo, hi⟩ := S
      unfold spanF
      refine WP.once ?_
      simp only [T81, Tr.sure, SS, hi3, z10, z1, ha, k3]
      repeat' with_reducible first | intro _ | apply And.intro
      all_goals first | exact k2 | (simp [hrr, ha, k3, Go, Ends', v81, -List.getD_eq_getElem?_getD, *]; done)
    · have e : ((all.length - 1 + 1 : Nat) : Int) = all.length := by omega
      rw [e]
      refine WP.step ?_
      simp only [T81, Go, Ends', v81, Tr.sure, SS, Int.lt_irrefl]
      repeat' with_reducible first | intro _ | apply And.intro
      all_goals simp [spanR, tSpan, Go, Ends', v81, -List.getD_eq_getElem?_getD, *]
  have k1 := k77 0 h0
  refine w81 all at_ (WP.step ?_)
  simp only [T81, Go, Ends', v81, Tr.sure, SS, h0', z10, z1, k0', ha, Int.toNat_zero]
  repeat' with_reducible first | intro _ | apply And.intro
  all_goals first | exact k1 | exact hmain | (simp [ha, Go, Ends', v81, -List.getD_eq_getElem?_getD, *]; done)
theorem asked76 {b : Book} {d e : Int} (h : e = 0 → askedR b d = 0) : e = 0 → OkBook b ∧ 0 ≤ d ∧ d < b.days.length := fun he => by
  obtain ⟨h1, h2, h3, -⟩ := asked_ok (h he); exact ⟨h1, h2, h3⟩
inductive P23
  | e
  | l0 (x0_10 : Int) (c0_2_0 : Int) (c0_2_1 : Int) (c0_2_2 : List Int)
inductive R23
  | r0 (r0_0 : Int) (r0_1 : Int) (r1 : Int) (r2 : Int)
  | r1 (r0_0 : Int) (r0_1 : Int) (r0_2 : List Int) (r1 : Int) (r2 : Int)
noncomputable def T23 (b : Book) (d : Int) : P23 → Tr P23 R23
  | .e => let c1 := explainedR b d (askedR b d); let c2 := (c1.1).getD ((0 : Int)).toNat tTruth.zero; (.front [(4, 65, [.agg (cC b), iI d], iI (askedR b d)), (5, 76, [.agg (cC b), iI d, iI (askedR b d)], .tuple [tTruth.lst (c1.1), iI (c1.2)])] [] true true (.br (c1.2 != (0 : Int)) (.out (.r0 0 0 0 (c1.2))) (.need (decide (0 ≤ (0 : Int)) && decide ((0 : Int) < ((c1.1.length) : Int))) (.go (.l0 1 (c2.adults) (c2.children) (c2.rooms))))))
  | .l0 x0_10 c0_2_0 c0_2_1 c0_2_2 => let c1 := ((explainedR b d (askedR b d)).1).getD (x0_10).toNat tTruth.zero; let c2 := (((explainedR b d (askedR b d)).1.length) : Int); let c3 := keyR (⟨c0_2_0, c0_2_1, c0_2_2⟩ : Truth); let c4 := x0_10 + (1 : Int); let c5 := decide (0 ≤ x0_10) && decide (x0_10 < c2); (.br (decide (x0_10 < c2)) (.front [(4, 77, [.agg [iI (c1.adults), iI (c1.children), tint.lst (c1.rooms)]], tint.lst (keyR c1))] [] ((c5 && true) && true) true (.call 77 [.agg [iI c0_2_0, iI c0_2_1, tint.lst c0_2_2]] (tint.lst c3) true true (.call 41 [tint.lst (keyR c1), tint.lst c3] (.bool (less (keyR c1) c3)) true true (.br (less (keyR c1) c3) (.need c5 (.need (inR .i64 c4) (.go (.l0 c4 (c1.adults) (c1.children) (c1.rooms))))) (.need (inR .i64 c4) (.go (.l0 c4 c0_2_0 c0_2_1 c0_2_2))))))) (.out (.r1 c0_2_0 c0_2_1 c0_2_2 c2 0)))
noncomputable def g23 (b : Book) (d : Int) : P23 → List Item × St
  | .e => bd Tryz.f23 [.agg (cC b), iI d] 46
  | .l0 x0_10 c0_2_0 c0_2_1 c0_2_2 => (cutOf Tryz.f23 0, ⟨mk 48 [(4, .ref 1 0 0), (7, tTruth.lst ((explainedR b d (askedR b d)).1)), (9, .ref 2 0 0), (10, iI x0_10)], [.gone, .cells [iI 0, iI 0, .nils], .cells [iI c0_2_0, iI c0_2_1, tint.lst c0_2_2]], []⟩)
noncomputable def n23 : R23 → Exit × St
  | .r0 r0_0 r0_1 r1 r2 => (.ret, ⟨mk 48 [(4, .ref 1 0 0), (5, iI r1), (6, iI r2)], [.gone, .cells [iI r0_0, iI r0_1, .nils]], []⟩)
  | .r1 r0_0 r0_1 r0_2 r1 r2 => (.ret, ⟨mk 48 [(4, .ref 1 0 0), (5, iI r1), (6, iI r2)], [.gone, .cells [iI r0_0, iI r0_1, tint.lst r0_2]], []⟩)
noncomputable def v23 : R23 → V
  | .r0 r0_0 r0_1 r1 r2 => .tuple [.agg [iI r0_0, iI r0_1, tint.lst ([] : List Int)], iI r1, iI r2]
  | .r1 r0_0 r0_1 r0_2 r1 r2 => .tuple [.agg [iI r0_0, iI r0_1, tint.lst r0_2], iI r1, iI r2]
theorem s23 (b : Book) (d : Int) : Sm 0 (g23 b d) (T23 b d) (n23)
  | .e => ⟨400, by kernel_rfl⟩
  | .l0 _ _ _ _ => ⟨400, by kernel_rfl⟩
theorem q23 : ∀ r, bodyQ Tryz.prog Tryz.f23 (· = v23 r) (n23 r).1 (n23 r).2
  | .r0 r0_0 r0_1 r1 r2 => ⟨.inr rfl, by simp [n23], (.tuple [.agg [iI r0_0, iI r0_1, .nils], iI r1, iI r2]), (.tuple [.agg [iI r0_0, iI r0_1, tint.lst ([] : List Int)], iI r1, iI r2]), by kernel_rfl, (.tuple rfl fun j hj => match j, hj with | 0, _ => .agg rfl (by intro j hj; match j, hj with | 0, _ => exact .imm rfl | 1, _ => exact .imm rfl | 2, _ => exact .weak (.imm rfl) VLe.nils) | 1, _ => .imm rfl | 2, _ => .imm rfl), rfl⟩
  | .r1 r0_0 r0_1 r0_2 r1 r2 => bq (.tuple [.agg [iI r0_0, iI r0_1, tint.lst r0_2], iI r1, iI r2]) (by kernel_rfl)
theorem w23 (b : Book) (d : Int) {post : V → Prop} (h : WQ (T23 b d) v23 post .e) : PC 23 [.agg (cC b), iI d] post :=
  PCalls.wq Tryz.func23 (s23 b d) q23 h
theorem c23 (b : Book) (d : Int) : PC 23 [.agg (tBook.cells b), iI d] (· = .tuple [.agg (tTruth.cells (firstT b d).1), iI (firstT b d).2.1, iI (firstT b d).2.2]) := by
  have k76 := c76 b d (askedR b d) (asked76 id)
  rcases explained_cases b d (askedR b d) with ⟨f, hf, hf0⟩ | ⟨ha, hf, h0⟩
  · have e : firstT b d = (⟨0, 0, []⟩, 0, f) := by unfold firstT; rw [hf, if_pos hf0]
    rw [hf] at k76
    refine w23 b d (WP.step ?_)
    simp only [T23, Go, Ends', v23, Tr.sure, SS, hf]
    repeat' with_reducible first | intro _ | apply And.intro
    all_goals first | exact (c65 _ _) | exact k76 | (simp [e, hf0, tTruth, Go, Ends', v23, -List.getD_eq_getElem?_getD, *]; done) | (simp_all [e, hf0, tTruth, Go, Ends', v23, -List.getD_eq_getElem?_getD]; done)
  · obtain ⟨h, hd1, hd2, hday⟩ := asked_ok ha
    have e : firstT b d = (bestD (agreeD b d), ((agreeD b d).length : Int), 0) := by unfold firstT; rw [hf, if_neg (fun q => q rfl)]
    rw [hf] at k76
    have hin := agreeD_in h hday
    have hlen := agreeD_len h hday
    have hnr := h.nr
    have h0' : (0 : Int) < (agreeD b d).length := by omega
    have k77 : ∀ t ∈ agreeD b d, PC 77 [.agg (tTruth.cells t)] (· = tint.lst (keyR t)) := fun t ht => c77 t (by have := (hin t ht).1; omega)
    have hmain : WP Tryz.prog ⟨none, 0⟩ (T23 b d) (Ends' fun r => v23 r = .tuple [.agg (tTruth.cells (firstT b d).1), iI (firstT b d).2.1, iI (firstT b d).2.2]) (.l0 1 ((agreeD b d).getD 0 zTruth).adults ((agreeD b d).getD 0 zTruth).children ((agreeD b d).getD 0 zTruth).rooms) := by
      rw [e]
      refine WP.run (fun i => .l0 ((i + 1 : Nat) : Int) (bestS (agreeD b d) i).adults (bestS (agreeD b d) i).children (bestS (agreeD b d) i).rooms) rfl ((agreeD b d).length - 1) (fun i hi => ?_) ?_
      · have hi2 : i + 1 < (agreeD b d).length := by omega
        rw [bestS_next hi2]
        have k1 := k77 _ (bestS_mem h0 i (by omega))
        have k2 := k77 _ (getD_mem zTruth (agreeD b d) (i + 1) hi2)
        have hi3 : ((i + 1 : Nat) : Int) < (agreeD b d).length := by omega
        have hc : ((i + 1 + 1 : Nat) : Int) = ((i + 1 : Nat) : Int) + 1 := by omega
        have hrr : inR .i64 (((i + 1 : Nat) : Int) + 1) = true := inR64 (by omega) (by omega)
        rw [hc]
        generalize i + 1 = j at *
        generalize bestS (agreeD b d) i = S at *
        obtain ⟨sa, sc, sr⟩ := S
        unfold bestF
        by_cases hq : less (keyR ((agreeD b d).getD j zTruth)) (keyR ⟨sa, sc, sr⟩) = true
        · rw [if_pos hq]
          refine WP.once ?_
          simp only [T23, Tr.sure, SS, hf, hi3, z10]
          repeat' with_reducible first | intro _ | apply And.intro
          all_goals first | exact k1 | exact k2 | exact (c41 _ _) | (simp [hrr, Go, Ends', v23, -List.getD_eq_getElem?_getD, *]; done) | (simp_all [hrr, Go, Ends', v23, -List.getD_eq_getElem?_getD]; done)
        · rw [if_neg hq]
          have hq' := Bool.eq_false_iff.2 hq
          refine WP.once ?_
          simp only [T23, Tr.sure, SS, hf, hi3, z10]
          repeat' with_reducible first | intro _ | apply And.intro
          all_goals first | exact k1 | exact k2 | exact (c41 _ _) | (simp [hrr, Go, Ends', v23, -List.getD_eq_getElem?_getD, *]; done) | (simp_all [hrr, Go, Ends', v23, -List.getD_eq_getElem?_getD]; done)
      · have e2 : (((agreeD b d).length - 1 + 1 : Nat) : Int) = (agreeD b d).length := by omega
        rw [e2]
        refine WP.step ?_
        simp only [T23, Go, Ends', v23, Tr.sure, SS, hf, Int.lt_irrefl]
        repeat' with_reducible first | intro _ | apply And.intro
        all_goals simp [bestD, tTruth, Go, Ends', v23, -List.getD_eq_getElem?_getD, *]
    refine w23 b d (WP.step ?_)
    simp only [T23, Go, Ends', v23, Tr.sure, SS, hf, h0', z10, Int.toNat_zero]
    repeat' with_reducible first | intro _ | apply And.intro
    all_goals first | exact (c65 _ _) | exact k76 | exact hmain | (simp [Go, Ends', v23, -List.getD_eq_getElem?_getD, *]; done)
end
end Go.Proofs.YtfgmckfomckliaaGreat
