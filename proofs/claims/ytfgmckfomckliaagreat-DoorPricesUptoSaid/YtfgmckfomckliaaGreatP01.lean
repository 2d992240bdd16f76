/-
  Part of the proof of DoorPrices. Conditions: those that stand in each theorem.
-/
import Derived.Test.YtfgmckfomckliaaGreatChecked
import Derived.Test.YtfgmckfomckliaaGreatB13
set_option linter.unusedSimpArgs false
set_option linter.unusedVariables false
set_option maxRecDepth 100000
namespace Ab
theorem rev_take {τ υ : Type} (f : τ → υ) (d : τ) (l : List τ) (i : Nat) (hi : i < l.length) : ((l.take (i + 1)).map f).reverse = f (l.getD i d) :: ((l.take i).map f).reverse := by
  rw [List.take_succ_eq_append_getElem hi, List.map_append, List.reverse_append, List.map_singleton, List.reverse_singleton, List.singleton_append]
  simp only [List.getD_eq_getElem?_getD, List.getElem?_eq_getElem hi, Option.getD_some]
theorem rev_take' {τ υ : Type} (f : τ → υ) (d : τ) (l : List τ) (i : Nat) (hi : i < l.length) : ((l.map f).take (i + 1)).reverse = f (l.getD i d) :: ((l.map f).take i).reverse := by
  rw [← List.map_take, ← List.map_take]; exact rev_take f d l i hi
theorem flat_take {τ υ : Type} (f : τ → List υ) (d : τ) (l : List τ) (i : Nat) (hi : i < l.length) : ((l.take (i + 1)).flatMap f).reverse = (f (l.getD i d)).reverse ++ ((l.take i).flatMap f).reverse := by
  rw [List.take_succ_eq_append_getElem hi, List.flatMap_append, List.reverse_append]
  simp [List.getD_eq_getElem?_getD, hi]
end Ab
namespace Go.Proofs.YtfgmckfomckliaaGreat
open Ab
def indexS (l : List ByteArray) (s : ByteArray) : Int := match firstI (fun o => same o s) 0 l with | some i => i | none => -1
def tstr : Ty ByteArray := ⟨1, fun s => [.str s], ByteArray.empty⟩
def tlist {τ : Type} (E : Ty τ) : Ty (List τ) := ⟨1, fun l => [E.lst l], []⟩
theorem z6 {τ : Type} {E : Ty τ} : (tlist E).zero = [] := rfl
end Go.Proofs.YtfgmckfomckliaaGreat
namespace Go.Proofs.YtfgmckfomckliaaGreat
open Ab Go
noncomputable section
theorem map_take_len {τ υ : Type} (f : τ → υ) (l : List τ) (i : Nat) (hi : i ≤ l.length) : ((l.map f).take i).reverse.length = i := by simp; omega
inductive P91
  | e
inductive R91
  | r0 (r0 : Bool)
noncomputable def T91 (p0 : Int) (p1 : Int) (p2 : Int) : P91 → Tr P91 R91
  | .e => (.br (decide (p0 ≥ p1)) (.out (.r0 (decide (p0 ≤ p2)))) (.out (.r0 false)))
noncomputable def g91 (p0 : Int) (p1 : Int) (p2 : Int) : P91 → List Item × St
  | .e => bd Tryz.f91 [iI p0, iI p1, iI p2] 12
noncomputable def n91 : R91 → Exit × St
  | .r0 r0 => (.ret, ⟨mk 15 [(6, .bool r0)], [], []⟩)
noncomputable def v91 : R91 → V
  | .r0 r0 => .bool r0
theorem s91 (p0 : Int) (p1 : Int) (p2 : Int) : Sm 0 (g91 p0 p1 p2) (T91 p0 p1 p2) (n91)
  | .e => ⟨400, by kernel_rfl⟩
theorem q91 : ∀ r, bodyQ Tryz.prog Tryz.f91 (· = v91 r) (n91 r).1 (n91 r).2
  | .r0 r0 => bq (.bool r0) (by kernel_rfl)
theorem w91 (p0 : Int) (p1 : Int) (p2 : Int) {post : V → Prop} (h : WQ (T91 p0 p1 p2) v91 post .e) : PC 91 [iI p0, iI p1, iI p2] post :=
  PCalls.wq Tryz.func91 (s91 p0 p1 p2) q91 h
theorem c91 (n a b : Int) : PC 91 [iI n, iI a, iI b] (· = .bool (within n a b)) := by
  refine w91 _ _ _ (WP.step ?_)
  simp only [T91, Go, Ends', v91, Tr.sure, SS]
  repeat' with_reducible first | intro _ | apply And.intro
  all_goals simp [within, GE.ge, Go, Ends', v91, -List.getD_eq_getElem?_getD, *]
  all_goals simp_all [within]
inductive P58
  | e
inductive R58
  | r0 (r0 : Bool)
noncomputable def T58 (p0 : Int) (p1 : Int) (p2 : Int) : P58 → Tr P58 R58
  | .e => (.br (decide (p0 ≥ p1)) (.out (.r0 (decide (p0 ≤ p2)))) (.out (.r0 false)))
noncomputable def g58 (p0 : Int) (p1 : Int) (p2 : Int) : P58 → List Item × St
  | .e => bd Tryz.f58 [iI p0, iI p1, iI p2] 12
noncomputable def n58 : R58 → Exit × St
  | .r0 r0 => (.ret, ⟨mk 15 [(6, .bool r0)], [], []⟩)
noncomputable def v58 : R58 → V
  | .r0 r0 => .bool r0
theorem s58 (p0 : Int) (p1 : Int) (p2 : Int) : Sm 0 (g58 p0 p1 p2) (T58 p0 p1 p2) (n58)
  | .e => ⟨400, by kernel_rfl⟩
theorem q58 : ∀ r, bodyQ Tryz.prog Tryz.f58 (· = v58 r) (n58 r).1 (n58 r).2
  | .r0 r0 => bq (.bool r0) (by kernel_rfl)
theorem w58 (p0 : Int) (p1 : Int) (p2 : Int) {post : V → Prop} (h : WQ (T58 p0 p1 p2) v58 post .e) : PC 58 [iI p0, iI p1, iI p2] post :=
  PCalls.wq Tryz.func58 (s58 p0 p1 p2) q58 h
theorem c58 (n a b : Int) : PC 58 [iI n, iI a, iI b] (· = .bool (within n a b)) := by
  refine w58 _ _ _ (WP.step ?_)
  simp only [T58, Go, Ends', v58, Tr.sure, SS]
  repeat' with_reducible first | intro _ | apply And.intro
  all_goals simp [within, GE.ge, Go, Ends', v58, -List.getD_eq_getElem?_getD, *]
  all_goals simp_all [within]
theorem data_get (s : ByteArray) (i : Nat) : s.data.getD i 0 = s.data.toList.getD i 0 := by simp
theorem inR8 (c : UInt8) : inR .i64 (c.toNat : Int) = true := inR64 (by omega) (by have := c.toNat_lt; omega)
inductive P127
  | e
  | l0 (x0_3 : Int)
inductive R127
  | r0 (r0 : Bool)
noncomputable def T127 (p0 : ByteArray) : P127 → Tr P127 R127
  | .e => (.br ((p0.size : Int) == (0 : Int)) (.lit true (.out (.r0 false))) (.br (decide ((p0.size : Int) > (16 : Int))) (.out (.r0 false)) (.go (.l0 0))))
  | .l0 x0_3 => let c1 := ((p0.data.getD (x0_3).toNat 0).toNat : Int); let c2 : Tr P127 R127 := .need (inR .i64 (x0_3 + (1 : Int))) (.go (.l0 (x0_3 + (1 : Int)))); let c3 := decide (0 ≤ x0_3) && decide (x0_3 < (p0.size : Int)); let c4 : Tr P127 R127 := .lit true (.lit true (.out (.r0 false))); let c5 := within c1 97 122; let c6 : Tr P127 R127 := .lit false (.lit false c2); (.br (decide (x0_3 < (p0.size : Int))) (.need c3 (.need (inR .i64 c1) (.call 91 [iI c1, iI 97, iI 122] (.bool c5) true true (.need c3 (.need (inR .i64 c1) (.call 91 [iI c1, iI 48, iI 57] (.bool (within c1 48 57)) true true (.br (within c1 48 57) (.br (!c5) (.br (x0_3 == (0 : Int)) c4 (.lit true (.lit false c2))) c6) (.need c3 (.br (!c5) (.br (x0_3 == (0 : Int)) c4 (.lit true (.br (!(c1 == (46 : Int))) (.out (.r0 false)) c2))) c6))))))))) (.out (.r0 true)))
noncomputable def g127 (p0 : ByteArray) : P127 → List Item × St
  | .e => bd Tryz.f127 [.str p0] 45
  | .l0 x0_3 => (cutOf Tryz.f127 0, ⟨mk 46 [(0, .str p0), (2, .bool false), (3, iI x0_3)], [], []⟩)
noncomputable def n127 : R127 → Exit × St
  | .r0 r0 => (.ret, ⟨mk 46 [(2, .bool r0)], [], []⟩)
noncomputable def v127 : R127 → V
  | .r0 r0 => .bool r0
theorem s127 (p0 : ByteArray) : Sm 0 (g127 p0) (T127 p0) (n127)
  | .e => ⟨400, by kernel_rfl⟩
  | .l0 _ => ⟨400, by kernel_rfl⟩
theorem q127 : ∀ r, bodyQ Tryz.prog Tryz.f127 (· = v127 r) (n127 r).1 (n127 r).2
  | .r0 r0 => bq (.bool r0) (by kernel_rfl)
theorem w127 (p0 : ByteArray) {post : V → Prop} (h : WQ (T127 p0) v127 post .e) : PC 127 [.str p0] post :=
  PCalls.wq Tryz.func127 (s127 p0) q127 h
theorem c127 (s : ByteArray) : PC 127 [.str s] (· = .bool (nameOk s)) := by
  refine w127 _ (WP.step ?_)
  simp only [T127, Tr.sure, Go, Ends', v127]
  refine ⟨fun h => ?_, fun h0 => ⟨fun h => ?_, fun h1 => ?_⟩⟩
  · simp at h; simp [nameOk, h]
  · simp at h; simp [nameOk]; omega
  simp only [beq_eq_false_iff_ne, ne_eq, decide_eq_false_iff_not, Int.not_lt, gt_iff_lt] at h0 h1
  have hs : s.size ≤ 16 := by omega
  have hn : nameOk s = nameFrom true s.data.toList := by
    have h0' : s.size ≠ 0 := by omega
    simp [nameOk, hs, h0']
  refine WP.count (fun i => .l0 i) rfl s.size (fun i => nameFrom true s.data.toList = nameFrom (i == 0) (s.data.toList.drop i)) rfl (fun i hi hI => ?_) fun hI => ?_
  · have hd := drop_cons 0 s.data.toList i hi
    have hr : inR .i64 ((i : Int) + 1) = true := inR64 (by omega) (by omega)
    have hc := inR8 (s.data.toList.getD i 0)
    rw [hd] at hI
    simp only [nameFrom] at hI
    generalize hg : s.data.toList.getD i 0 = c at *
    refine WP.once ?_
    simp only [T127, Tr.sure, SS, hi, data_get, hg]
    repeat' with_reducible first | intro _ | apply And.intro
    all_goals first | exact c91 _ _ _ | (simp [hr, hc, hI, hn, letter, other, Go, Ends', v127, -List.getD_eq_getElem?_getD, *]; done)
  · have he : nameFrom (s.size == 0) (s.data.toList.drop s.size) = true := by rw [← data_len, List.drop_length]; rfl
    refine WP.step ?_
    simp only [T127, Go, Ends', v127, Tr.sure, SS]
    repeat' with_reducible first | intro _ | apply And.intro
    all_goals simp [hn, hI, he, Go, Ends', v127, -List.getD_eq_getElem?_getD, *]
theorem tstr_zero : tstr.zero = ByteArray.empty := rfl
inductive P128
  | e
  | l0 (x0_5 : Int)
inductive R128
  | r0 (r0 : Int)
noncomputable def T128 (p0 : List ByteArray) (p1 : ByteArray) : P128 → Tr P128 R128
  | .e => (.go (.l0 0))
  | .l0 x0_5 => let c1 := x0_5 < (p0.length : Int); (.br (decide c1) (.need (decide (0 ≤ x0_5) && decide c1) (.br ((p0.getD (x0_5).toNat tstr.zero).toList == p1.toList) (.out (.r0 x0_5)) (.need (inR .i64 (x0_5 + (1 : Int))) (.go (.l0 (x0_5 + (1 : Int))))))) (.out (.r0 (-1))))
noncomputable def g128 (p0 : List ByteArray) (p1 : ByteArray) : P128 → List Item × St
  | .e => bd Tryz.f128 [tstr.lst p0, .str p1] 17
  | .l0 x0_5 => (cutOf Tryz.f128 0, ⟨mk 19 [(0, tstr.lst p0), (1, .str p1), (4, iI 0), (5, iI x0_5)], [], []⟩)
noncomputable def n128 : R128 → Exit × St
  | .r0 r0 => (.ret, ⟨mk 19 [(4, iI r0)], [], []⟩)
noncomputable def v128 : R128 → V
  | .r0 r0 => iI r0
theorem s128 (p0 : List ByteArray) (p1 : ByteArray) : Sm 0 (g128 p0 p1) (T128 p0 p1) (n128)
  | .e => ⟨400, by kernel_rfl⟩
  | .l0 _ => ⟨400, by kernel_rfl⟩
theorem q128 : ∀ r, bodyQ Tryz.prog Tryz.f128 (· = v128 r) (n128 r).1 (n128 r).2
  | .r0 r0 => bq (iI r0) (by kernel_rfl)
theorem w128 (p0 : List ByteArray) (p1 : ByteArray) {post : V → Prop} (h : WQ (T128 p0 p1) v128 post .e) : PC 128 [tstr.lst p0, .str p1] post :=
  PCalls.wq Tryz.func128 (s128 p0 p1) q128 h
theorem c128 (l : List ByteArray) (n : ByteArray) (h : l.length ≤ 4) : PC 128 [tstr.lst l, .str n] (· = iI (indexS l n)) := by
  refine w128 _ _ (WP.step ?_)
  simp only [T128, Go, Ends', v128, Tr.sure, SS]
  repeat' with_reducible first | intro _ | apply And.intro
  refine WP.findI (fun i => .l0 i) rfl l ByteArray.empty (fun o => same o n) (fun i hi => ?_) fun hI => ?_
  · have hr : inR .i64 ((i : Int) + 1) = true := inR64 (by omega) (by omega)
    refine WP.once ?_
    simp only [T128, Tr.sure, SS, hi]
    repeat' with_reducible first | intro _ | apply And.intro
    all_goals first | (simp [hr, same, tstr_zero, indexS, Go, Ends', v128, -List.getD_eq_getElem?_getD, *]; done) | (simp_all [hr, same, tstr_zero, indexS, Go, Ends', v128, -List.getD_eq_getElem?_getD]; done)
  · refine WP.step ?_
    simp only [T128, Go, Ends', v128, Tr.sure, SS]
    repeat' with_reducible first | intro _ | apply And.intro
    all_goals simp [hI, indexS, Go, Ends', v128, -List.getD_eq_getElem?_getD, *]
theorem indexS_ge (l : List ByteArray) (n : ByteArray) : (0 ≤ indexS l n) ↔ l.any (fun o => same o n) = true := by
  rw [← firstI_any _ l 0, indexS]
  cases firstI (fun o => same o n) 0 l <;> simp
inductive P101
  | e
inductive R101
  | r0 (r0 : Int)
noncomputable def T101 (p0 : ByteArray) (p1 : List ByteArray) : P101 → Tr P101 R101
  | .e => (.call 127 [.str p0] (.bool (nameOk p0)) true true (.br (!(nameOk p0)) (.out (.r0 6)) (.call 128 [tstr.lst p1, .str p0] (iI (indexS p1 p0)) true true (.br (decide ((indexS p1 p0) ≥ (0 : Int))) (.out (.r0 5)) (.out (.r0 0))))))
noncomputable def g101 (p0 : ByteArray) (p1 : List ByteArray) : P101 → List Item × St
  | .e => bd Tryz.f101 [.str p0, tstr.lst p1] 10
noncomputable def n101 : R101 → Exit × St
  | .r0 r0 => (.ret, ⟨mk 12 [(4, iI r0)], [], []⟩)
noncomputable def v101 : R101 → V
  | .r0 r0 => iI r0
theorem s101 (p0 : ByteArray) (p1 : List ByteArray) : Sm 0 (g101 p0 p1) (T101 p0 p1) (n101)
  | .e => ⟨400, by kernel_rfl⟩
theorem q101 : ∀ r, bodyQ Tryz.prog Tryz.f101 (· = v101 r) (n101 r).1 (n101 r).2
  | .r0 r0 => bq (iI r0) (by kernel_rfl)
theorem w101 (p0 : ByteArray) (p1 : List ByteArray) {post : V → Prop} (h : WQ (T101 p0 p1) v101 post .e) : PC 101 [.str p0, tstr.lst p1] post :=
  PCalls.wq Tryz.func101 (s101 p0 p1) q101 h
theorem c101 (n : ByteArray) (l : List ByteArray) (h : l.length ≤ 4) : PC 101 [.str n, tstr.lst l] (· = iI (newErr n l)) := by
  have hi := indexS_ge l n
  refine w101 _ _ (WP.step ?_)
  simp only [T101, Go, Ends', v101, Tr.sure, SS]
  repeat' with_reducible first | intro _ | apply And.intro
  all_goals first | exact c127 _ | exact c128 _ _ h | (simp [newErr, Go, Ends', v101, -List.getD_eq_getElem?_getD, *]; done) | (simp_all [newErr, Go, Ends', v101, -List.getD_eq_getElem?_getD]; done)
theorem c101r (n : ByteArray) (l : List ByteArray) (h : l.length ≤ 4) : PC 101 [.str n, .list 1 l.reverse.length (rowsRev tstr l.reverse)] (· = iI (newErr n l)) :=
  PCalls.arg (pre := [.str n]) (c101 n l h) (by have := VLe.rev tstr l.reverse; rwa [List.reverse_reverse] at this)
inductive P92
  | e
  | l0 (x0_5 : Int)
inductive R92
  | r0 (r0 : Bool)
noncomputable def T92 (p0 : List Int) (p1 : Int) : P92 → Tr P92 R92
  | .e => (.go (.l0 0))
  | .l0 x0_5 => let c1 := x0_5 < (p0.length : Int); (.br (decide c1) (.need (decide (0 ≤ x0_5) && decide c1) (.br ((p0.getD (x0_5).toNat tint.zero) == p1) (.out (.r0 true)) (.need (inR .i64 (x0_5 + (1 : Int))) (.go (.l0 (x0_5 + (1 : Int))))))) (.out (.r0 false)))
noncomputable def g92 (p0 : List Int) (p1 : Int) : P92 → List Item × St
  | .e => bd Tryz.f92 [tint.lst p0, iI p1] 16
  | .l0 x0_5 => (cutOf Tryz.f92 0, ⟨mk 18 [(0, tint.lst p0), (1, iI p1), (4, .bool false), (5, iI x0_5)], [], []⟩)
noncomputable def n92 : R92 → Exit × St
  | .r0 r0 => (.ret, ⟨mk 18 [(4, .bool r0)], [], []⟩)
noncomputable def v92 : R92 → V
  | .r0 r0 => .bool r0
theorem s92 (p0 : List Int) (p1 : Int) : Sm 0 (g92 p0 p1) (T92 p0 p1) (n92)
  | .e => ⟨400, by kernel_rfl⟩
  | .l0 _ => ⟨400, by kernel_rfl⟩
theorem q92 : ∀ r, bodyQ Tryz.prog Tryz.f92 (· = v92 r) (n92 r).1 (n92 r).2
  | .r0 r0 => bq (.bool r0) (by kernel_rfl)
theorem w92 (p0 : List Int) (p1 : Int) {post : V → Prop} (h : WQ (T92 p0 p1) v92 post .e) : PC 92 [tint.lst p0, iI p1] post :=
  PCalls.wq Tryz.func92 (s92 p0 p1) q92 h
theorem e92 : ∀ xs w, (callFunc 92 xs).run Tryz.prog w = .ok (.enter 92 xs) w := PCalls.enters Tryz.func92 (c := Tryz.f92.body.getD .skip) (by kernel_rfl) (by kernel_rfl)
theorem c92 (l : List Int) (n : Int) : PC 92 [tint.lst l, iI n] (· = .bool (hasN l n)) := by
  refine PCalls.assume e92 0 (by simp) .list fun hl => ?_
  refine w92 _ _ (WP.step ?_)
  simp only [T92, Go, Ends', v92, Tr.sure, SS]
  repeat' with_reducible first | intro _ | apply And.intro
  refine WP.findI (fun i => .l0 i) rfl l 0 (· == n) (fun i hi => ?_) fun hI => ?_
  · have hr := inRi hi hl
    have ha : firstI (· == n) 0 l = some i → l.any (· == n) = true := any_of_firstI
    refine WP.once ?_
    simp only [T92, Tr.sure, SS, hi, z1]
    repeat' with_reducible first | intro _ | apply And.intro
    all_goals first | (simp [hr, hasN, Go, Ends', v92, -List.getD_eq_getElem?_getD, *]; done) | (simp_all [hr, hasN, Go, Ends', v92, -List.getD_eq_getElem?_getD]; done)
  · have ha := any_of_none hI
    refine WP.step ?_
    simp only [T92, Go, Ends', v92, Tr.sure, SS, Int.lt_irrefl]
    repeat' with_reducible first | intro _ | apply And.intro
    all_goals simp [hasN, ha, Go, Ends', v92, -List.getD_eq_getElem?_getD, *]
end
noncomputable section
inductive P59
  | e
  | l0 (x0_5 : Int) (a0_0 : List ByteArray)
inductive R59
  | r0 (r0 : Int) (r1 : Int)
noncomputable def T59 (l : List Room) : P59 → Tr P59 R59
  | .e => (.br (decide ((l.length : Int) > (3 : Int))) (.out (.r0 0 3)) (.wait 3 (.own 4 9 1 (.go (.l0 0 ([]))))))
  | .l0 x0_5 a0_0 => let c1 := l.getD (x0_5).toNat tRoom.zero; let c2 : Tr P59 R59 := .need (inR .i64 (x0_5 + (1 : Int))) (.go (.l0 (x0_5 + (1 : Int)) (c1.name :: a0_0))); let c3 := decide (0 ≤ x0_5) && decide (x0_5 < (l.length : Int)); let c4 := newErr (c1.name) a0_0.reverse; let c5 : Tr P59 R59 := .br ((7 : Int) != (0 : Int)) (.out (.r0 x0_5 7)) c2; let c6 : Tr P59 R59 := .br (c4 != (0 : Int)) (.out (.r0 x0_5 c4)) c2; (.br (decide (x0_5 < (l.length : Int))) (.need c3 (.call 101 [.str (c1.name), .list 1 a0_0.length (rowsRev tstr a0_0)] (iI c4) ((decide (a0_0.length ≤ a0_0.length)) && true) true (.need c3 (.need ((decide (a0_0.length = a0_0.length) && decide (a0_0.length + 1 ≤ 4294967296)) && decide (1 ≤ 1)) (.scal (fun _ => true) (.br (c4 == (0 : Int)) (.need c3 (.call 58 [iI (c1.more), iI 0, iI 20] (.bool (within (c1.more) 0 20)) true true (.br (!(within (c1.more) 0 20)) (.lit true (.lit true c5)) (.need c3 (.call 58 [iI (c1.full), iI 0, iI 60] (.bool (within (c1.full) 0 60)) true true (.lit true (.br (!(within (c1.full) 0 60)) c5 c6))))))) (.lit false (.lit false c6)))))))) (.out (.r0 0 0)))
noncomputable def g59 (l : List Room) : P59 → List Item × St
  | .e => bd Tryz.f59 [tRoom.lst l] 54
  | .l0 x0_5 a0_0 => (cutOf Tryz.f59 0, ⟨mk 55 [(0, tRoom.lst l), (4, .row 0 a0_0.length), (5, iI x0_5)], [.rows 9 1 a0_0.length (rowsRev tstr a0_0)], []⟩)
noncomputable def n59 : R59 → Exit × St
  | .r0 r0 r1 => (.ret, ⟨mk 55 [(2, iI r0), (3, iI r1)], [], []⟩)
noncomputable def v59 : R59 → V
  | .r0 r0 r1 => .tuple [iI r0, iI r1]
theorem s59 (l : List Room) : Sm 0 (g59 l) (T59 l) (n59)
  | .e => ⟨400, by kernel_rfl⟩
  | .l0 _ _ => ⟨400, by kernel_rfl⟩
theorem q59 : ∀ r, bodyQ Tryz.prog Tryz.f59 (· = v59 r) (n59 r).1 (n59 r).2
  | .r0 r0 r1 => bq (.tuple [iI r0, iI r1]) (by kernel_rfl)
theorem w59 (l : List Room) {post : V → Prop} (h : WQ (T59 l) v59 post .e) : PC 59 [tRoom.lst l] post :=
  PCalls.wq Tryz.func59 (s59 l) q59 h
theorem c59 (l : List Room) : PC 59 [tRoom.lst l] (· = .tuple [iI (roomsErr l).1, iI (roomsErr l).2]) := by
  refine w59 _ (WP.step ?_)
  simp only [T59, Go, Ends', v59, Tr.sure, SS]
  repeat' with_reducible first | intro _ | apply And.intro
  all_goals first | (simp [roomsErr, Go, Ends', v59, -List.getD_eq_getElem?_getD, *]; done) | skip
  rename_i h1
  have hm : l.length ≤ 3 := by omega
  refine WP.findE (fun i => .l0 i (((l.map (·.name)).take i).reverse)) rfl l zRoom (roomAt l) (fun i hi => ?_) fun hI => ?_
  · have hr : inR .i64 ((i : Int) + 1) = true := inR64 (by omega) (by omega)
    have hl := map_take_len (·.name) l i (by omega)
    have hl' : ((l.map (·.name)).take i).length ≤ 4 := by simp; omega
    have ht := rev_take' (·.name) zRoom l i hi
    have hb : i + 1 ≤ 4294967296 := by omega
    refine WP.once ?_
    simp only [T59, Tr.sure, SS, hi, z2, List.reverse_reverse]
    repeat' with_reducible first | intro _ | apply And.intro
    all_goals first | exact c101r _ _ hl' | exact c58 _ _ _ | (simp [hr, roomsErr, firstR, roomAt, ht, hb, hl, Go, Ends', v59, -List.getD_eq_getElem?_getD, *]; done) | (simp_all [hr, roomsErr, firstR, roomAt, ht, hb, hl, Go, Ends', v59, -List.getD_eq_getElem?_getD]; done) | (simp +contextual [hr, roomsErr, firstR, roomAt, ht, hb, hl, Go, Ends', v59, -List.getD_eq_getElem?_getD, *]; done)
  · refine WP.step ?_
    simp only [T59, Go, Ends', v59, Tr.sure, SS, z2]
    repeat' with_reducible first | intro _ | apply And.intro
    all_goals simp [roomsErr, firstR, hI, Go, Ends', v59, -List.getD_eq_getElem?_getD, *]
inductive P102
  | e
  | l0 (x0_4 : Int) (x0_5 : Int) (a0_0 : List ByteArray)
inductive R102
  | r0 (r0 : Int)
noncomputable def T102 (l : List School) : P102 → Tr P102 R102
  | .e => (.br (decide ((l.length : Int) > (3 : Int))) (.out (.r0 3)) (.wait 3 (.own 3 9 1 (.go (.l0 0 0 ([]))))))
  | .l0 x0_4 x0_5 a0_0 => let c3 := decide (0 ≤ x0_5) && decide (x0_5 < (l.length : Int)); let c4 := l.getD (x0_5).toNat tSchool.zero; let c1 : Tr P102 R102 := .need c3 (.need (inR .i64 (x0_4 + c4.children)) (.need (inR .i64 (x0_5 + (1 : Int))) (.go (.l0 (x0_4 + c4.children) (x0_5 + (1 : Int)) (c4.name :: a0_0))))); let c2 := newErr (c4.name) a0_0.reverse; let c5 : Tr P102 R102 := .br (c2 != (0 : Int)) (.out (.r0 c2)) c1; let c6 := within (c4.children) 1 60; (.br (decide (x0_5 < (l.length : Int))) (.need c3 (.call 101 [.str (c4.name), .list 1 a0_0.length (rowsRev tstr a0_0)] (iI c2) ((decide (a0_0.length ≤ a0_0.length)) && true) true (.need c3 (.need ((decide (a0_0.length = a0_0.length) && decide (a0_0.length + 1 ≤ 4294967296)) && decide (1 ≤ 1)) (.scal (fun _ => true) (.br (c2 == (0 : Int)) (.need c3 (.call 58 [iI (c4.children), iI 1, iI 60] (.bool c6) true true (.br (!c6) (.br ((7 : Int) != (0 : Int)) (.out (.r0 7)) c1) c5))) (.lit false c5))))))) (.br (decide (x0_4 > (60 : Int))) (.out (.r0 9)) (.out (.r0 0))))
noncomputable def g102 (l : List School) : P102 → List Item × St
  | .e => bd Tryz.f102 [tSchool.lst l] 53
  | .l0 x0_4 x0_5 a0_0 => (cutOf Tryz.f102 0, ⟨mk 54 [(0, tSchool.lst l), (3, .row 0 a0_0.length), (4, iI x0_4), (5, iI x0_5)], [.rows 9 1 a0_0.length (rowsRev tstr a0_0)], []⟩)
noncomputable def n102 : R102 → Exit × St
  | .r0 r0 => (.ret, ⟨mk 54 [(2, iI r0)], [], []⟩)
noncomputable def v102 : R102 → V
  | .r0 r0 => iI r0
theorem s102 (l : List School) : Sm 0 (g102 l) (T102 l) (n102)
  | .e => ⟨400, by kernel_rfl⟩
  | .l0 _ _ _ => ⟨400, by kernel_rfl⟩
theorem q102 : ∀ r, bodyQ Tryz.prog Tryz.f102 (· = v102 r) (n102 r).1 (n102 r).2
  | .r0 r0 => bq (iI r0) (by kernel_rfl)
theorem w102 (l : List School) {post : V → Prop} (h : WQ (T102 l) v102 post .e) : PC 102 [tSchool.lst l] post :=
  PCalls.wq Tryz.func102 (s102 l) q102 h
theorem c102 (l : List School) : PC 102 [tSchool.lst l] (· = iI (schoolsErr l)) := by
  refine w102 _ (WP.step ?_)
  simp only [T102, Go, Ends', v102, Tr.sure, SS]
  repeat' with_reducible first | intro _ | apply And.intro
  all_goals first | (simp [schoolsErr, Go, Ends', v102, -List.getD_eq_getElem?_getD, *]; done) | skip
  rename_i h1
  have hm : l.length ≤ 3 := by omega
  refine WP.findEI (fun i => .l0 (sumS l i) i (((l.map (·.name)).take i).reverse)) rfl l zSchool (schoolAt l) (fun i => 0 ≤ sumS l i ∧ sumS l i ≤ 60 * i) ⟨Int.le_refl _, Int.le_refl _⟩ (fun i hi hS => ?_) fun hI hS => ?_
  · have hr : inR .i64 ((i : Int) + 1) = true := inR64 (by omega) (by omega)
    have hl := map_take_len (·.name) l i (by omega)
    have hl' : ((l.map (·.name)).take i).length ≤ 4 := by simp; omega
    have ht := rev_take' (·.name) zSchool l i hi
    have hb : i + 1 ≤ 4294967296 := by omega
    rw [sumS_next]
    have hw : within (l.getD i zSchool).children 1 60 = true → inR .i64 (sumS l i + (l.getD i zSchool).children) = true ∧ 0 ≤ sumS l i + (l.getD i zSchool).children ∧ sumS l i + (l.getD i zSchool).children ≤ 60 * ((i : Int) + 1) := fun hw => by
      rw [within_iff] at hw
      exact ⟨inR64 (by omega) (by omega), by omega, by omega⟩
    refine WP.once ?_
    simp only [T102, Tr.sure, SS, hi, z3, List.reverse_reverse]
    repeat' with_reducible first | intro _ | apply And.intro
    all_goals first | exact c101r _ _ hl' | exact c58 _ _ _ | (simp [hr, schoolsErr, schoolAt, ht, hb, hl, Go, Ends', v102, -List.getD_eq_getElem?_getD, *]; done) | (simp_all [hr, schoolsErr, schoolAt, ht, hb, hl, Go, Ends', v102, -List.getD_eq_getElem?_getD]; done) | (simp +contextual [hr, schoolsErr, schoolAt, ht, hb, hl, Go, Ends', v102, -List.getD_eq_getElem?_getD, *]; done)
  · refine WP.step ?_
    simp only [T102, Go, Ends', v102, Tr.sure, SS, z3]
    repeat' with_reducible first | intro _ | apply And.intro
    all_goals simp [schoolsErr, hI, Go, Ends', v102, -List.getD_eq_getElem?_getD, *]
inductive P103
  | e
inductive R103
  | r0 (r0 : Bool)
noncomputable def T103 (c : Count) : P103 → Tr P103 R103
  | .e => (.call 58 [iI c.seen, iI 0, iI 60] (.bool (within c.seen 0 60)) true true (.br (within c.seen 0 60) (.call 58 [iI c.miss, iI 0, iI 5] (.bool (within c.miss 0 5)) true true (.out (.r0 (within c.miss 0 5)))) (.out (.r0 false))))
noncomputable def g103 (c : Count) : P103 → List Item × St
  | .e => bd Tryz.f103 [.agg [iI c.seen, iI c.miss]] 10
noncomputable def n103 : R103 → Exit × St
  | .r0 r0 => (.ret, ⟨mk 11 [(2, .bool r0)], [], []⟩)
noncomputable def v103 : R103 → V
  | .r0 r0 => .bool r0
theorem s103 (c : Count) : Sm 0 (g103 c) (T103 c) (n103)
  | .e => ⟨400, by kernel_rfl⟩
theorem q103 : ∀ r, bodyQ Tryz.prog Tryz.f103 (· = v103 r) (n103 r).1 (n103 r).2
  | .r0 r0 => bq (.bool r0) (by kernel_rfl)
theorem w103 (c : Count) {post : V → Prop} (h : WQ (T103 c) v103 post .e) : PC 103 [.agg [iI c.seen, iI c.miss]] post :=
  PCalls.wq Tryz.func103 (s103 c) q103 h
theorem c103 (c : Count) : PC 103 [.agg (tCount.cells c)] (· = .bool (countOk c)) := by
  refine w103 _ (WP.step ?_)
  simp only [T103, Go, Ends', v103, Tr.sure, SS]
  repeat' with_reducible first | intro _ | apply And.intro
  all_goals first | exact c58 _ _ _ | (simp [countOk, Go, Ends', v103, -List.getD_eq_getElem?_getD, *]; done)
inductive P60
  | e
  | l0 (x0_6 : Bool) (x0_7 : Int)
inductive R60
  | r0 (r0 : Int)
noncomputable def T60 (b : Book) (d : Day) : P60 → Tr P60 R60
  | .e => let c1 : Tr P60 R60 := .call 103 [.agg [iI d.door.seen, iI d.door.miss]] (.bool (countOk d.door)) true true (.br (countOk d.door) (.call 58 [iI d.taken, iI 0, iI 10000] (.bool (within d.taken 0 10000)) true true (.go (.l0 (within d.taken 0 10000) 0))) (.go (.l0 false 0))); let c2 := schoolsErr d.schools; let c3 : Tr P60 R60 := .br (c2 != (0 : Int)) (.out (.r0 c2)) c1; (.call 102 [tSchool.lst d.schools] (iI c2) true true (.br (c2 == (0 : Int)) (.br ((d.rooms.length : Int) != (b.rooms.length : Int)) (.br ((3 : Int) != (0 : Int)) (.out (.r0 3)) c1) c3) (.lit false c3)))
  | .l0 x0_6 x0_7 => let c1 := d.rooms.getD (x0_7).toNat tCount.zero; let c2 := x0_7 + (1 : Int); let c3 := x0_7 < (d.rooms.length : Int); (.br (decide c3) (.br x0_6 (.need (decide (0 ≤ x0_7) && decide c3) (.call 103 [.agg [iI (c1.seen), iI (c1.miss)]] (.bool (countOk c1)) true true (.need (inR .i64 c2) (.go (.l0 (countOk c1) c2))))) (.need (inR .i64 c2) (.go (.l0 false c2)))) (.br (!x0_6) (.out (.r0 7)) (.out (.r0 0))))
noncomputable def g60 (b : Book) (d : Day) : P60 → List Item × St
  | .e => bd Tryz.f60 [.agg (cC b), .agg [tSchool.lst d.schools, iI d.door.seen, iI d.door.miss, tCount.lst d.rooms, iI d.taken]] 49
  | .l0 x0_6 x0_7 => (cutOf Tryz.f60 0, ⟨mk 51 [(3, .ref 1 0 0), (6, .bool x0_6), (7, iI x0_7)], [.gone, .cells [tSchool.lst d.schools, iI d.door.seen, iI d.door.miss, tCount.lst d.rooms, iI d.taken]], []⟩)
noncomputable def n60 : R60 → Exit × St
  | .r0 r0 => (.ret, ⟨mk 51 [(4, iI r0)], [], []⟩)
noncomputable def v60 : R60 → V
  | .r0 r0 => iI r0
theorem s60 (b : Book) (d : Day) : Sm 0 (g60 b d) (T60 b d) (n60)
  | .e => ⟨400, by kernel_rfl⟩
  | .l0 _ _ => ⟨400, by kernel_rfl⟩
theorem q60 : ∀ r, bodyQ Tryz.prog Tryz.f60 (· = v60 r) (n60 r).1 (n60 r).2
  | .r0 r0 => bq (iI r0) (by kernel_rfl)
theorem w60 (b : Book) (d : Day) {post : V → Prop} (h : WQ (T60 b d) v60 post .e) : PC 60 [.agg (cC b), .agg [tSchool.lst d.schools, iI d.door.seen, iI d.door.miss, tCount.lst d.rooms, iI d.taken]] post :=
  PCalls.wq Tryz.func60 (s60 b d) q60 h
theorem c60 (b : Book) (d : Day) (h : b.rooms.length ≤ 3) : PC 60 [.agg (tBook.cells b), .agg (tDay.cells d)] (· = iI (dayErr b d)) := by
  have hmain : ¬ schoolsErr d.schools ≠ 0 → (d.rooms.length : Int) = b.rooms.length → WP Tryz.prog ⟨none, 0⟩ (T60 b d) (Ends' fun r => v60 r = iI (dayErr b d)) (.l0 (countOk d.door && within d.taken 0 10000) 0) := fun h1 h2 => by
    refine WP.run (fun i => .l0 (countOk d.door && within d.taken 0 10000 && (d.rooms.take i).all countOk) i) (by simp) d.rooms.length (fun i hi => ?_) ?_
    · have hr : inR .i64 ((i : Int) + 1) = true := inR64 (by omega) (by omega)
      have hi' : (i : Int) < d.rooms.length := by omega
      have ht : (d.rooms.take (i + 1)).all countOk = ((d.rooms.take i).all countOk && countOk (d.rooms.getD i zCount)) := by rw [take_snoc zCount d.rooms i hi, List.all_append]; simp
      rw [ht, ← Bool.and_assoc]
      generalize (countOk d.door && within d.taken 0 10000 && (d.rooms.take i).all countOk) = A
      cases A with
      | true =>
        refine WP.once ?_
        simp only [T60, Tr.sure, SS, hi', hi, z5]
        repeat' with_reducible first | intro _ | apply And.intro
        all_goals first | exact (c103 _) | (simp [hr, Go, Ends', v60, -List.getD_eq_getElem?_getD, *]; done)
      | false =>
        refine WP.once ?_
        simp only [T60, Tr.sure, SS, hi', hi, z5]
        repeat' with_reducible first | intro _ | apply And.intro
        all_goals simp [hr, Go, Ends', v60, -List.getD_eq_getElem?_getD, *]
    · rw [List.take_length]
      have e : dayErr b d = if (countOk d.door && within d.taken 0 10000 && d.rooms.all countOk) = true then 0 else 7 := by
        unfold dayErr; rw [if_neg h1, if_neg (fun q => q h2)]
      generalize (countOk d.door && within d.taken 0 10000 && d.rooms.all countOk) = A at *
      cases A with
      | true =>
        refine WP.step ?_
        simp only [T60, Go, Ends', v60, Tr.sure, SS, Int.lt_irrefl]
        repeat' with_reducible first | intro _ | apply And.intro
        all_goals simp [e, Go, Ends', v60, -List.getD_eq_getElem?_getD, *]
      | false =>
        refine WP.step ?_
        simp only [T60, Go, Ends', v60, Tr.sure, SS, Int.lt_irrefl]
        repeat' with_reducible first | intro _ | apply And.intro
        all_goals simp [e, Go, Ends', v60, -List.getD_eq_getElem?_getD, *]
  by_cases h1 : schoolsErr d.schools ≠ 0
  · have e : dayErr b d = schoolsErr d.schools := by unfold dayErr; rw [if_pos h1]
    refine w60 b d (WP.step ?_)
    simp only [T60, Go, Ends', v60, Tr.sure, SS]
    repeat' with_reducible first | intro _ | apply And.intro
    all_goals first | exact (c102 _) | exact (c103 _) | exact (c58 _ _ _) | (simp [e, Go, Ends', v60, -List.getD_eq_getElem?_getD, *]; done) | (simp_all [e, Go, Ends', v60, -List.getD_eq_getElem?_getD]; done)
  · by_cases h2 : (d.rooms.length : Int) = b.rooms.length
    · have hm := hmain h1 h2
      have h1' := Decidable.not_not.1 h1
      cases hc : countOk d.door with
      | true =>
        rw [hc, Bool.true_and] at hm
        refine w60 b d (WP.step ?_)
        simp only [T60, Go, Ends', v60, Tr.sure, SS]
        repeat' with_reducible first | intro _ | apply And.intro
        all_goals first | exact (c102 _) | exact (c103 _) | exact (c58 _ _ _) | exact hm | (simp_all [hc, h1', h2, Go, Ends', v60, -List.getD_eq_getElem?_getD]; done)
      | false =>
        rw [hc, Bool.false_and] at hm
        refine w60 b d (WP.step ?_)
        simp only [T60, Go, Ends', v60, Tr.sure, SS]
        repeat' with_reducible first | intro _ | apply And.intro
        all_goals first | exact (c102 _) | exact (c103 _) | exact (c58 _ _ _) | exact hm | (simp_all [hc, h1', h2, Go, Ends', v60, -List.getD_eq_getElem?_getD]; done)
    · have h1' := Decidable.not_not.1 h1
      have e : dayErr b d = 3 := by unfold dayErr; rw [if_neg h1, if_pos h2]
      refine w60 b d (WP.step ?_)
      simp only [T60, Go, Ends', v60, Tr.sure, SS]
      repeat' with_reducible first | intro _ | apply And.intro
      all_goals first | exact (c102 _) | exact (c103 _) | exact (c58 _ _ _) | (simp [e, h1', h2, Go, Ends', v60, -List.getD_eq_getElem?_getD, *]; done) | (simp_all [e, h1', h2, Go, Ends', v60, -List.getD_eq_getElem?_getD]; done)
inductive P14
  | e
  | l0 (x0_7 : Int)
inductive R14
  | r0 (r0 : Int) (r1 : Int) (r2 : Int)
noncomputable def T14 (b : Book) : P14 → Tr P14 R14
  | .e => let c1 := roomsErr b.rooms; (.call 58 [iI b.price, iI 2, iI 60] (.bool (within b.price 2 60)) true true (.br (!(within b.price 2 60)) (.out (.r0 1 0 7)) (.need (decide ((2 : Int) ≠ 0)) (.br ((b.price.tmod (2 : Int)) == (1 : Int)) (.out (.r0 1 0 2)) (.call 59 [tRoom.lst b.rooms] (.tuple [iI (c1.1), iI (c1.2)]) true true (.br (c1.2 != (0 : Int)) (.out (.r0 2 (c1.1) (c1.2))) (.br (decide ((b.days.length : Int) > (4 : Int))) (.out (.r0 3 0 3)) (.go (.l0 0)))))))))
  | .l0 x0_7 => let c1 := b.days.getD (x0_7).toNat tDay.zero; let c2 := x0_7 < (b.days.length : Int); (.br (decide c2) (.front [] [] (((decide (0 ≤ x0_7) && decide c2) && true) && true) true (.call 60 [.agg (cC b), .agg [tSchool.lst (c1.schools), iI (c1.door.seen), iI (c1.door.miss), tCount.lst (c1.rooms), iI (c1.taken)]] (iI (dayErr b c1)) true true (.br ((dayErr b c1) != (0 : Int)) (.out (.r0 3 x0_7 (dayErr b c1))) (.need (inR .i64 (x0_7 + (1 : Int))) (.go (.l0 (x0_7 + (1 : Int)))))))) (.out (.r0 0 0 0)))
noncomputable def g14 (b : Book) : P14 → List Item × St
  | .e => bd Tryz.f14 [.agg (cC b)] 47
  | .l0 x0_7 => (cutOf Tryz.f14 0, ⟨mk 48 [(1, .ref 0 0 0), (7, iI x0_7)], [.cells (cC b)], []⟩)
noncomputable def n14 : R14 → Exit × St
  | .r0 r0 r1 r2 => (.ret, ⟨mk 48 [(2, iI r0), (3, iI r1), (4, iI r2)], [], []⟩)
noncomputable def v14 : R14 → V
  | .r0 r0 r1 r2 => .tuple [iI r0, iI r1, iI r2]
theorem s14 (b : Book) : Sm 0 (g14 b) (T14 b) (n14)
  | .e => ⟨400, by kernel_rfl⟩
  | .l0 _ => ⟨400, by kernel_rfl⟩
theorem q14 : ∀ r, bodyQ Tryz.prog Tryz.f14 (· = v14 r) (n14 r).1 (n14 r).2
  | .r0 r0 r1 r2 => bq (.tuple [iI r0, iI r1, iI r2]) (by kernel_rfl)
theorem w14 (b : Book) {post : V → Prop} (h : WQ (T14 b) v14 post .e) : PC 14 [.agg (cC b)] post :=
  PCalls.wq Tryz.func14 (s14 b) q14 h
theorem c14 (b : Book) : PC 14 [.agg (tBook.cells b)] (· = .tuple [iI (bookCheck b).1, iI (bookCheck b).2.1, iI (bookCheck b).2.2]) := by
  refine w14 _ (WP.step ?_)
  simp only [T14, Go, Ends', v14, Tr.sure, SS]
  repeat' with_reducible first | intro _ | apply And.intro
  all_goals first | exact c58 _ _ _ | exact c59 _ | (simp [bookCheck, Go, Ends', v14, -List.getD_eq_getElem?_getD, *]; done) | skip
  rename_i h1 h2 h3 h4 h5
  have h6 := (okRooms h4).1
  refine WP.findE (fun i => .l0 i) rfl b.days tDay.zero (fun _ d => dayErr b d) (fun i hi => ?_) fun hI => ?_
  · have hr : inR .i64 ((i : Int) + 1) = true := inR64 (by omega) (by omega)
    refine WP.once ?_
    simp only [T14, Tr.sure, SS, hi]
    repeat' with_reducible first | intro _ | apply And.intro
    all_goals first | exact c60 _ _ h6 | (simp [hr, bookCheck, Go, Ends', v14, -List.getD_eq_getElem?_getD, *]; done) | (simp +contextual [hr, bookCheck, Go, Ends', v14, -List.getD_eq_getElem?_getD, *]; done)
  · refine WP.step ?_
    simp only [T14, Go, Ends', v14, Tr.sure, SS]
    repeat' with_reducible first | intro _ | apply And.intro
    all_goals simp [bookCheck, hI, Go, Ends', v14, -List.getD_eq_getElem?_getD, *]
inductive P62
  | e
inductive R62
  | r0 (r0 : Int)
noncomputable def T62 (b : Book) (n : Int) : P62 → Tr P62 R62
  | .e => let c1 := (b.price.tdiv (2 : Int)) * (n - (n.tdiv (13 : Int))); (.need (decide ((2 : Int) ≠ 0) && inR .i64 (b.price.tdiv (2 : Int))) (.need (decide ((13 : Int) ≠ 0) && inR .i64 (n.tdiv (13 : Int))) (.need (inR .i64 (n - (n.tdiv (13 : Int)))) (.need (inR .i64 c1) (.out (.r0 c1))))))
noncomputable def g62 (b : Book) (n : Int) : P62 → List Item × St
  | .e => bd Tryz.f62 [.agg (cC b), iI n] 11
noncomputable def n62 : R62 → Exit × St
  | .r0 r0 => (.ret, ⟨mk 13 [(4, iI r0)], [], []⟩)
noncomputable def v62 : R62 → V
  | .r0 r0 => iI r0
theorem s62 (b : Book) (n : Int) : Sm 0 (g62 b n) (T62 b n) (n62)
  | .e => ⟨400, by kernel_rfl⟩
theorem q62 : ∀ r, bodyQ Tryz.prog Tryz.f62 (· = v62 r) (n62 r).1 (n62 r).2
  | .r0 r0 => bq (iI r0) (by kernel_rfl)
theorem w62 (b : Book) (n : Int) {post : V → Prop} (h : WQ (T62 b n) v62 post .e) : PC 62 [.agg (cC b), iI n] post :=
  PCalls.wq Tryz.func62 (s62 b n) q62 h
theorem c62 (b : Book) (n : Int) (h : OkBook b) (hn : 0 ≤ n ∧ n ≤ 60) : PC 62 [.agg (tBook.cells b), iI n] (· = iI (feeR b n)) := by
  have hp := half_in h
  have hf := fee_in h hn
  have r1 : inR .i64 (b.price.tdiv 2) = true := inR64 (by omega) (by omega)
  have r2 : inR .i64 (n.tdiv 13) = true := inR64 (by omega) (by omega)
  have r3 : inR .i64 (n - n.tdiv 13) = true := inR64 (by omega) (by omega)
  have r4 : inR .i64 (b.price.tdiv 2 * (n - n.tdiv 13)) = true := by have := hf.1; have := hf.2.1; unfold feeR at *; exact inR64 (by omega) (by omega)
  clear hp hf
  refine w62 b n (WP.step ?_)
  simp only [T62, Go, Ends', v62, Tr.sure, SS]
  repeat' with_reducible first | intro _ | apply And.intro
  all_goals simp [r1, r2, r3, r4, feeR, Go, Ends', v62, -List.getD_eq_getElem?_getD, *]
inductive P16
  | e
inductive R16
  | r0 (r0 : Int) (r1 : Int)
noncomputable def T16 (b : Book) (n : Int) : P16 → Tr P16 R16
  | .e => let c1 : Tr P16 R16 := .call 62 [.agg (cC b), iI n] (iI (feeR b n)) true true (.out (.r0 (feeR b n) 0)); let c3 := bookCheck b; let c2 : Tr P16 R16 := .br (c3.2.2 != (0 : Int)) (.out (.r0 0 (c3.2.2))) c1; (.call 14 [.agg (cC b)] (.tuple [iI (c3.1), iI (c3.2.1), iI (c3.2.2)]) true true (.br (c3.2.2 == (0 : Int)) (.call 58 [iI n, iI 0, iI 60] (.bool (within n 0 60)) true true (.br (!(within n 0 60)) (.br ((7 : Int) != (0 : Int)) (.out (.r0 0 7)) c1) c2)) (.lit false c2)))
noncomputable def g16 (b : Book) (n : Int) : P16 → List Item × St
  | .e => bd Tryz.f16 [.agg (cC b), iI n] 26
noncomputable def n16 : R16 → Exit × St
  | .r0 r0 r1 => (.ret, ⟨mk 28 [(4, iI r0), (5, iI r1)], [], []⟩)
noncomputable def v16 : R16 → V
  | .r0 r0 r1 => .tuple [iI r0, iI r1]
theorem s16 (b : Book) (n : Int) : Sm 0 (g16 b n) (T16 b n) (n16)
  | .e => ⟨400, by kernel_rfl⟩
theorem q16 : ∀ r, bodyQ Tryz.prog Tryz.f16 (· = v16 r) (n16 r).1 (n16 r).2
  | .r0 r0 r1 => bq (.tuple [iI r0, iI r1]) (by kernel_rfl)
theorem w16 (b : Book) (n : Int) {post : V → Prop} (h : WQ (T16 b n) v16 post .e) : PC 16 [.agg (cC b), iI n] post :=
  PCalls.wq Tryz.func16 (s16 b n) q16 h
theorem c16 (b : Book) (n : Int) : PC 16 [.agg (tBook.cells b), iI n] (· = .tuple [iI (schoolR b n).1, iI (schoolR b n).2]) := by
  by_cases h : (bookCheck b).2.2 = 0
  · by_cases hn : within n 0 60 = true
    · have k := c62 b n (okBook h) (within_iff.1 hn)
      refine w16 b n (WP.step ?_)
      simp only [T16, Go, Ends', v16, Tr.sure, SS]
      repeat' with_reducible first | intro _ | apply And.intro
      all_goals first | exact (c14 _) | exact (c58 _ _ _) | exact k | (simp [schoolR, hn, h, Go, Ends', v16, -List.getD_eq_getElem?_getD, *]; done) | (simp_all [schoolR, hn, h, Go, Ends', v16, -List.getD_eq_getElem?_getD]; done)
    · have hn' := Bool.eq_false_iff.2 hn
      refine w16 b n (WP.step ?_)
      simp only [T16, Go, Ends', v16, Tr.sure, SS]
      repeat' with_reducible first | intro _ | apply And.intro
      all_goals first | exact (c14 _) | exact (c58 _ _ _) | (simp [schoolR, hn', h, Go, Ends', v16, -List.getD_eq_getElem?_getD, *]; done) | (simp_all [schoolR, hn', h, Go, Ends', v16, -List.getD_eq_getElem?_getD]; done)
  · refine w16 b n (WP.step ?_)
    simp only [T16, Go, Ends', v16, Tr.sure, SS]
    repeat' with_reducible first | intro _ | apply And.intro
    all_goals first | exact (c14 _) | exact (c58 _ _ _) | (simp [schoolR, h, Go, Ends', v16, -List.getD_eq_getElem?_getD, *]; done) | (simp_all [schoolR, h, Go, Ends', v16, -List.getD_eq_getElem?_getD]; done)
inductive P65
  | e
inductive R65
  | r0 (r0 : Int)
noncomputable def T65 (b : Book) (d : Int) : P65 → Tr P65 R65
  | .e => let c1 := (b.days.length : Int) - (1 : Int); let c2 := bookCheck b; (.call 14 [.agg (cC b)] (.tuple [iI (c2.1), iI (c2.2.1), iI (c2.2.2)]) true true (.br (c2.2.2 == (0 : Int)) (.need (inR .i64 c1) (.call 58 [iI d, iI 0, iI c1] (.bool (within d 0 c1)) true true (.br (!(within d 0 c1)) (.out (.r0 4)) (.out (.r0 (c2.2.2)))))) (.lit false (.out (.r0 (c2.2.2))))))
noncomputable def g65 (b : Book) (d : Int) : P65 → List Item × St
  | .e => bd Tryz.f65 [.agg (cC b), iI d] 24
noncomputable def n65 : R65 → Exit × St
  | .r0 r0 => (.ret, ⟨mk 26 [(4, iI r0)], [], []⟩)
noncomputable def v65 : R65 → V
  | .r0 r0 => iI r0
theorem s65 (b : Book) (d : Int) : Sm 0 (g65 b d) (T65 b d) (n65)
  | .e => ⟨400, by kernel_rfl⟩
theorem q65 : ∀ r, bodyQ Tryz.prog Tryz.f65 (· = v65 r) (n65 r).1 (n65 r).2
  | .r0 r0 => bq (iI r0) (by kernel_rfl)
theorem w65 (b : Book) (d : Int) {post : V → Prop} (h : WQ (T65 b d) v65 post .e) : PC 65 [.agg (cC b), iI d] post :=
  PCalls.wq Tryz.func65 (s65 b d) q65 h
theorem c65 (b : Book) (d : Int) : PC 65 [.agg (tBook.cells b), iI d] (· = iI (askedR b d)) := by
  by_cases h : (bookCheck b).2.2 = 0
  · have hd := (okBook h).nd
    have r : inR .i64 ((b.days.length : Int) - 1) = true := inR64 (by omega) (by omega)
    refine w65 b d (WP.step ?_)
    simp only [T65, Go, Ends', v65, Tr.sure, SS]
    repeat' with_reducible first | intro _ | apply And.intro
    all_goals first | exact (c14 _) | exact (c58 _ _ _) | (simp [askedR, r, h, Go, Ends', v65, -List.getD_eq_getElem?_getD, *]; done) | (simp_all [askedR, r, h, Go, Ends', v65, -List.getD_eq_getElem?_getD]; done)
  · refine w65 b d (WP.step ?_)
    simp only [T65, Go, Ends', v65, Tr.sure, SS]
    repeat' with_reducible first | intro _ | apply And.intro
    all_goals first | exact (c14 _) | exact (c58 _ _ _) | (simp [askedR, h, Go, Ends', v65, -List.getD_eq_getElem?_getD, *]; done) | (simp_all [askedR, h, Go, Ends', v65, -List.getD_eq_getElem?_getD]; done)
inductive P44
  | e
  | l0 (x0_5 : Int) (x0_6 : Int)
inductive R44
  | r0 (r0 : Int)
noncomputable def T44 (b : Book) (d : Int) : P44 → Tr P44 R44
  | .e => (.go (.l0 0 0))
  | .l0 x0_5 x0_6 => let c1 := (((b.days.getD (d).toNat tDay.zero).schools).getD (x0_6).toNat tSchool.zero).children; let c2 := x0_6 < (((b.days.getD (d).toNat tDay.zero).schools.length) : Int); let c3 := decide (0 ≤ d) && decide (d < (b.days.length : Int)); (.need c3 (.br (decide c2) (.front [(12, 62, [.agg (cC b), iI c1], iI (feeR b c1))] [] ((c3 && ((decide (0 ≤ x0_6) && decide c2) && ((inR .i64 (x0_5 + (feeR b c1))) && true))) && true) true (.need (inR .i64 (x0_6 + (1 : Int))) (.go (.l0 (x0_5 + (feeR b c1)) (x0_6 + (1 : Int)))))) (.out (.r0 x0_5))))
noncomputable def g44 (b : Book) (d : Int) : P44 → List Item × St
  | .e => bd Tryz.f44 [.agg (cC b), iI d] 31
  | .l0 x0_5 x0_6 => (cutOf Tryz.f44 0, ⟨mk 33 [(1, iI d), (2, .ref 0 0 0), (5, iI x0_5), (6, iI x0_6)], [.cells (cC b)], []⟩)
noncomputable def n44 : R44 → Exit × St
  | .r0 r0 => (.ret, ⟨mk 33 [(4, iI r0)], [], []⟩)
noncomputable def v44 : R44 → V
  | .r0 r0 => iI r0
theorem s44 (b : Book) (d : Int) : Sm 0 (g44 b d) (T44 b d) (n44)
  | .e => ⟨400, by kernel_rfl⟩
  | .l0 _ _ => ⟨400, by kernel_rfl⟩
theorem q44 : ∀ r, bodyQ Tryz.prog Tryz.f44 (· = v44 r) (n44 r).1 (n44 r).2
  | .r0 r0 => bq (iI r0) (by kernel_rfl)
theorem w44 (b : Book) (d : Int) {post : V → Prop} (h : WQ (T44 b d) v44 post .e) : PC 44 [.agg (cC b), iI d] post :=
  PCalls.wq Tryz.func44 (s44 b d) q44 h
theorem c44 (b : Book) (d : Int) (h : OkBook b) (hd : 0 ≤ d ∧ d < b.days.length) : PC 44 [.agg (tBook.cells b), iI d] (· = iI (feesD b d)) := by
  have hday := h.day _ (getD_mem zDay b.days d.toNat (by omega))
  have hns := hday.ns
  unfold feesD feesR dayOf
  refine w44 b d (WP.step ?_)
  simp only [T44, Go, Ends', v44, Tr.sure, SS]
  repeat' with_reducible first | intro _ | apply And.intro
  generalize hD : b.days.getD d.toNat zDay = D at *
  refine WP.run (fun i => .l0 (feesTo b D.schools i) i) rfl D.schools.length (fun i hi => ?_) ?_
  · have hin := fees_in h hday.school i (by omega)
    have hs := hday.school _ (getD_mem zSchool D.schools i hi)
    have hf := fee_in h (n := (D.schools.getD i zSchool).children) (by omega)
    have hc := c62 b (D.schools.getD i zSchool).children h (by omega)
    have hi' : (i : Int) < D.schools.length := by omega
    have r1 : inR .i64 (feesTo b D.schools i + feeR b (D.schools.getD i zSchool).children) = true := inR64 (by omega) (by omega)
    have r2 : inR .i64 ((i : Int) + 1) = true := inR64 (by omega) (by omega)
    rw [fees_next]
    refine WP.once ?_
    simp only [T44, Tr.sure, SS, hi', hi, z3, z8, hD]
    repeat' with_reducible first | intro _ | apply And.intro
    all_goals first | exact hc | (simp [r1, r2, hd, Go, Ends', v44, -List.getD_eq_getElem?_getD, *]; done)
  · refine WP.step ?_
    simp only [T44, Go, Ends', v44, Tr.sure, SS, z8, hD, Int.lt_irrefl]
    repeat' with_reducible first | intro _ | apply And.intro
    all_goals simp [hd, Go, Ends', v44, -List.getD_eq_getElem?_getD, *]
inductive P66
  | e
  | l0 (x0_5 : Int) (x0_6 : Int)
inductive R66
  | r0 (r0 : Int)
noncomputable def T66 (b : Book) (d : Int) : P66 → Tr P66 R66
  | .e => (.go (.l0 0 0))
  | .l0 x0_5 x0_6 => let c1 := x0_5 + (((b.days.getD (d).toNat tDay.zero).schools).getD (x0_6).toNat tSchool.zero).children; let c2 := x0_6 < (((b.days.getD (d).toNat tDay.zero).schools.length) : Int); let c3 := decide (0 ≤ d) && decide (d < (b.days.length : Int)); (.need c3 (.br (decide c2) (.need c3 (.need (decide (0 ≤ x0_6) && decide c2) (.need (inR .i64 c1) (.need (inR .i64 (x0_6 + (1 : Int))) (.go (.l0 c1 (x0_6 + (1 : Int)))))))) (.out (.r0 x0_5))))
noncomputable def g66 (b : Book) (d : Int) : P66 → List Item × St
  | .e => bd Tryz.f66 [.agg (cC b), iI d] 29
  | .l0 x0_5 x0_6 => (cutOf Tryz.f66 0, ⟨mk 31 [(1, iI d), (2, .ref 0 0 0), (5, iI x0_5), (6, iI x0_6)], [.cells (cC b)], []⟩)
noncomputable def n66 : R66 → Exit × St
  | .r0 r0 => (.ret, ⟨mk 31 [(4, iI r0)], [], []⟩)
noncomputable def v66 : R66 → V
  | .r0 r0 => iI r0
theorem s66 (b : Book) (d : Int) : Sm 0 (g66 b d) (T66 b d) (n66)
  | .e => ⟨400, by kernel_rfl⟩
  | .l0 _ _ => ⟨400, by kernel_rfl⟩
theorem q66 : ∀ r, bodyQ Tryz.prog Tryz.f66 (· = v66 r) (n66 r).1 (n66 r).2
  | .r0 r0 => bq (iI r0) (by kernel_rfl)
theorem w66 (b : Book) (d : Int) {post : V → Prop} (h : WQ (T66 b d) v66 post .e) : PC 66 [.agg (cC b), iI d] post :=
  PCalls.wq Tryz.func66 (s66 b d) q66 h
theorem c66 (b : Book) (d : Int) (h : OkBook b) (hd : 0 ≤ d ∧ d < b.days.length) : PC 66 [.agg (tBook.cells b), iI d] (· = iI (pupilsD b d)) := by
  have hday := h.day _ (getD_mem zDay b.days d.toNat (by omega))
  have hns := hday.ns
  unfold pupilsD pupilsR dayOf
  refine w66 b d (WP.step ?_)
  simp only [T66, Go, Ends', v66, Tr.sure, SS]
  repeat' with_reducible first | intro _ | apply And.intro
  generalize hD : b.days.getD d.toNat zDay = D at *
  refine WP.run (fun i => .l0 (sumS D.schools i) i) rfl D.schools.length (fun i hi => ?_) ?_
  · have hin := sum_in hday.school i (by omega)
    have hs := hday.school _ (getD_mem zSchool D.schools i hi)
    have hi' : (i : Int) < D.schools.length := by omega
    have r1 : inR .i64 (sumS D.schools i + (D.schools.getD i zSchool).children) = true := inR64 (by omega) (by omega)
    have r2 : inR .i64 ((i : Int) + 1) = true := inR64 (by omega) (by omega)
    rw [sumS_next]
    refine WP.once ?_
    simp only [T66, Tr.sure, SS, hi', hi, z3, z8, hD]
    repeat' with_reducible first | intro _ | apply And.intro
    all_goals simp [r1, r2, hd, Go, Ends', v66, -List.getD_eq_getElem?_getD, *]
  · refine WP.step ?_
    simp only [T66, Go, Ends', v66, Tr.sure, SS, z8, hD, Int.lt_irrefl]
    repeat' with_reducible first | intro _ | apply And.intro
    all_goals simp [hd, Go, Ends', v66, -List.getD_eq_getElem?_getD, *]
inductive P18
  | e
inductive R18
  | r0 (r0 : Int) (r1 : Int) (r2 : Int)
noncomputable def T18 (b : Book) (d : Int) : P18 → Tr P18 R18
  | .e => let c1 : List V := [.agg (cC b), iI d]; let c2 := pupilsD b d; (.call 65 c1 (iI (askedR b d)) true true (.br ((askedR b d) != (0 : Int)) (.out (.r0 0 0 (askedR b d))) (.front [(2, 44, c1, iI (feesD b d)), (6, 66, c1, iI c2)] [] true true (.call 62 [.agg (cC b), iI c2] (iI (feeR b c2)) true true (.out (.r0 (feesD b d) (feeR b c2) 0))))))
noncomputable def g18 (b : Book) (d : Int) : P18 → List Item × St
  | .e => bd Tryz.f18 [.agg (cC b), iI d] 20
noncomputable def n18 : R18 → Exit × St
  | .r0 r0 r1 r2 => (.ret, ⟨mk 22 [(4, iI r0), (5, iI r1), (6, iI r2)], [], []⟩)
noncomputable def v18 : R18 → V
  | .r0 r0 r1 r2 => .tuple [iI r0, iI r1, iI r2]
theorem s18 (b : Book) (d : Int) : Sm 0 (g18 b d) (T18 b d) (n18)
  | .e => ⟨400, by kernel_rfl⟩
theorem q18 : ∀ r, bodyQ Tryz.prog Tryz.f18 (· = v18 r) (n18 r).1 (n18 r).2
  | .r0 r0 r1 r2 => bq (.tuple [iI r0, iI r1, iI r2]) (by kernel_rfl)
theorem w18 (b : Book) (d : Int) {post : V → Prop} (h : WQ (T18 b d) v18 post .e) : PC 18 [.agg (cC b), iI d] post :=
  PCalls.wq Tryz.func18 (s18 b d) q18 h
theorem c18 (b : Book) (d : Int) : PC 18 [.agg (tBook.cells b), iI d] (· = .tuple [iI (togetherR b d).1, iI (togetherR b d).2.1, iI (togetherR b d).2.2]) := by
  by_cases h : askedR b d = 0
  · obtain ⟨h1, h2, h3, h4⟩ := asked_ok h
    have k1 := c44 b d h1 ⟨h2, h3⟩
    have k2 := c66 b d h1 ⟨h2, h3⟩
    have k3 := c62 b (pupilsD b d) h1 (pupils_in h4)
    have e : togetherR b d = (feesD b d, feeR b (pupilsD b d), 0) := by unfold togetherR; rw [if_neg (fun q => q h)]; rfl
    refine w18 b d (WP.step ?_)
    simp only [T18, Go, Ends', v18, Tr.sure, SS]
    repeat' with_reducible first | intro _ | apply And.intro
    all_goals first | exact (c65 _ _) | exact k1 | exact k2 | exact k3 | (simp [e, h, Go, Ends', v18, -List.getD_eq_getElem?_getD, *]; done) | (simp_all [e, h, Go, Ends', v18, -List.getD_eq_getElem?_getD]; done)
  · have e : togetherR b d = (0, 0, askedR b d) := by unfold togetherR; rw [if_pos h]
    refine w18 b d (WP.step ?_)
    simp only [T18, Go, Ends', v18, Tr.sure, SS]
    repeat' with_reducible first | intro _ | apply And.intro
    all_goals first | exact (c65 _ _) | (simp [e, h, Go, Ends', v18, -List.getD_eq_getElem?_getD, *]; done) | (simp_all [e, h, Go, Ends', v18, -List.getD_eq_getElem?_getD]; done)
inductive P45
  | e
  | l0 (x0_5 : Int) (x0_6 : Int)
inductive R45
  | r0 (r0 : Int)
noncomputable def T45 (b : Book) (r : List Int) : P45 → Tr P45 R45
  | .e => (.go (.l0 0 0))
  | .l0 x0_5 x0_6 => let c1 := (r.getD (x0_6).toNat tint.zero) * (b.rooms.getD (x0_6).toNat tRoom.zero).more; (.br (decide (x0_6 < (r.length : Int))) (.front [] [] (((decide (0 ≤ x0_6) && decide (x0_6 < (r.length : Int))) && ((decide (0 ≤ x0_6) && decide (x0_6 < (b.rooms.length : Int))) && ((inR .i64 c1) && ((inR .i64 (x0_5 + c1)) && true)))) && true) true (.need (inR .i64 (x0_6 + (1 : Int))) (.go (.l0 (x0_5 + c1) (x0_6 + (1 : Int)))))) (.out (.r0 x0_5)))
noncomputable def g45 (b : Book) (r : List Int) : P45 → List Item × St
  | .e => bd Tryz.f45 [.agg (cC b), tint.lst r] 25
  | .l0 x0_5 x0_6 => (cutOf Tryz.f45 0, ⟨mk 27 [(1, tint.lst r), (2, .ref 0 0 0), (5, iI x0_5), (6, iI x0_6)], [.cells (cC b)], []⟩)
noncomputable def n45 : R45 → Exit × St
  | .r0 r0 => (.ret, ⟨mk 27 [(4, iI r0)], [], []⟩)
noncomputable def v45 : R45 → V
  | .r0 r0 => iI r0
theorem s45 (b : Book) (r : List Int) : Sm 0 (g45 b r) (T45 b r) (n45)
  | .e => ⟨400, by kernel_rfl⟩
  | .l0 _ _ => ⟨400, by kernel_rfl⟩
theorem q45 : ∀ r, bodyQ Tryz.prog Tryz.f45 (· = v45 r) (n45 r).1 (n45 r).2
  | .r0 r0 => bq (iI r0) (by kernel_rfl)
theorem w45 (b : Book) (r : List Int) {post : V → Prop} (h : WQ (T45 b r) v45 post .e) : PC 45 [.agg (cC b), tint.lst r] post :=
  PCalls.wq Tryz.func45 (s45 b r) q45 h
theorem c45 (b : Book) (r : List Int) (h : OkBook b) (hr : ∀ n ∈ r, 0 ≤ n ∧ n ≤ 100000) (hl : r.length ≤ b.rooms.length) : PC 45 [.agg (tBook.cells b), tint.lst r] (· = iI (extraR b r)) := by
  have h3 := h.nr
  refine w45 b r (WP.step ?_)
  simp only [T45, Go, Ends', v45, Tr.sure, SS]
  repeat' with_reducible first | intro _ | apply And.intro
  refine WP.run (fun i => .l0 (extraTo b r i) i) rfl r.length (fun i hi => ?_) ?_
  · have hin := extra_in h hr hl i (by omega)
    have hs := hin.2.2 hi
    have hi' : (i : Int) < r.length := by omega
    have hb' : (i : Int) < b.rooms.length := by omega
    have r0 : inR .i64 (r.getD i 0 * (b.rooms.getD i zRoom).more) = true := inR64 (by omega) (by omega)
    have r1 : inR .i64 (extraTo b r i + r.getD i 0 * (b.rooms.getD i zRoom).more) = true := inR64 (by omega) (by omega)
    have r2 : inR .i64 ((i : Int) + 1) = true := inR64 (by omega) (by omega)
    rw [extra_next]
    refine WP.once ?_
    simp only [T45, Tr.sure, SS, hi', hb', hi, z1, z2]
    repeat' with_reducible first | intro _ | apply And.intro
    all_goals simp [r0, r1, r2, Go, Ends', v45, -List.getD_eq_getElem?_getD, *]
  · refine WP.step ?_
    simp only [T45, Go, Ends', v45, Tr.sure, SS, Int.lt_irrefl]
    repeat' with_reducible first | intro _ | apply And.intro
    all_goals simp [extraR, Go, Ends', v45, -List.getD_eq_getElem?_getD, *]
end
noncomputable section
inductive P71
  | e
inductive R71
  | r0 (r0_0 : Int) (r0_1 : Int)
noncomputable def T71 (c : Count) (most : Int) (off : Bool) : P71 → Tr P71 R71
  | .e => (.br off (.out (.r0 0 most)) (.need (inR .i64 (c.seen + c.miss)) (.out (.r0 c.seen (min most (c.seen + c.miss))))))
noncomputable def g71 (c : Count) (most : Int) (off : Bool) : P71 → List Item × St
  | .e => bd Tryz.f71 [.agg [iI c.seen, iI c.miss], iI most, .bool off] 17
noncomputable def n71 : R71 → Exit × St
  | .r0 r0_0 r0_1 => (.ret, ⟨mk 20 [(6, .ref 1 0 0)], [.gone, .cells [iI r0_0, iI r0_1]], []⟩)
noncomputable def v71 : R71 → V
  | .r0 r0_0 r0_1 => .agg [iI r0_0, iI r0_1]
theorem s71 (c : Count) (most : Int) (off : Bool) : Sm 0 (g71 c most off) (T71 c most off) (n71)
  | .e => ⟨400, by kernel_rfl⟩
theorem q71 : ∀ r, bodyQ Tryz.prog Tryz.f71 (· = v71 r) (n71 r).1 (n71 r).2
  | .r0 r0_0 r0_1 => bq (.agg [iI r0_0, iI r0_1]) (by kernel_rfl)
theorem w71 (c : Count) (most : Int) (off : Bool) {post : V → Prop} (h : WQ (T71 c most off) v71 post .e) : PC 71 [.agg [iI c.seen, iI c.miss], iI most, .bool off] post :=
  PCalls.wq Tryz.func71 (s71 c most off) q71 h
theorem c71 (c : Count) (most : Int) (off : Bool) (h : (0 ≤ c.seen ∧ c.seen ≤ 60) ∧ 0 ≤ c.miss ∧ c.miss ≤ 1000) : PC 71 [.agg (tCount.cells c), iI most, .bool off] (· = .agg (tSpan.cells (between c most off))) := by
  have r : inR .i64 (c.seen + c.miss) = true := inR64 (by omega) (by omega)
  cases off with
  | true =>
    refine w71 c most true (WP.step ?_)
    simp only [T71, Go, Ends', v71, Tr.sure, SS]
    repeat' with_reducible first | intro _ | apply And.intro
    all_goals simp [r, between, tSpan, Go, Ends', v71, -List.getD_eq_getElem?_getD, *]
  | false =>
    refine w71 c most false (WP.step ?_)
    simp only [T71, Go, Ends', v71, Tr.sure, SS]
    repeat' with_reducible first | intro _ | apply And.intro
    all_goals simp [r, between, tSpan, Go, Ends', v71, -List.getD_eq_getElem?_getD, *]
theorem VLe.litNil {τ : Type} {E : Ty τ} : VLe (.list 1 1 (litC 1 1 [.nils])) ((tlist E).lst ([[]] : List (List τ))) := fun G β x hx => by
  cases hx with
  | list hG hs hc hn h =>
    refine .list hG hs hc hn fun i j hi hj => ?_
    have hj0 : j = 0 := by have : j < 1 := hj; omega
    have hi0 : i = 0 := by have : i < 1 := hi; omega
    subst hj0; subst hi0
    exact VLe.nils _ _ _ (h 0 0 (by omega) (by omega))
theorem app1_int (l : List Int) (n : Int) : VLe (.list 1 (0 + l.length + 1) (appC (0 + l.length) (appC 0 (litC 1 0 []) (rowsOf tint l)) (litC 1 1 [iI n]))) (tint.lst (l ++ [n])) := by
  have e : appC (0 + l.length) (appC 0 (litC 1 0 []) (rowsOf tint l)) (litC 1 1 [iI n]) = fun r j => if r < l.length then rowsOf tint l r j else litC 1 1 [iI n] (r - l.length) j := by
    funext r j; unfold appC; simp
  rw [e]
  show VLe _ (.list 1 (l ++ [n]).length (rowsOf tint (l ++ [n])))
  rw [show (l ++ [n]).length = 0 + l.length + 1 by simp]
  refine VLe.list fun r j hr hj => ?_
  obtain rfl : j = 0 := by omega
  by_cases h : r < l.length
  · rw [if_pos h]; simp [rowsOf, List.getD_eq_getElem?_getD, List.getElem?_append_left h]; try exact VLe.refl _
  · rw [if_neg h]
    have e : r = l.length := by omega
    subst e
    simp only [rowsOf, litC, List.getD_eq_getElem?_getD, tint, Nat.sub_self]
    simp
    try exact VLe.refl _
inductive P72
  | e
  | l0 (x0_9 : List (List Int)) (x0_10 : Int)
  | l1 (x0_9 : List (List Int)) (x0_10 : Int) (x1_13 : Int) (a1_2 : List (List Int))
  | l2 (x0_9 : List (List Int)) (x0_10 : Int) (x1_13 : Int) (x2_14 : Int) (a2_2 : List (List Int))
inductive R72
  | r0 (r0 : List (List Int))
noncomputable def T72 (b : Book) (d : Int) (all : Int) (off : List Int) : P72 → Tr P72 R72
  | .e => let c1 := ([[]] : List (List Int)); let c2 : V := .list 1 1 (litC 1 1 [.nils]); (.wait 8 (.frz 1 ((decide (1 ≤ 1)) && ((decide (1 ≤ 1)) && true)) (.vle 9 c2 ((tlist tint).lst c1) (.vle 15 c2 ((tlist tint).lst c1) (.go (.l0 c1 0))))))
  | .l0 x0_9 x0_10 => let c1 := ((b.days.getD (d).toNat tDay.zero).rooms).getD (x0_10).toNat tCount.zero; let c2 := min all ((b.rooms.getD (x0_10).toNat tRoom.zero).full); let c3 := hasN off x0_10; let c4 := x0_10 < (b.rooms.length : Int); (.br (decide c4) (.front [(19, 92, [tint.lst off, iI x0_10], .bool c3), (20, 71, [.agg [iI (c1.seen), iI (c1.miss)], iI c2, .bool c3], .agg [iI ((between c1 c2 c3).lo), iI ((between c1 c2 c3).hi)])] [] (((decide (0 ≤ d) && decide (d < (b.days.length : Int))) && ((decide (0 ≤ x0_10) && decide (x0_10 < (((b.days.getD (d).toNat tDay.zero).rooms.length) : Int))) && ((decide (0 ≤ x0_10) && decide c4) && true))) && true) true (.wait 2 (.own 12 40 1 (.go (.l1 x0_9 x0_10 0 ([])))))) (.out (.r0 x0_9)))
  | .l1 x0_9 x0_10 x1_13 a1_2 => let c1 : V := .list 1 a1_2.length (rowsRev (tlist tint) a1_2); let c2 := decide (a1_2.length ≤ a1_2.length); let c3 := (tlist tint).lst a1_2.reverse; (.br (decide (x1_13 < (x0_9.length : Int))) (.go (.l2 x0_9 x0_10 x1_13 ((between (((b.days.getD (d).toNat tDay.zero).rooms).getD (x0_10).toNat tCount.zero) (min all ((b.rooms.getD (x0_10).toNat tRoom.zero).full)) (hasN off x0_10)).lo) a1_2)) (.need (inR .i64 (x0_10 + (1 : Int))) (.frz 2 (c2 && (c2 && (c2 && true))) (.vle 9 c1 c3 (.vle 12 c1 c3 (.vle 70 c1 c3 (.go (.l0 a1_2.reverse (x0_10 + (1 : Int))))))))))
  | .l2 x0_9 x0_10 x1_13 x2_14 a2_2 => let c1 := x0_9.getD (x1_13).toNat (tlist tint).zero; let c2 := (0 + c1.length) + 1; (.br (decide (x2_14 ≤ (between (((b.days.getD (d).toNat tDay.zero).rooms).getD (x0_10).toNat tCount.zero) (min all ((b.rooms.getD (x0_10).toNat tRoom.zero).full)) (hasN off x0_10)).hi)) (.need (decide (0 ≤ x1_13) && decide (x1_13 < (x0_9.length : Int))) (.need ((decide (0 = 0) && decide (0 + c1.length ≤ 4294967296)) && true) (.scal (fun r => (List.range 1).all fun j => ((rowsOf tint c1) r j).scalar) (.need ((decide ((0 + c1.length) = (0 + c1.length)) && decide ((0 + c1.length) + 1 ≤ 4294967296)) && decide (1 ≤ 1)) (.scal (fun _ => true) (.wait 0 (.frz 3 ((decide (c2 ≤ c2)) && true) (.wait 0 (.vle 67 (.list 1 c2 (appC (0 + c1.length) (appC 0 (litC 1 0 []) (rowsOf tint c1)) (litC 1 1 [iI x2_14]))) (tint.lst (c1 ++ [x2_14])) (.need ((decide (a2_2.length = a2_2.length) && decide (a2_2.length + 1 ≤ 4294967296)) && decide (1 ≤ 1)) (.scal (fun _ => true) (.need (inR .i64 (x2_14 + (1 : Int))) (.go (.l2 x0_9 x0_10 x1_13 (x2_14 + (1 : Int)) ((c1 ++ [x2_14]) :: a2_2))))))))))))))) (.need (inR .i64 (x1_13 + (1 : Int))) (.go (.l1 x0_9 x0_10 (x1_13 + (1 : Int)) a2_2))))
noncomputable def g72 (b : Book) (d : Int) (all : Int) (off : List Int) : P72 → List Item × St
  | .e => bd Tryz.f72 [.agg (cC b), iI d, iI all, tint.lst off] 68
  | .l0 x0_9 x0_10 => (cutOf Tryz.f72 0, ⟨mk 72 [(1, iI d), (2, iI all), (3, tint.lst off), (4, .ref 0 0 0), (9, (tlist tint).lst x0_9), (10, iI x0_10)], [.cells (cC b)], []⟩)
  | .l1 x0_9 x0_10 x1_13 a1_2 => (cutOf Tryz.f72 1, ⟨mk 72 [(1, iI d), (2, iI all), (3, tint.lst off), (4, .ref 0 0 0), (9, (tlist tint).lst x0_9), (10, iI x0_10), (11, .ref 1 0 0), (12, .row 2 a1_2.length), (13, iI x1_13)], [.cells (cC b), .cells [iI ((between (((b.days.getD (d).toNat tDay.zero).rooms).getD (x0_10).toNat tCount.zero) (min all ((b.rooms.getD (x0_10).toNat tRoom.zero).full)) (hasN off x0_10)).lo), iI ((between (((b.days.getD (d).toNat tDay.zero).rooms).getD (x0_10).toNat tCount.zero) (min all ((b.rooms.getD (x0_10).toNat tRoom.zero).full)) (hasN off x0_10)).hi)], .rows 40 1 a1_2.length (rowsRev (tlist tint) a1_2)], []⟩)
  | .l2 x0_9 x0_10 x1_13 x2_14 a2_2 => (cutOf Tryz.f72 2, ⟨mk 72 [(1, iI d), (2, iI all), (3, tint.lst off), (4, .ref 0 0 0), (9, (tlist tint).lst x0_9), (10, iI x0_10), (11, .ref 1 0 0), (12, .row 2 a2_2.length), (13, iI x1_13), (14, iI x2_14)], [.cells (cC b), .cells [iI ((between (((b.days.getD (d).toNat tDay.zero).rooms).getD (x0_10).toNat tCount.zero) (min all ((b.rooms.getD (x0_10).toNat tRoom.zero).full)) (hasN off x0_10)).lo), iI ((between (((b.days.getD (d).toNat tDay.zero).rooms).getD (x0_10).toNat tCount.zero) (min all ((b.rooms.getD (x0_10).toNat tRoom.zero).full)) (hasN off x0_10)).hi)], .rows 40 1 a2_2.length (rowsRev (tlist tint) a2_2)], []⟩)
noncomputable def n72 : R72 → Exit × St
  | .r0 r0 => (.ret, ⟨mk 72 [(8, (tlist tint).lst r0)], [], []⟩)
noncomputable def v72 : R72 → V
  | .r0 r0 => (tlist tint).lst r0
theorem s72 (b : Book) (d : Int) (all : Int) (off : List Int) : Sm 0 (g72 b d all off) (T72 b d all off) (n72)
  | .e => ⟨400, by kernel_rfl⟩
  | .l0 _ _ => ⟨400, by kernel_rfl⟩
  | .l1 _ _ _ _ => ⟨400, by kernel_rfl⟩
  | .l2 _ _ _ _ _ => ⟨400, by kernel_rfl⟩
theorem q72 : ∀ r, bodyQ Tryz.prog Tryz.f72 (· = v72 r) (n72 r).1 (n72 r).2
  | .r0 r0 => bq ((tlist tint).lst r0) (by kernel_rfl)
theorem w72 (b : Book) (d : Int) (all : Int) (off : List Int) {post : V → Prop} (h : WQ (T72 b d all off) v72 post .e) : PC 72 [.agg (cC b), iI d, iI all, tint.lst off] post :=
  PCalls.wq Tryz.func72 (s72 b d all off) q72 h
theorem c72 (b : Book) (d all : Int) (off : List Int) (h : OkBook b) (hd : 0 ≤ d ∧ d < b.days.length) (ha : 0 ≤ all ∧ all ≤ 60) : PC 72 [.agg (tBook.cells b), iI d, iI all, tint.lst off] (· = (tlist tint).lst (inRoomsR b d all off)) := by
  have hday := h.day _ (getD_mem zDay b.days d.toNat (by omega))
  have h3 := h.nr
  have hmany := hday.many
  unfold inRoomsR dayOf
  refine w72 b d all off (WP.step ?_)
  simp only [T72, Go, Ends', v72, Tr.sure, SS]
  repeat' with_reducible first | intro _ | apply And.intro
  all_goals first | exact VLe.litNil | (simp [Go, Ends', v72, -List.getD_eq_getElem?_getD, *]; done) | skip
  generalize hD : b.days.getD d.toNat zDay = D at *
  refine WP.run (fun i => .l0 (roomsN b D all off i) i) rfl b.rooms.length (fun i hi => ?_) ?_
  · have hr : inR .i64 ((i : Int) + 1) = true := inR64 (by omega) (by omega)
    have hsm := rooms_small h hday all off (i := i) (by omega)
    have hrm := hday.room _ (getD_mem zCount D.rooms i (by omega))
    have k71 := c71 (D.rooms.getD i zCount) (min all (b.rooms.getD i zRoom).full) (hasN off (i : Int)) hrm
    have hi1 : (i : Int) < b.rooms.length := by omega
    have hi2 : (i : Int) < D.rooms.length := by omega
    have hsp := spanAt_in h hday all off hi
    have hspe : between (D.rooms.getD i zCount) (min all (b.rooms.getD i zRoom).full) (hasN off (i : Int)) = spanAt b D all off i := rfl
    have hgl := growL_len (s := spanAt b D all off i) ⟨hsp.1, hsp.2.2⟩
    refine WP.step ?_
    simp only [T72, Go, Ends', v72, Tr.sure, SS, hi1, hd, z8, z5, z2, hD]
    repeat' with_reducible first | intro _ | apply And.intro
    all_goals first | exact (c92 _ _) | exact k71 | (simp [hd, hi1, hi2, Go, Ends', v72, -List.getD_eq_getElem?_getD, *]; done) | skip
    refine WP.run (fun k => .l1 (roomsN b D all off i) i k ((((roomsN b D all off i).take k).flatMap (growL (spanAt b D all off i))).reverse)) rfl (roomsN b D all off i).length (fun k hk => ?_) ?_
    · have hr' : inR .i64 ((k : Int) + 1) = true := inR64 (by omega) (by omega)
      have hL0 := roomsN_in h hday all off i (by omega) _ (getD_mem [] (roomsN b D all off i) k hk)
      have hft := flat_take (growL (spanAt b D all off i)) [] (roomsN b D all off i) k hk
      have hal := flat_le (l := (roomsN b D all off i).take k) (f := growL (spanAt b D all off i)) (b := 61) fun x _ => hgl x
      simp only [List.length_take] at hal
      generalize hacc : (((roomsN b D all off i).take k).flatMap (growL (spanAt b D all off i))).reverse = acc at *
      have hacl : acc.length ≤ 20000000 := by rw [← hacc, List.length_reverse]; omega
      have hk1 : (k : Int) < (roomsN b D all off i).length := by omega
      refine WP.step ?_
      simp only [T72, Go, Ends', v72, Tr.sure, SS, hk1, z8, z5, z2, hD, hspe]
      repeat' with_reducible first | intro _ | apply And.intro
      generalize hL : (roomsN b D all off i).getD k [] = L at *
      generalize hS : spanAt b D all off i = S at *
      have hLl : L.length ≤ 3 := by omega
      refine WP.run (fun j => .l2 (roomsN b D all off i) i k (S.lo + (j : Int)) (((List.range j).map fun (q : Nat) => L ++ [S.lo + (q : Int)]).reverse ++ acc)) (by simp) (S.hi + 1 - S.lo).toNat (fun j hj => ?_) ?_
      · have hle : S.lo + (j : Int) ≤ S.hi := by omega
        have hr2 : inR .i64 (S.lo + (j : Int) + 1) = true := inR64 (by omega) (by omega)
        have hcast : S.lo + ((j + 1 : Nat) : Int) = S.lo + (j : Int) + 1 := by omega
        have hlen : (((List.range j).map fun (q : Nat) => L ++ [S.lo + (q : Int)]).reverse ++ acc).length + 1 ≤ 4294967296 := by simp only [List.length_append, List.length_reverse, List.length_map, List.length_range]; omega
        have hnx : ((List.range (j + 1)).map fun (q : Nat) => L ++ [S.lo + (q : Int)]).reverse ++ acc = (L ++ [S.lo + (j : Int)]) :: (((List.range j).map fun (q : Nat) => L ++ [S.lo + (q : Int)]).reverse ++ acc) := by rw [List.range_succ]; simp
        rw [hcast, hnx]
        generalize ((List.range j).map fun (q : Nat) => L ++ [S.lo + (q : Int)]).reverse ++ acc = B at *
        have hl1 : 0 + L.length ≤ 4294967296 := by omega
        have hl2 : 0 + L.length + 1 ≤ 4294967296 := by omega
        refine WP.once ?_
        simp only [T72, Tr.sure, SS, hk1, z8, z5, z2, z6, hD, hspe, hS, hL, hle]
        repeat' with_reducible first | intro _ | apply And.intro
        all_goals first | exact (by with_reducible exact app1_int _ _) | exact (by with_reducible exact scal_int _ _) | (simp [hr2, hlen, hl1, hl2, Go, Ends', v72, -List.getD_eq_getElem?_getD, *]; done) | (simp_all [hr2, hlen, hl1, hl2, Go, Ends', v72, -List.getD_eq_getElem?_getD]; done)
      · have hno : ¬ S.lo + ((S.hi + 1 - S.lo).toNat : Int) ≤ S.hi := by omega
        have hg : (growL S L).reverse = ((List.range (S.hi + 1 - S.lo).toNat).map fun (q : Nat) => L ++ [S.lo + (q : Int)]).reverse := by simp [growL, rangeI, List.map_map]; try rfl
        rw [hft, hg]
        refine WP.once ?_
        simp only [T72, Tr.sure, SS, hk1, z8, z5, z2, hD, hspe, hS, hno]
        repeat' with_reducible first | intro _ | apply And.intro
        all_goals simp [hr', Go, Ends', v72, -List.getD_eq_getElem?_getD, *]
    · have he : (((roomsN b D all off i).take (roomsN b D all off i).length).flatMap (growL (spanAt b D all off i))).reverse.reverse = roomsN b D all off (i + 1) := by rw [List.take_length, List.reverse_reverse]; rfl
      refine WP.once ?_
      simp only [T72, Tr.sure, SS, Int.lt_irrefl]
      repeat' with_reducible first | intro _ | apply And.intro
      all_goals first | exact VLe.rev (tlist tint) _ | (simp [hr, he, Go, Ends', v72, -List.getD_eq_getElem?_getD, *]; done) | (simp_all [hr, he, Go, Ends', v72, -List.getD_eq_getElem?_getD]; done)
  · refine WP.step ?_
    simp only [T72, Go, Ends', v72, Tr.sure, SS, Int.lt_irrefl]
    repeat' with_reducible first | intro _ | apply And.intro
end
noncomputable section
theorem c72n (b : Book) (d all : Int) (h : OkBook b) (hd : 0 ≤ d ∧ d < b.days.length) (ha : 0 ≤ all ∧ all ≤ 60) : PC 72 [.agg (tBook.cells b), iI d, iI all, .nils] (· = (tlist tint).lst (inRoomsR b d all [])) :=
  PCalls.arg (pre := [.agg (tBook.cells b), iI d, iI all]) (c72 b d all [] h hd ha) VLe.nils
end
noncomputable section
inductive P20
  | e
  | l0 (x0_9 : Int) (c0_2_0 : Int) (c0_2_1 : Int)
  | l1 (x0_9 : Int) (x1_11 : Int) (c1_2_0 : Int) (c1_2_1 : Int)
inductive R20
  | r0 (r0_0 : Int) (r0_1 : Int) (r1 : Int)
noncomputable def T20 (b : Book) (d : Int) : P20 → Tr P20 R20
  | .e => let c1 := b.days.getD (d).toNat tDay.zero; let c2 := between (c1.door) 60 false; (.call 65 [.agg (cC b), iI d] (iI (askedR b d)) true true (.br ((askedR b d) != (0 : Int)) (.out (.r0 0 0 (askedR b d))) (.need (decide (0 ≤ d) && decide (d < (b.days.length : Int))) (.call 71 [.agg [iI (c1.door.seen), iI (c1.door.miss)], iI 60, .bool false] (.agg [iI (c2.lo), iI (c2.hi)]) true true (.front [(4, 66, [.agg (cC b), iI d], iI (pupilsD b d))] [] true true (.go (.l0 (max (c2.lo) (pupilsD b d)) (-1) 0)))))))
  | .l0 x0_9 c0_2_0 c0_2_1 => (.br (decide (x0_9 ≤ (between ((b.days.getD (d).toNat tDay.zero).door) 60 false).hi)) (.call 72 [.agg (cC b), iI d, iI x0_9, .nils] ((tlist tint).lst (inRoomsR b d x0_9 ([]))) true true (.go (.l1 x0_9 0 c0_2_0 c0_2_1))) (.br (decide (c0_2_0 < (0 : Int))) (.out (.r0 0 0 8)) (.out (.r0 c0_2_0 c0_2_1 0))))
  | .l1 x0_9 x1_11 c1_2_0 c1_2_1 => let c3 := x0_9 - (pupilsD b d); let c4 := inRoomsR b d x0_9 ([]); let c5 := b.price.tdiv (2 : Int); let c6 := c4.getD (x1_11).toNat (tlist tint).zero; let c1 := (feesD b d) + (extraR b c6); let c2 : Tr P20 R20 := .need (decide ((2 : Int) ≠ 0) && inR .i64 c5) (.need (inR .i64 (c5 * c3)) (.need (inR .i64 ((c5 * c3) + c1)) (.need (inR .i64 (b.price * c3)) (.need (inR .i64 ((b.price * c3) + c1)) (.need (inR .i64 (x1_11 + (1 : Int))) (.go (.l1 x0_9 (x1_11 + (1 : Int)) ((c5 * c3) + c1) (max c1_2_1 ((b.price * c3) + c1))))))))); let c7 := x1_11 < ((c4.length) : Int); (.br (decide c7) (.front [(2, 44, [.agg (cC b), iI d], iI (feesD b d))] [] (((decide (0 ≤ x1_11) && decide c7) && true) && true) true (.call 45 [.agg (cC b), tint.lst c6] (iI (extraR b c6)) true true (.need (inR .i64 c1) (.call 66 [.agg (cC b), iI d] (iI (pupilsD b d)) true true (.need (inR .i64 c3) (.br (decide (c1_2_0 < (0 : Int))) (.lit true c2) (.need (decide ((2 : Int) ≠ 0) && inR .i64 c5) (.need (inR .i64 (c5 * c3)) (.need (inR .i64 ((c5 * c3) + c1)) (.br (decide (((c5 * c3) + c1) < c1_2_0)) c2 (.need (inR .i64 (b.price * c3)) (.need (inR .i64 ((b.price * c3) + c1)) (.need (inR .i64 (x1_11 + (1 : Int))) (.go (.l1 x0_9 (x1_11 + (1 : Int)) c1_2_0 (max c1_2_1 ((b.price * c3) + c1))))))))))))))))) (.need (inR .i64 (x0_9 + (1 : Int))) (.go (.l0 (x0_9 + (1 : Int)) c1_2_0 c1_2_1))))
noncomputable def g20 (b : Book) (d : Int) : P20 → List Item × St
  | .e => bd Tryz.f20 [.agg (cC b), iI d] 102
  | .l0 x0_9 c0_2_0 c0_2_1 => (cutOf Tryz.f20 0, ⟨mk 104 [(1, iI d), (2, .ref 0 0 0), (4, .ref 1 0 0), (7, .ref 2 0 0), (8, .ref 3 0 0), (9, iI x0_9)], [.cells (cC b), .cells [iI 0, iI 0], .cells [iI c0_2_0, iI c0_2_1], .cells [iI ((between ((b.days.getD (d).toNat tDay.zero).door) 60 false).lo), iI ((between ((b.days.getD (d).toNat tDay.zero).door) 60 false).hi)]], []⟩)
  | .l1 x0_9 x1_11 c1_2_0 c1_2_1 => (cutOf Tryz.f20 1, ⟨mk 104 [(1, iI d), (2, .ref 0 0 0), (4, .ref 1 0 0), (7, .ref 2 0 0), (8, .ref 3 0 0), (9, iI x0_9), (10, (tlist tint).lst (inRoomsR b d x0_9 ([]))), (11, iI x1_11)], [.cells (cC b), .cells [iI 0, iI 0], .cells [iI c1_2_0, iI c1_2_1], .cells [iI ((between ((b.days.getD (d).toNat tDay.zero).door) 60 false).lo), iI ((between ((b.days.getD (d).toNat tDay.zero).door) 60 false).hi)]], []⟩)
noncomputable def n20 : R20 → Exit × St
  | .r0 r0_0 r0_1 r1 => (.ret, ⟨mk 104 [(4, .ref 1 0 0), (5, iI r1)], [.gone, .cells [iI r0_0, iI r0_1]], []⟩)
noncomputable def v20 : R20 → V
  | .r0 r0_0 r0_1 r1 => .tuple [.agg [iI r0_0, iI r0_1], iI r1]
theorem s20 (b : Book) (d : Int) : Sm 0 (g20 b d) (T20 b d) (n20)
  | .e => ⟨400, by kernel_rfl⟩
  | .l0 _ _ _ => ⟨400, by kernel_rfl⟩
  | .l1 _ _ _ _ => ⟨400, by kernel_rfl⟩
theorem q20 : ∀ r, bodyQ Tryz.prog Tryz.f20 (· = v20 r) (n20 r).1 (n20 r).2
  | .r0 r0_0 r0_1 r1 => bq (.tuple [.agg [iI r0_0, iI r0_1], iI r1]) (by kernel_rfl)
theorem w20 (b : Book) (d : Int) {post : V → Prop} (h : WQ (T20 b d) v20 post .e) : PC 20 [.agg (cC b), iI d] post :=
  PCalls.wq Tryz.func20 (s20 b d) q20 h
theorem c20 (b : Book) (d : Int) : PC 20 [.agg (tBook.cells b), iI d] (· = .tuple [.agg (tSpan.cells (couldR b d).1), iI (couldR b d).2]) := by
  by_cases ha : askedR b d = 0
  · obtain ⟨h, hd1, hd2, hday⟩ := asked_ok ha
    have hd : 0 ≤ d ∧ d < b.days.length := ⟨hd1, hd2⟩
    have hp := half_in h
    have r0 : inR .i64 (b.price.tdiv 2) = true := inR64 (by omega) (by omega)
    have k66 := c66 b d h hd
    have k44 := c44 b d h hd
    have k71 := c71 (dayOf b d).door 60 false hday.door
    have hpu := pupils_in hday
    have hfe := feesD_in h hday
    have hdo := doorS_in hday
    have e2 : between (dayOf b d).door 60 false = doorS b d := rfl
    have e3 : b.days.getD d.toNat zDay = dayOf b d := rfl
    have hmain : WP Tryz.prog ⟨none, 0⟩ (T20 b d) (Ends' fun r => v20 r = .tuple [.agg (tSpan.cells (couldR b d).1), iI (couldR b d).2]) (.l0 (firstN b d) (-1) 0) := by
      refine WP.run (fun i => .l0 (firstN b d + (i : Int)) (((rangeI (firstN b d) (doorS b d).hi).take i).foldl (couldN b d) (-1, 0)).1 (((rangeI (firstN b d) (doorS b d).hi).take i).foldl (couldN b d) (-1, 0)).2) (by simp) (rangeI (firstN b d) (doorS b d).hi).length (fun i hi => ?_) ?_
      · rw [foldl_take (couldN b d) (-1, 0) 0 (rangeI (firstN b d) (doorS b d).hi) i hi, rangeI_get hi]
        rw [rangeI_len] at hi
        generalize ((rangeI (firstN b d) (doorS b d).hi).take i).foldl (couldN b d) (-1, 0) = S
        have hcast : firstN b d + ((i + 1 : Nat) : Int) = firstN b d + (i : Int) + 1 := by omega
        rw [hcast]
        have hn0 : pupilsD b d ≤ firstN b d := by unfold firstN; omega
        generalize hn : firstN b d + (i : Int) = n at *
        have hnle : n ≤ (doorS b d).hi := by omega
        have hn60 : 0 ≤ n ∧ n ≤ 60 := by omega
        have hown : 0 ≤ n - pupilsD b d ∧ n - pupilsD b d ≤ 60 := by omega
        have k72 := c72n b d n h hd hn60
        have hrn : inR .i64 (n + 1) = true := inR64 (by omega) (by omega)
        have hrl := inRooms_len h hday n []
        have hmul := half_mul h hown
        have q3 : inR .i64 (n - pupilsD b d) = true := inR64 (by omega) (by omega)
        have q4 : inR .i64 (b.price.tdiv 2 * (n - pupilsD b d)) = true := inR64 (by omega) (by omega)
        have q5 : inR .i64 (b.price * (n - pupilsD b d)) = true := inR64 (by omega) (by omega)
        have hinner : WP Tryz.prog ⟨none, 0⟩ (T20 b d) (fun x => x = .inl (.l0 (n + 1) (couldN b d S n).1 (couldN b d S n).2)) (.l1 n 0 S.1 S.2) := by
          refine WP.run (fun k => .l1 n (k : Int) (((inRoomsR b d n []).take k).foldl (couldF b d n) S).1 (((inRoomsR b d n []).take k).foldl (couldF b d n) S).2) (by simp) (inRoomsR b d n []).length (fun k hk => ?_) ?_
          · rw [foldl_take (couldF b d n) S [] (inRoomsR b d n []) k hk]
            obtain ⟨hL1, hL2⟩ := inRooms_in h hday n [] _ (getD_mem [] (inRoomsR b d n []) k hk)
            generalize hL : (inRoomsR b d n []).getD k [] = L at *
            generalize ((inRoomsR b d n []).take k).foldl (couldF b d n) S = Q
            have hk1 : (k : Int) < (inRoomsR b d n []).length := by omega
            have hrk : inR .i64 ((k : Int) + 1) = true := inR64 (by omega) (by omega)
            have hex := extraR_in h hL1 hL2
            have k45 := c45 b L h (fun n hn => by have := hL2 n hn; omega) (by omega)
            have q6 : inR .i64 (feesD b d + extraR b L) = true := inR64 (by omega) (by omega)
            have q7 : inR .i64 (b.price.tdiv 2 * (n - pupilsD b d) + (feesD b d + extraR b L)) = true := inR64 (by omega) (by omega)
            have q8 : inR .i64 (b.price * (n - pupilsD b d) + (feesD b d + extraR b L)) = true := inR64 (by omega) (by omega)
            obtain ⟨lo, hi2⟩ := Q
            unfold couldF
            simp only
            generalize hA : b.price.tdiv 2 * (n - pupilsD b d) + (feesD b d + extraR b L) = A at *
            generalize hB : b.price * (n - pupilsD b d) + (feesD b d + extraR b L) = B at *
            by_cases a1 : lo < 0
            · rw [if_pos (.inl a1)]
              refine WP.once ?_
              simp only [T20, Tr.sure, SS, hk1, z6, hL, hA, hB, a1]
              repeat' with_reducible first | intro _ | apply And.intro
              all_goals first | exact k44 | exact k45 | exact k66 | (simp [r0, q3, q4, q5, q6, q7, q8, hrk, Go, Ends', v20, -List.getD_eq_getElem?_getD, *]; done)
            · by_cases a2 : A < lo
              · rw [if_pos (.inr a2)]
                refine WP.once ?_
                simp only [T20, Tr.sure, SS, hk1, z6, hL, hA, hB, a1, a2]
                repeat' with_reducible first | intro _ | apply And.intro
                all_goals first | exact k44 | exact k45 | exact k66 | (simp [r0, q3, q4, q5, q6, q7, q8, hrk, Go, Ends', v20, -List.getD_eq_getElem?_getD, *]; done)
              · rw [if_neg (fun q => q.elim a1 a2)]
                refine WP.once ?_
                simp only [T20, Tr.sure, SS, hk1, z6, hL, hA, hB, a1, a2]
                repeat' with_reducible first | intro _ | apply And.intro
                all_goals first | exact k44 | exact k45 | exact k66 | (simp [r0, q3, q4, q5, q6, q7, q8, hrk, Go, Ends', v20, -List.getD_eq_getElem?_getD, *]; done)
          · rw [List.take_length]
            have hcn : (inRoomsR b d n []).foldl (couldF b d n) S = couldN b d S n := rfl
            rw [hcn]
            refine WP.once ?_
            simp only [T20, Tr.sure, SS, Int.lt_irrefl]
            repeat' with_reducible first | intro _ | apply And.intro
            all_goals simp [hrn, Go, Ends', v20, -List.getD_eq_getElem?_getD, *]
        refine WP.step ?_
        simp only [T20, Go, Ends', v20, Tr.sure, SS, hnle, e2, e3, z8]
        repeat' with_reducible first | intro _ | apply And.intro
        all_goals first | exact k72 | exact hinner
      · have hno : ¬ firstN b d + ((rangeI (firstN b d) (doorS b d).hi).length : Int) ≤ (doorS b d).hi := by rw [rangeI_len]; omega
        rw [List.take_length]
        have hcd : (rangeI (firstN b d) (doorS b d).hi).foldl (couldN b d) (-1, 0) = couldD b d := rfl
        rw [hcd]
        by_cases hneg : (couldD b d).1 < 0
        · have ec : couldR b d = (⟨0, 0⟩, 8) := by unfold couldR; rw [if_neg (fun q => q ha), if_pos hneg]
          rw [ec]
          refine WP.step ?_
          simp only [T20, Go, Ends', v20, Tr.sure, SS, e2, e3, z8, hno, hneg]
          repeat' with_reducible first | intro _ | apply And.intro
          all_goals simp [tSpan, Go, Ends', v20, -List.getD_eq_getElem?_getD, *]
        · have ec : couldR b d = (⟨(couldD b d).1, (couldD b d).2⟩, 0) := by unfold couldR; rw [if_neg (fun q => q ha), if_neg hneg]
          rw [ec]
          refine WP.step ?_
          simp only [T20, Go, Ends', v20, Tr.sure, SS, e2, e3, z8, hno, hneg]
          repeat' with_reducible first | intro _ | apply And.intro
          all_goals simp [tSpan, Go, Ends', v20, -List.getD_eq_getElem?_getD, *]
    refine w20 b d (WP.step ?_)
    simp only [T20, Go, Ends', v20, Tr.sure, SS, e2, e3, z8]
    repeat' with_reducible first | intro _ | apply And.intro
    all_goals first | exact (c65 _ _) | exact k71 | exact k66 | exact hmain | (simp [hd, ha, Go, Ends', v20, -List.getD_eq_getElem?_getD, *]; done) | (simp_all [hd, ha, Go, Ends', v20, -List.getD_eq_getElem?_getD]; done)
  · have ec : couldR b d = (⟨0, 0⟩, askedR b d) := by unfold couldR; rw [if_pos ha]
    rw [ec]
    refine w20 b d (WP.step ?_)
    simp only [T20, Go, Ends', v20, Tr.sure, SS]
    repeat' with_reducible first | intro _ | apply And.intro
    all_goals first | exact (c65 _ _) | (simp [ha, tSpan, Go, Ends', v20, -List.getD_eq_getElem?_getD, *]; done) | (simp_all [ha, tSpan, Go, Ends', v20, -List.getD_eq_getElem?_getD]; done)
end
noncomputable section
inductive P3
  | e
inductive R3
  | r0 (r0 : Bool)
noncomputable def T3 (b : Book) (x : Asked) : P3 → Tr P3 R3
  | .e => let c1 := togetherR b x.day; let c2 := couldR b x.day; let c3 : Tr P3 R3 := .out (.r0 false); let c4 := schoolR b x.children; let c5 := bookCheck b; let c6 : List V := [.agg (cC b), iI x.day]; let c7 : V := .tuple [.agg [iI (c2.1.lo), iI (c2.1.hi)], iI (c2.2)]; let c8 : Tr P3 R3 := .lit true c3; let c9 : V := .tuple [iI (c5.1), iI (c5.2.1), iI (c5.2.2)]; let c10 : V := .tuple [iI (c1.1), iI (c1.2.1), iI (c1.2.2)]; let c11 : V := .tuple [iI (c4.1), iI (c4.2)]; let c12 : List V := [.agg (cC b), iI x.children]; (.call 13 [.agg (cC b)] c9 true true (.call 14 [.agg (cC b)] c9 true true (.br (c5.1 != c5.1) (.lit true c8) (.br (c5.2.1 != c5.2.1) c8 (.br (c5.2.2 != c5.2.2) c3 (.call 15 c12 c11 true true (.call 16 c12 c11 true true (.br (c4.1 != c4.1) c8 (.br (c4.2 != c4.2) c3 (.call 17 c6 c10 true true (.call 18 c6 c10 true true (.br (c1.1 != c1.1) (.lit true c8) (.br (c1.2.1 != c1.2.1) c8 (.br (c1.2.2 != c1.2.2) c3 (.call 19 c6 c7 true true (.call 20 c6 c7 true true (.br ((c2.1.lo == c2.1.lo) && ((c2.1.hi == c2.1.hi) && true)) (.br (c2.2 == c2.2) (.call 21 [] (.bool true) true true (.out (.r0 true))) c3) (.lit false c3))))))))))))))))))
noncomputable def g3 (b : Book) (x : Asked) : P3 → List Item × St
  | .e => bd Tryz.f3 [.agg (cC b), .agg [iI x.children, iI x.day, iI x.room]] 112
noncomputable def n3 : R3 → Exit × St
  | .r0 r0 => (.ret, ⟨mk 114 [(4, .bool r0)], [], []⟩)
noncomputable def v3 : R3 → V
  | .r0 r0 => .bool r0
theorem s3 (b : Book) (x : Asked) : Sm 0 (g3 b x) (T3 b x) (n3)
  | .e => ⟨400, by kernel_rfl⟩
theorem q3 : ∀ r, bodyQ Tryz.prog Tryz.f3 (· = v3 r) (n3 r).1 (n3 r).2
  | .r0 r0 => bq (.bool r0) (by kernel_rfl)
theorem w3 (b : Book) (x : Asked) {post : V → Prop} (h : WQ (T3 b x) v3 post .e) : PC 3 [.agg (cC b), .agg [iI x.children, iI x.day, iI x.room]] post :=
  PCalls.wq Tryz.func3 (s3 b x) q3 h
theorem c3 (b : Book) (x : Asked) (hs : SmB b) : PC 3 [.agg (tBook.cells b), .agg (tAsked.cells x)] (· = .bool true) := by
  refine w3 b x (WP.step ?_)
  simp only [T3, Go, Ends', v3, Tr.sure, SS]
  repeat' with_reducible first | intro _ | apply And.intro
  all_goals first | exact (c13 b ⟨hs.rooms, hs.days, hs.each⟩) | exact (c14 b) | exact (c15 b _ hs) | exact (c16 b _) | exact (c17 b _ hs) | exact (c18 b _) | exact (c19 b _ hs) | exact (c20 b _) | exact c21 | (simp_all [Go, Ends', v3, -List.getD_eq_getElem?_getD]; done)
end
end Go.Proofs.YtfgmckfomckliaaGreat
