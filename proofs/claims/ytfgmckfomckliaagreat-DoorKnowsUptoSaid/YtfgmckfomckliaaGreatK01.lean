/-
  Part of the proof of DoorKnows. Conditions: those that stand in each theorem.
-/
import Derived.Test.YtfgmckfomckliaaGreatChecked
import Derived.Test.YtfgmckfomckliaaGreatB13
set_option linter.unusedSimpArgs false
set_option linter.unusedVariables false
set_option maxRecDepth 100000
namespace Ab
theorem rev_take {τ υ : Type} (f : τ → υ) (d : τ) (l : List τ) (i : Nat) (hi : i < l.length) : ((l.take (i + 1)).map f).reverse = f (l.getD i d) :: ((l.take i).map f).reverse := by
  rw [List.take_succ_eq_append_getElem hi, List.map_append, List.reverse_append, List.map_singleton, List.reverse_singleton, List.singleton_append]
  simp only [List.getD_eq_getElem?_getD, List.getElem?_eq_getElem hi, Option.getD_some]
theorem rev_take' {τ υ : Type} (f : τ → υ) (d : τ) (l : List τ) (i : Nat) (hi : i < l.length) : ((l.map f).take (i + 1)).reverse = f (l.getD i d) :: ((l.map f).take i).reverse := by
  rw [← List.map_take, ← List.map_take]; exact rev_take f d l i hi
end Ab
namespace Go.Proofs.YtfgmckfomckliaaGreat
open Ab
def indexS (l : List ByteArray) (s : ByteArray) : Int := match firstI (fun o => same o s) 0 l with | some i => i | none => -1
def tstr : Ty ByteArray := ⟨1, fun s => [.str s], ByteArray.empty⟩
end Go.Proofs.YtfgmckfomckliaaGreat
namespace Go.Proofs.YtfgmckfomckliaaGreat
open Ab Go
noncomputable section
theorem map_take_len {τ υ : Type} (f : τ → υ) (l : List τ) (i : Nat) (hi : i ≤ l.length) : ((l.map f).take i).reverse.length = i := by simp; omega
inductive P91
  | e
inductive R91
  | r0 (r0 : Bool)
noncomputable def T91 (p0 : Int) (p1 : Int) (p2 : Int) : P91 → Tr P91 R91
  | .e => (.br (decide (p0 ≥ p1)) (.out (.r0 (decide (p0 ≤ p2)))) (.out (.r0 false)))
noncomputable def g91 (p0 : Int) (p1 : Int) (p2 : Int) : P91 → List Item × St
  | .e => bd Tryz.f91 [iI p0, iI p1, iI p2] 12
noncomputable def n91 : R91 → Exit × St
  | .r0 r0 => (.ret, ⟨mk 15 [(6, .bool r0)], [], []⟩)
noncomputable def v91 : R91 → V
  | .r0 r0 => .bool r0
theorem s91 (p0 : Int) (p1 : Int) (p2 : Int) : Sm 0 (g91 p0 p1 p2) (T91 p0 p1 p2) (n91)
  | .e => ⟨400, by kernel_rfl⟩
theorem q91 : ∀ r, bodyQ Tryz.prog Tryz.f91 (· = v91 r) (n91 r).1 (n91 r).2
  | .r0 r0 => bq (.bool r0) (by kernel_rfl)
theorem w91 (p0 : Int) (p1 : Int) (p2 : Int) {post : V → Prop} (h : WQ (T91 p0 p1 p2) v91 post .e) : PC 91 [iI p0, iI p1, iI p2] post :=
  PCalls.wq Tryz.func91 (s91 p0 p1 p2) q91 h
theorem c91 (n a b : Int) : PC 91 [iI n, iI a, iI b] (· = .bool (within n a b)) := by
  refine w91 _ _ _ (WP.step ?_)
  simp only [T91, Go, Ends', v91, Tr.sure, SS]
  repeat' with_reducible first | intro _ | apply And.intro
  all_goals simp [within, GE.ge, Go, Ends', v91, -List.getD_eq_getElem?_getD, *]
  all_goals simp_all [within]
inductive P58
  | e
inductive R58
  | r0 (r0 : Bool)
noncomputable def T58 (p0 : Int) (p1 : Int) (p2 : Int) : P58 → Tr P58 R58
  | .e => (.br (decide (p0 ≥ p1)) (.out (.r0 (decide (p0 ≤ p2)))) (.out (.r0 false)))
noncomputable def g58 (p0 : Int) (p1 : Int) (p2 : Int) : P58 → List Item × St
  | .e => bd Tryz.f58 [iI p0, iI p1, iI p2] 12
noncomputable def n58 : R58 → Exit × St
  | .r0 r0 => (.ret, ⟨mk 15 [(6, .bool r0)], [], []⟩)
noncomputable def v58 : R58 → V
  | .r0 r0 => .bool r0
theorem s58 (p0 : Int) (p1 : Int) (p2 : Int) : Sm 0 (g58 p0 p1 p2) (T58 p0 p1 p2) (n58)
  | .e => ⟨400, by kernel_rfl⟩
theorem q58 : ∀ r, bodyQ Tryz.prog Tryz.f58 (· = v58 r) (n58 r).1 (n58 r).2
  | .r0 r0 => bq (.bool r0) (by kernel_rfl)
theorem w58 (p0 : Int) (p1 : Int) (p2 : Int) {post : V → Prop} (h : WQ (T58 p0 p1 p2) v58 post .e) : PC 58 [iI p0, iI p1, iI p2] post :=
  PCalls.wq Tryz.func58 (s58 p0 p1 p2) q58 h
theorem c58 (n a b : Int) : PC 58 [iI n, iI a, iI b] (· = .bool (within n a b)) := by
  refine w58 _ _ _ (WP.step ?_)
  simp only [T58, Go, Ends', v58, Tr.sure, SS]
  repeat' with_reducible first | intro _ | apply And.intro
  all_goals simp [within, GE.ge, Go, Ends', v58, -List.getD_eq_getElem?_getD, *]
  all_goals simp_all [within]
theorem data_get (s : ByteArray) (i : Nat) : s.data.getD i 0 = s.data.toList.getD i 0 := by simp
theorem inR8 (c : UInt8) : inR .i64 (c.toNat : Int) = true := inR64 (by omega) (by have := c.toNat_lt; omega)
inductive P127
  | e
  | l0 (x0_3 : Int)
inductive R127
  | r0 (r0 : Bool)
noncomputable def T127 (p0 : ByteArray) : P127 → Tr P127 R127
  | .e => (.br ((p0.size : Int) == (0 : Int)) (.lit true (.out (.r0 false))) (.br (decide ((p0.size : Int) > (16 : Int))) (.out (.r0 false)) (.go (.l0 0))))
  | .l0 x0_3 => let c1 := ((p0.data.getD (x0_3).toNat 0).toNat : Int); let c2 : Tr P127 R127 := .need (inR .i64 (x0_3 + (1 : Int))) (.go (.l0 (x0_3 + (1 : Int)))); let c3 := decide (0 ≤ x0_3) && decide (x0_3 < (p0.size : Int)); let c4 : Tr P127 R127 := .lit true (.lit true (.out (.r0 false))); let c5 := within c1 97 122; let c6 : Tr P127 R127 := .lit false (.lit false c2); (.br (decide (x0_3 < (p0.size : Int))) (.need c3 (.need (inR .i64 c1) (.call 91 [iI c1, iI 97, iI 122] (.bool c5) true true (.need c3 (.need (inR .i64 c1) (.call 91 [iI c1, iI 48, iI 57] (.bool (within c1 48 57)) true true (.br (within c1 48 57) (.br (!c5) (.br (x0_3 == (0 : Int)) c4 (.lit true (.lit false c2))) c6) (.need c3 (.br (!c5) (.br (x0_3 == (0 : Int)) c4 (.lit true (.br (!(c1 == (46 : Int))) (.out (.r0 false)) c2))) c6))))))))) (.out (.r0 true)))
noncomputable def g127 (p0 : ByteArray) : P127 → List Item × St
  | .e => bd Tryz.f127 [.str p0] 45
  | .l0 x0_3 => (cutOf Tryz.f127 0, ⟨mk 46 [(0, .str p0), (2, .bool false), (3, iI x0_3)], [], []⟩)
noncomputable def n127 : R127 → Exit × St
  | .r0 r0 => (.ret, ⟨mk 46 [(2, .bool r0)], [], []⟩)
noncomputable def v127 : R127 → V
  | .r0 r0 => .bool r0
theorem s127 (p0 : ByteArray) : Sm 0 (g127 p0) (T127 p0) (n127)
  | .e => ⟨400, by kernel_rfl⟩
  | .l0 _ => ⟨400, by kernel_rfl⟩
theorem q127 : ∀ r, bodyQ Tryz.prog Tryz.f127 (· = v127 r) (n127 r).1 (n127 r).2
  | .r0 r0 => bq (.bool r0) (by kernel_rfl)
theorem w127 (p0 : ByteArray) {post : V → Prop} (h : WQ (T127 p0) v127 post .e) : PC 127 [.str p0] post :=
  PCalls.wq Tryz.func127 (s127 p0) q127 h
theorem c127 (s : ByteArray) : PC 127 [.str s] (· = .bool (nameOk s)) := by
  refine w127 _ (WP.step ?_)
  simp only [T127, Tr.sure, Go, Ends', v127]
  refine ⟨fun h => ?_, fun h0 => ⟨fun h => ?_, fun h1 => ?_⟩⟩
  · simp at h; simp [nameOk, h]
  · simp at h; simp [nameOk]; omega
  simp only [beq_eq_false_iff_ne, ne_eq, decide_eq_false_iff_not, Int.not_lt, gt_iff_lt] at h0 h1
  have hs : s.size ≤ 16 := by omega
  have hn : nameOk s = nameFrom true s.data.toList := by
    have h0' : s.size ≠ 0 := by omega
    simp [nameOk, hs, h0']
  refine WP.count (fun i => .l0 i) rfl s.size (fun i => nameFrom true s.data.toList = nameFrom (i == 0) (s.data.toList.drop i)) rfl (fun i hi hI => ?_) fun hI => ?_
  · have hd := drop_cons 0 s.data.toList i hi
    have hr : inR .i64 ((i : Int) + 1) = true := inR64 (by omega) (by omega)
    have hc := inR8 (s.data.toList.getD i 0)
    rw [hd] at hI
    simp only [nameFrom] at hI
    generalize hg : s.data.toList.getD i 0 = c at *
    refine WP.once ?_
    simp only [T127, Tr.sure, SS, hi, data_get, hg]
    repeat' with_reducible first | intro _ | apply And.intro
    all_goals first | exact c91 _ _ _ | (simp [hr, hc, hI, hn, letter, other, Go, Ends', v127, -List.getD_eq_getElem?_getD, *]; done)
  · have he : nameFrom (s.size == 0) (s.data.toList.drop s.size) = true := by rw [← data_len, List.drop_length]; rfl
    refine WP.step ?_
    simp only [T127, Go, Ends', v127, Tr.sure, SS]
    repeat' with_reducible first | intro _ | apply And.intro
    all_goals simp [hn, hI, he, Go, Ends', v127, -List.getD_eq_getElem?_getD, *]
theorem tstr_zero : tstr.zero = ByteArray.empty := rfl
inductive P128
  | e
  | l0 (x0_5 : Int)
inductive R128
  | r0 (r0 : Int)
noncomputable def T128 (p0 : List ByteArray) (p1 : ByteArray) : P128 → Tr P128 R128
  | .e => (.go (.l0 0))
  | .l0 x0_5 => let c1 := x0_5 < (p0.length : Int); (.br (decide c1) (.need (decide (0 ≤ x0_5) && decide c1) (.br ((p0.getD (x0_5).toNat tstr.zero).toList == p1.toList) (.out (.r0 x0_5)) (.need (inR .i64 (x0_5 + (1 : Int))) (.go (.l0 (x0_5 + (1 : Int))))))) (.out (.r0 (-1))))
noncomputable def g128 (p0 : List ByteArray) (p1 : ByteArray) : P128 → List Item × St
  | .e => bd Tryz.f128 [tstr.lst p0, .str p1] 17
  | .l0 x0_5 => (cutOf Tryz.f128 0, ⟨mk 19 [(0, tstr.lst p0), (1, .str p1), (4, iI 0), (5, iI x0_5)], [], []⟩)
noncomputable def n128 : R128 → Exit × St
  | .r0 r0 => (.ret, ⟨mk 19 [(4, iI r0)], [], []⟩)
noncomputable def v128 : R128 → V
  | .r0 r0 => iI r0
theorem s128 (p0 : List ByteArray) (p1 : ByteArray) : Sm 0 (g128 p0 p1) (T128 p0 p1) (n128)
  | .e => ⟨400, by kernel_rfl⟩
  | .l0 _ => ⟨400, by kernel_rfl⟩
theorem q128 : ∀ r, bodyQ Tryz.prog Tryz.f128 (· = v128 r) (n128 r).1 (n128 r).2
  | .r0 r0 => bq (iI r0) (by kernel_rfl)
theorem w128 (p0 : List ByteArray) (p1 : ByteArray) {post : V → Prop} (h : WQ (T128 p0 p1) v128 post .e) : PC 128 [tstr.lst p0, .str p1] post :=
  PCalls.wq Tryz.func128 (s128 p0 p1) q128 h
theorem c128 (l : List ByteArray) (n : ByteArray) (h : l.length ≤ 4) : PC 128 [tstr.lst l, .str n] (· = iI (indexS l n)) := by
  refine w128 _ _ (WP.step ?_)
  simp only [T128, Go, Ends', v128, Tr.sure, SS]
  repeat' with_reducible first | intro _ | apply And.intro
  refine WP.findI (fun i => .l0 i) rfl l ByteArray.empty (fun o => same o n) (fun i hi => ?_) fun hI => ?_
  · have hr : inR .i64 ((i : Int) + 1) = true := inR64 (by omega) (by omega)
    refine WP.once ?_
    simp only [T128, Tr.sure, SS, hi]
    repeat' with_reducible first | intro _ | apply And.intro
    all_goals first | (simp [hr, same, tstr_zero, indexS, Go, Ends', v128, -List.getD_eq_getElem?_getD, *]; done) | (simp_all [hr, same, tstr_zero, indexS, Go, Ends', v128, -List.getD_eq_getElem?_getD]; done)
  · refine WP.step ?_
    simp only [T128, Go, Ends', v128, Tr.sure, SS]
    repeat' with_reducible first | intro _ | apply And.intro
    all_goals simp [hI, indexS, Go, Ends', v128, -List.getD_eq_getElem?_getD, *]
theorem indexS_ge (l : List ByteArray) (n : ByteArray) : (0 ≤ indexS l n) ↔ l.any (fun o => same o n) = true := by
  rw [← firstI_any _ l 0, indexS]
  cases firstI (fun o => same o n) 0 l <;> simp
inductive P101
  | e
inductive R101
  | r0 (r0 : Int)
noncomputable def T101 (p0 : ByteArray) (p1 : List ByteArray) : P101 → Tr P101 R101
  | .e => (.call 127 [.str p0] (.bool (nameOk p0)) true true (.br (!(nameOk p0)) (.out (.r0 6)) (.call 128 [tstr.lst p1, .str p0] (iI (indexS p1 p0)) true true (.br (decide ((indexS p1 p0) ≥ (0 : Int))) (.out (.r0 5)) (.out (.r0 0))))))
noncomputable def g101 (p0 : ByteArray) (p1 : List ByteArray) : P101 → List Item × St
  | .e => bd Tryz.f101 [.str p0, tstr.lst p1] 10
noncomputable def n101 : R101 → Exit × St
  | .r0 r0 => (.ret, ⟨mk 12 [(4, iI r0)], [], []⟩)
noncomputable def v101 : R101 → V
  | .r0 r0 => iI r0
theorem s101 (p0 : ByteArray) (p1 : List ByteArray) : Sm 0 (g101 p0 p1) (T101 p0 p1) (n101)
  | .e => ⟨400, by kernel_rfl⟩
theorem q101 : ∀ r, bodyQ Tryz.prog Tryz.f101 (· = v101 r) (n101 r).1 (n101 r).2
  | .r0 r0 => bq (iI r0) (by kernel_rfl)
theorem w101 (p0 : ByteArray) (p1 : List ByteArray) {post : V → Prop} (h : WQ (T101 p0 p1) v101 post .e) : PC 101 [.str p0, tstr.lst p1] post :=
  PCalls.wq Tryz.func101 (s101 p0 p1) q101 h
theorem c101 (n : ByteArray) (l : List ByteArray) (h : l.length ≤ 4) : PC 101 [.str n, tstr.lst l] (· = iI (newErr n l)) := by
  have hi := indexS_ge l n
  refine w101 _ _ (WP.step ?_)
  simp only [T101, Go, Ends', v101, Tr.sure, SS]
  repeat' with_reducible first | intro _ | apply And.intro
  all_goals first | exact c127 _ | exact c128 _ _ h | (simp [newErr, Go, Ends', v101, -List.getD_eq_getElem?_getD, *]; done) | (simp_all [newErr, Go, Ends', v101, -List.getD_eq_getElem?_getD]; done)
theorem c101r (n : ByteArray) (l : List ByteArray) (h : l.length ≤ 4) : PC 101 [.str n, .list 1 l.reverse.length (rowsRev tstr l.reverse)] (· = iI (newErr n l)) :=
  PCalls.arg (pre := [.str n]) (c101 n l h) (by have := VLe.rev tstr l.reverse; rwa [List.reverse_reverse] at this)
def fewer (a b : List Int) : Bool := if a.length ≠ b.length then decide (a.length < b.length) else less a b
end
noncomputable section
inductive P59
  | e
  | l0 (x0_5 : Int) (a0_0 : List ByteArray)
inductive R59
  | r0 (r0 : Int) (r1 : Int)
noncomputable def T59 (l : List Room) : P59 → Tr P59 R59
  | .e => (.br (decide ((l.length : Int) > (3 : Int))) (.out (.r0 0 3)) (.wait 3 (.own 4 9 1 (.go (.l0 0 ([]))))))
  | .l0 x0_5 a0_0 => let c1 := l.getD (x0_5).toNat tRoom.zero; let c2 : Tr P59 R59 := .need (inR .i64 (x0_5 + (1 : Int))) (.go (.l0 (x0_5 + (1 : Int)) (c1.name :: a0_0))); let c3 := decide (0 ≤ x0_5) && decide (x0_5 < (l.length : Int)); let c4 := newErr (c1.name) a0_0.reverse; let c5 : Tr P59 R59 := .br ((7 : Int) != (0 : Int)) (.out (.r0 x0_5 7)) c2; let c6 : Tr P59 R59 := .br (c4 != (0 : Int)) (.out (.r0 x0_5 c4)) c2; (.br (decide (x0_5 < (l.length : Int))) (.need c3 (.call 101 [.str (c1.name), .list 1 a0_0.length (rowsRev tstr a0_0)] (iI c4) ((decide (a0_0.length ≤ a0_0.length)) && true) true (.need c3 (.need ((decide (a0_0.length = a0_0.length) && decide (a0_0.length + 1 ≤ 4294967296)) && decide (1 ≤ 1)) (.scal (fun _ => true) (.br (c4 == (0 : Int)) (.need c3 (.call 58 [iI (c1.more), iI 0, iI 20] (.bool (within (c1.more) 0 20)) true true (.br (!(within (c1.more) 0 20)) (.lit true (.lit true c5)) (.need c3 (.call 58 [iI (c1.full), iI 0, iI 60] (.bool (within (c1.full) 0 60)) true true (.lit true (.br (!(within (c1.full) 0 60)) c5 c6))))))) (.lit false (.lit false c6)))))))) (.out (.r0 0 0)))
noncomputable def g59 (l : List Room) : P59 → List Item × St
  | .e => bd Tryz.f59 [tRoom.lst l] 54
  | .l0 x0_5 a0_0 => (cutOf Tryz.f59 0, ⟨mk 55 [(0, tRoom.lst l), (4, .row 0 a0_0.length), (5, iI x0_5)], [.rows 9 1 a0_0.length (rowsRev tstr a0_0)], []⟩)
noncomputable def n59 : R59 → Exit × St
  | .r0 r0 r1 => (.ret, ⟨mk 55 [(2, iI r0), (3, iI r1)], [], []⟩)
noncomputable def v59 : R59 → V
  | .r0 r0 r1 => .tuple [iI r0, iI r1]
theorem s59 (l : List Room) : Sm 0 (g59 l) (T59 l) (n59)
  | .e => ⟨400, by kernel_rfl⟩
  | .l0 _ _ => ⟨400, by kernel_rfl⟩
theorem q59 : ∀ r, bodyQ Tryz.prog Tryz.f59 (· = v59 r) (n59 r).1 (n59 r).2
  | .r0 r0 r1 => bq (.tuple [iI r0, iI r1]) (by kernel_rfl)
theorem w59 (l : List Room) {post : V → Prop} (h : WQ (T59 l) v59 post .e) : PC 59 [tRoom.lst l] post :=
  PCalls.wq Tryz.func59 (s59 l) q59 h
theorem c59 (l : List Room) : PC 59 [tRoom.lst l] (· = .tuple [iI (roomsErr l).1, iI (roomsErr l).2]) := by
  refine w59 _ (WP.step ?_)
  simp only [T59, Go, Ends', v59, Tr.sure, SS]
  repeat' with_reducible first | intro _ | apply And.intro
  all_goals first | (simp [roomsErr, Go, Ends', v59, -List.getD_eq_getElem?_getD, *]; done) | skip
  rename_i h1
  have hm : l.length ≤ 3 := by omega
  refine WP.findE (fun i => .l0 i (((l.map (·.name)).take i).reverse)) rfl l zRoom (roomAt l) (fun i hi => ?_) fun hI => ?_
  · have hr : inR .i64 ((i : Int) + 1) = true := inR64 (by omega) (by omega)
    have hl := map_take_len (·.name) l i (by omega)
    have hl' : ((l.map (·.name)).take i).length ≤ 4 := by simp; omega
    have ht := rev_take' (·.name) zRoom l i hi
    have hb : i + 1 ≤ 4294967296 := by omega
    refine WP.once ?_
    simp only [T59, Tr.sure, SS, hi, z2, List.reverse_reverse]
    repeat' with_reducible first | intro _ | apply And.intro
    all_goals first | exact c101r _ _ hl' | exact c58 _ _ _ | (simp [hr, roomsErr, firstR, roomAt, ht, hb, hl, Go, Ends', v59, -List.getD_eq_getElem?_getD, *]; done) | (simp_all [hr, roomsErr, firstR, roomAt, ht, hb, hl, Go, Ends', v59, -List.getD_eq_getElem?_getD]; done) | (simp +contextual [hr, roomsErr, firstR, roomAt, ht, hb, hl, Go, Ends', v59, -List.getD_eq_getElem?_getD, *]; done)
  · refine WP.step ?_
    simp only [T59, Go, Ends', v59, Tr.sure, SS, z2]
    repeat' with_reducible first | intro _ | apply And.intro
    all_goals simp [roomsErr, firstR, hI, Go, Ends', v59, -List.getD_eq_getElem?_getD, *]
inductive P102
  | e
  | l0 (x0_4 : Int) (x0_5 : Int) (a0_0 : List ByteArray)
inductive R102
  | r0 (r0 : Int)
noncomputable def T102 (l : List School) : P102 → Tr P102 R102
  | .e => (.br (decide ((l.length : Int) > (3 : Int))) (.out (.r0 3)) (.wait 3 (.own 3 9 1 (.go (.l0 0 0 ([]))))))
  | .l0 x0_4 x0_5 a0_0 => let c3 := decide (0 ≤ x0_5) && decide (x0_5 < (l.length : Int)); let c4 := l.getD (x0_5).toNat tSchool.zero; let c1 : Tr P102 R102 := .need c3 (.need (inR .i64 (x0_4 + c4.children)) (.need (inR .i64 (x0_5 + (1 : Int))) (.go (.l0 (x0_4 + c4.children) (x0_5 + (1 : Int)) (c4.name :: a0_0))))); let c2 := newErr (c4.name) a0_0.reverse; let c5 : Tr P102 R102 := .br (c2 != (0 : Int)) (.out (.r0 c2)) c1; let c6 := within (c4.children) 1 60; (.br (decide (x0_5 < (l.length : Int))) (.need c3 (.call 101 [.str (c4.name), .list 1 a0_0.length (rowsRev tstr a0_0)] (iI c2) ((decide (a0_0.length ≤ a0_0.length)) && true) true (.need c3 (.need ((decide (a0_0.length = a0_0.length) && decide (a0_0.length + 1 ≤ 4294967296)) && decide (1 ≤ 1)) (.scal (fun _ => true) (.br (c2 == (0 : Int)) (.need c3 (.call 58 [iI (c4.children), iI 1, iI 60] (.bool c6) true true (.br (!c6) (.br ((7 : Int) != (0 : Int)) (.out (.r0 7)) c1) c5))) (.lit false c5))))))) (.br (decide (x0_4 > (60 : Int))) (.out (.r0 9)) (.out (.r0 0))))
noncomputable def g102 (l : List School) : P102 → List Item × St
  | .e => bd Tryz.f102 [tSchool.lst l] 53
  | .l0 x0_4 x0_5 a0_0 => (cutOf Tryz.f102 0, ⟨mk 54 [(0, tSchool.lst l), (3, .row 0 a0_0.length), (4, iI x0_4), (5, iI x0_5)], [.rows 9 1 a0_0.length (rowsRev tstr a0_0)], []⟩)
noncomputable def n102 : R102 → Exit × St
  | .r0 r0 => (.ret, ⟨mk 54 [(2, iI r0)], [], []⟩)
noncomputable def v102 : R102 → V
  | .r0 r0 => iI r0
theorem s102 (l : List School) : Sm 0 (g102 l) (T102 l) (n102)
  | .e => ⟨400, by kernel_rfl⟩
  | .l0 _ _ _ => ⟨400, by kernel_rfl⟩
theorem q102 : ∀ r, bodyQ Tryz.prog Tryz.f102 (· = v102 r) (n102 r).1 (n102 r).2
  | .r0 r0 => bq (iI r0) (by kernel_rfl)
theorem w102 (l : List School) {post : V → Prop} (h : WQ (T102 l) v102 post .e) : PC 102 [tSchool.lst l] post :=
  PCalls.wq Tryz.func102 (s102 l) q102 h
theorem c102 (l : List School) : PC 102 [tSchool.lst l] (· = iI (schoolsErr l)) := by
  refine w102 _ (WP.step ?_)
  simp only [T102, Go, Ends', v102, Tr.sure, SS]
  repeat' with_reducible first | intro _ | apply And.intro
  all_goals first | (simp [schoolsErr, Go, Ends', v102, -List.getD_eq_getElem?_getD, *]; done) | skip
  rename_i h1
  have hm : l.length ≤ 3 := by omega
  refine WP.findEI (fun i => .l0 (sumS l i) i (((l.map (·.name)).take i).reverse)) rfl l zSchool (schoolAt l) (fun i => 0 ≤ sumS l i ∧ sumS l i ≤ 60 * i) ⟨Int.le_refl _, Int.le_refl _⟩ (fun i hi hS => ?_) fun hI hS => ?_
  · have hr : inR .i64 ((i : Int) + 1) = true := inR64 (by omega) (by omega)
    have hl := map_take_len (·.name) l i (by omega)
    have hl' : ((l.map (·.name)).take i).length ≤ 4 := by simp; omega
    have ht := rev_take' (·.name) zSchool l i hi
    have hb : i + 1 ≤ 4294967296 := by omega
    rw [sumS_next]
    have hw : within (l.getD i zSchool).children 1 60 = true → inR .i64 (sumS l i + (l.getD i zSchool).children) = true ∧ 0 ≤ sumS l i + (l.getD i zSchool).children ∧ sumS l i + (l.getD i zSchool).children ≤ 60 * ((i : Int) + 1) := fun hw => by
      rw [within_iff] at hw
      exact ⟨inR64 (by omega) (by omega), by omega, by omega⟩
    refine WP.once ?_
    simp only [T102, Tr.sure, SS, hi, z3, List.reverse_reverse]
    repeat' with_reducible first | intro _ | apply And.intro
    all_goals first | exact c101r _ _ hl' | exact c58 _ _ _ | (simp [hr, schoolsErr, schoolAt, ht, hb, hl, Go, Ends', v102, -List.getD_eq_getElem?_getD, *]; done) | (simp_all [hr, schoolsErr, schoolAt, ht, hb, hl, Go, Ends', v102, -List.getD_eq_getElem?_getD]; done) | (simp +contextual [hr, schoolsErr, schoolAt, ht, hb, hl, Go, Ends', v102, -List.getD_eq_getElem?_getD, *]; done)
  · refine WP.step ?_
    simp only [T102, Go, Ends', v102, Tr.sure, SS, z3]
    repeat' with_reducible first | intro _ | apply And.intro
    all_goals simp [schoolsErr, hI, Go, Ends', v102, -List.getD_eq_getElem?_getD, *]
inductive P103
  | e
inductive R103
  | r0 (r0 : Bool)
noncomputable def T103 (c : Count) : P103 → Tr P103 R103
  | .e => (.call 58 [iI c.seen, iI 0, iI 60] (.bool (within c.seen 0 60)) true true (.br (within c.seen 0 60) (.call 58 [iI c.miss, iI 0, iI 5] (.bool (within c.miss 0 5)) true true (.out (.r0 (within c.miss 0 5)))) (.out (.r0 false))))
noncomputable def g103 (c : Count) : P103 → List Item × St
  | .e => bd Tryz.f103 [.agg [iI c.seen, iI c.miss]] 10
noncomputable def n103 : R103 → Exit × St
  | .r0 r0 => (.ret, ⟨mk 11 [(2, .bool r0)], [], []⟩)
noncomputable def v103 : R103 → V
  | .r0 r0 => .bool r0
theorem s103 (c : Count) : Sm 0 (g103 c) (T103 c) (n103)
  | .e => ⟨400, by kernel_rfl⟩
theorem q103 : ∀ r, bodyQ Tryz.prog Tryz.f103 (· = v103 r) (n103 r).1 (n103 r).2
  | .r0 r0 => bq (.bool r0) (by kernel_rfl)
theorem w103 (c : Count) {post : V → Prop} (h : WQ (T103 c) v103 post .e) : PC 103 [.agg [iI c.seen, iI c.miss]] post :=
  PCalls.wq Tryz.func103 (s103 c) q103 h
theorem c103 (c : Count) : PC 103 [.agg (tCount.cells c)] (· = .bool (countOk c)) := by
  refine w103 _ (WP.step ?_)
  simp only [T103, Go, Ends', v103, Tr.sure, SS]
  repeat' with_reducible first | intro _ | apply And.intro
  all_goals first | exact c58 _ _ _ | (simp [countOk, Go, Ends', v103, -List.getD_eq_getElem?_getD, *]; done)
inductive P60
  | e
  | l0 (x0_6 : Bool) (x0_7 : Int)
inductive R60
  | r0 (r0 : Int)
noncomputable def T60 (b : Book) (d : Day) : P60 → Tr P60 R60
  | .e => let c1 : Tr P60 R60 := .call 103 [.agg [iI d.door.seen, iI d.door.miss]] (.bool (countOk d.door)) true true (.br (countOk d.door) (.call 58 [iI d.taken, iI 0, iI 10000] (.bool (within d.taken 0 10000)) true true (.go (.l0 (within d.taken 0 10000) 0))) (.go (.l0 false 0))); let c2 := schoolsErr d.schools; let c3 : Tr P60 R60 := .br (c2 != (0 : Int)) (.out (.r0 c2)) c1; (.call 102 [tSchool.lst d.schools] (iI c2) true true (.br (c2 == (0 : Int)) (.br ((d.rooms.length : Int) != (b.rooms.length : Int)) (.br ((3 : Int) != (0 : Int)) (.out (.r0 3)) c1) c3) (.lit false c3)))
  | .l0 x0_6 x0_7 => let c1 := d.rooms.getD (x0_7).toNat tCount.zero; let c2 := x0_7 + (1 : Int); let c3 := x0_7 < (d.rooms.length : Int); (.br (decide c3) (.br x0_6 (.need (decide (0 ≤ x0_7) && decide c3) (.call 103 [.agg [iI (c1.seen), iI (c1.miss)]] (.bool (countOk c1)) true true (.need (inR .i64 c2) (.go (.l0 (countOk c1) c2))))) (.need (inR .i64 c2) (.go (.l0 false c2)))) (.br (!x0_6) (.out (.r0 7)) (.out (.r0 0))))
noncomputable def g60 (b : Book) (d : Day) : P60 → List Item × St
  | .e => bd Tryz.f60 [.agg (cC b), .agg [tSchool.lst d.schools, iI d.door.seen, iI d.door.miss, tCount.lst d.rooms, iI d.taken]] 49
  | .l0 x0_6 x0_7 => (cutOf Tryz.f60 0, ⟨mk 51 [(3, .ref 1 0 0), (6, .bool x0_6), (7, iI x0_7)], [.gone, .cells [tSchool.lst d.schools, iI d.door.seen, iI d.door.miss, tCount.lst d.rooms, iI d.taken]], []⟩)
noncomputable def n60 : R60 → Exit × St
  | .r0 r0 => (.ret, ⟨mk 51 [(4, iI r0)], [], []⟩)
noncomputable def v60 : R60 → V
  | .r0 r0 => iI r0
theorem s60 (b : Book) (d : Day) : Sm 0 (g60 b d) (T60 b d) (n60)
  | .e => ⟨400, by kernel_rfl⟩
  | .l0 _ _ => ⟨400, by kernel_rfl⟩
theorem q60 : ∀ r, bodyQ Tryz.prog Tryz.f60 (· = v60 r) (n60 r).1 (n60 r).2
  | .r0 r0 => bq (iI r0) (by kernel_rfl)
theorem w60 (b : Book) (d : Day) {post : V → Prop} (h : WQ (T60 b d) v60 post .e) : PC 60 [.agg (cC b), .agg [tSchool.lst d.schools, iI d.door.seen, iI d.door.miss, tCount.lst d.rooms, iI d.taken]] post :=
  PCalls.wq Tryz.func60 (s60 b d) q60 h
theorem c60 (b : Book) (d : Day) (h : b.rooms.length ≤ 3) : PC 60 [.agg (tBook.cells b), .agg (tDay.cells d)] (· = iI (dayErr b d)) := by
  have hmain : ¬ schoolsErr d.schools ≠ 0 → (d.rooms.length : Int) = b.rooms.length → WP Tryz.prog ⟨none, 0⟩ (T60 b d) (Ends' fun r => v60 r = iI (dayErr b d)) (.l0 (countOk d.door && within d.taken 0 10000) 0) := fun h1 h2 => by
    refine WP.run (fun i => .l0 (countOk d.door && within d.taken 0 10000 && (d.rooms.take i).all countOk) i) (by simp) d.rooms.length (fun i hi => ?_) ?_
    · have hr : inR .i64 ((i : Int) + 1) = true := inR64 (by omega) (by omega)
      have hi' : (i : Int) < d.rooms.length := by omega
      have ht : (d.rooms.take (i + 1)).all countOk = ((d.rooms.take i).all countOk && countOk (d.rooms.getD i zCount)) := by rw [take_snoc zCount d.rooms i hi, List.all_append]; simp
      rw [ht, ← Bool.and_assoc]
      generalize (countOk d.door && within d.taken 0 10000 && (d.rooms.take i).all countOk) = A
      cases A with
      | true =>
        refine WP.once ?_
        simp only [T60, Tr.sure, SS, hi', hi, z5]
        repeat' with_reducible first | intro _ | apply And.intro
        all_goals first | exact (c103 _) | (simp [hr, Go, Ends', v60, -List.getD_eq_getElem?_getD, *]; done)
      | false =>
        refine WP.once ?_
        simp only [T60, Tr.sure, SS, hi', hi, z5]
        repeat' with_reducible first | intro _ | apply And.intro
        all_goals simp [hr, Go, Ends', v60, -List.getD_eq_getElem?_getD, *]
    · rw [List.take_length]
      have e : dayErr b d = if (countOk d.door && within d.taken 0 10000 && d.rooms.all countOk) = true then 0 else 7 := by
        unfold dayErr; rw [if_neg h1, if_neg (fun q => q h2)]
      generalize (countOk d.door && within d.taken 0 10000 && d.rooms.all countOk) = A at *
      cases A with
      | true =>
        refine WP.step ?_
        simp only [T60, Go, Ends', v60, Tr.sure, SS, Int.lt_irrefl]
        repeat' with_reducible first | intro _ | apply And.intro
        all_goals simp [e, Go, Ends', v60, -List.getD_eq_getElem?_getD, *]
      | false =>
        refine WP.step ?_
        simp only [T60, Go, Ends', v60, Tr.sure, SS, Int.lt_irrefl]
        repeat' with_reducible first | intro _ | apply And.intro
        all_goals simp [e, Go, Ends', v60, -List.getD_eq_getElem?_getD, *]
  by_cases h1 : schoolsErr d.schools ≠ 0
  · have e : dayErr b d = schoolsErr d.schools := by unfold dayErr; rw [if_pos h1]
    refine w60 b d (WP.step ?_)
    simp only [T60, Go, Ends', v60, Tr.sure, SS]
    repeat' with_reducible first | intro _ | apply And.intro
    all_goals first | exact (c102 _) | exact (c103 _) | exact (c58 _ _ _) | (simp [e, Go, Ends', v60, -List.getD_eq_getElem?_getD, *]; done) | (simp_all [e, Go, Ends', v60, -List.getD_eq_getElem?_getD]; done)
  · by_cases h2 : (d.rooms.length : Int) = b.rooms.length
    · have hm := hmain h1 h2
      have h1' := Decidable.not_not.1 h1
      cases hc : countOk d.door with
      | true =>
        rw [hc, Bool.true_and] at hm
        refine w60 b d (WP.step ?_)
        simp only [T60, Go, Ends', v60, Tr.sure, SS]
        repeat' with_reducible first | intro _ | apply And.intro
        all_goals first | exact (c102 _) | exact (c103 _) | exact (c58 _ _ _) | exact hm | (simp_all [hc, h1', h2, Go, Ends', v60, -List.getD_eq_getElem?_getD]; done)
      | false =>
        rw [hc, Bool.false_and] at hm
        refine w60 b d (WP.step ?_)
        simp only [T60, Go, Ends', v60, Tr.sure, SS]
        repeat' with_reducible first | intro _ | apply And.intro
        all_goals first | exact (c102 _) | exact (c103 _) | exact (c58 _ _ _) | exact hm | (simp_all [hc, h1', h2, Go, Ends', v60, -List.getD_eq_getElem?_getD]; done)
    · have h1' := Decidable.not_not.1 h1
      have e : dayErr b d = 3 := by unfold dayErr; rw [if_neg h1, if_pos h2]
      refine w60 b d (WP.step ?_)
      simp only [T60, Go, Ends', v60, Tr.sure, SS]
      repeat' with_reducible first | intro _ | apply And.intro
      all_goals first | exact (c102 _) | exact (c103 _) | exact (c58 _ _ _) | (simp [e, h1', h2, Go, Ends', v60, -List.getD_eq_getElem?_getD, *]; done) | (simp_all [e, h1', h2, Go, Ends', v60, -List.getD_eq_getElem?_getD]; done)
inductive P14
  | e
  | l0 (x0_7 : Int)
inductive R14
  | r0 (r0 : Int) (r1 : Int) (r2 : Int)
noncomputable def T14 (b : Book) : P14 → Tr P14 R14
  | .e => let c1 := roomsErr b.rooms; (.call 58 [iI b.price, iI 2, iI 60] (.bool (within b.price 2 60)) true true (.br (!(within b.price 2 60)) (.out (.r0 1 0 7)) (.need (decide ((2 : Int) ≠ 0)) (.br ((b.price.tmod (2 : Int)) == (1 : Int)) (.out (.r0 1 0 2)) (.call 59 [tRoom.lst b.rooms] (.tuple [iI (c1.1), iI (c1.2)]) true true (.br (c1.2 != (0 : Int)) (.out (.r0 2 (c1.1) (c1.2))) (.br (decide ((b.days.length : Int) > (4 : Int))) (.out (.r0 3 0 3)) (.go (.l0 0)))))))))
  | .l0 x0_7 => let c1 := b.days.getD (x0_7).toNat tDay.zero; let c2 := x0_7 < (b.days.length : Int); (.br (decide c2) (.front [] [] (((decide (0 ≤ x0_7) && decide c2) && true) && true) true (.call 60 [.agg (cC b), .agg [tSchool.lst (c1.schools), iI (c1.door.seen), iI (c1.door.miss), tCount.lst (c1.rooms), iI (c1.taken)]] (iI (dayErr b c1)) true true (.br ((dayErr b c1) != (0 : Int)) (.out (.r0 3 x0_7 (dayErr b c1))) (.need (inR .i64 (x0_7 + (1 : Int))) (.go (.l0 (x0_7 + (1 : Int)))))))) (.out (.r0 0 0 0)))
noncomputable def g14 (b : Book) : P14 → List Item × St
  | .e => bd Tryz.f14 [.agg (cC b)] 47
  | .l0 x0_7 => (cutOf Tryz.f14 0, ⟨mk 48 [(1, .ref 0 0 0), (7, iI x0_7)], [.cells (cC b)], []⟩)
noncomputable def n14 : R14 → Exit × St
  | .r0 r0 r1 r2 => (.ret, ⟨mk 48 [(2, iI r0), (3, iI r1), (4, iI r2)], [], []⟩)
noncomputable def v14 : R14 → V
  | .r0 r0 r1 r2 => .tuple [iI r0, iI r1, iI r2]
theorem s14 (b : Book) : Sm 0 (g14 b) (T14 b) (n14)
  | .e => ⟨400, by kernel_rfl⟩
  | .l0 _ => ⟨400, by kernel_rfl⟩
theorem q14 : ∀ r, bodyQ Tryz.prog Tryz.f14 (· = v14 r) (n14 r).1 (n14 r).2
  | .r0 r0 r1 r2 => bq (.tuple [iI r0, iI r1, iI r2]) (by kernel_rfl)
theorem w14 (b : Book) {post : V → Prop} (h : WQ (T14 b) v14 post .e) : PC 14 [.agg (cC b)] post :=
  PCalls.wq Tryz.func14 (s14 b) q14 h
theorem c14 (b : Book) : PC 14 [.agg (tBook.cells b)] (· = .tuple [iI (bookCheck b).1, iI (bookCheck b).2.1, iI (bookCheck b).2.2]) := by
  refine w14 _ (WP.step ?_)
  simp only [T14, Go, Ends', v14, Tr.sure, SS]
  repeat' with_reducible first | intro _ | apply And.intro
  all_goals first | exact c58 _ _ _ | exact c59 _ | (simp [bookCheck, Go, Ends', v14, -List.getD_eq_getElem?_getD, *]; done) | skip
  rename_i h1 h2 h3 h4 h5
  have h6 := (okRooms h4).1
  refine WP.findE (fun i => .l0 i) rfl b.days tDay.zero (fun _ d => dayErr b d) (fun i hi => ?_) fun hI => ?_
  · have hr : inR .i64 ((i : Int) + 1) = true := inR64 (by omega) (by omega)
    refine WP.once ?_
    simp only [T14, Tr.sure, SS, hi]
    repeat' with_reducible first | intro _ | apply And.intro
    all_goals first | exact c60 _ _ h6 | (simp [hr, bookCheck, Go, Ends', v14, -List.getD_eq_getElem?_getD, *]; done) | (simp +contextual [hr, bookCheck, Go, Ends', v14, -List.getD_eq_getElem?_getD, *]; done)
  · refine WP.step ?_
    simp only [T14, Go, Ends', v14, Tr.sure, SS]
    repeat' with_reducible first | intro _ | apply And.intro
    all_goals simp [bookCheck, hI, Go, Ends', v14, -List.getD_eq_getElem?_getD, *]
end
noncomputable section
theorem part_set (l : List Count) (i : Nat) (v : Int) {n r j : Nat} (hr : r < n) (hj : j < 2) (hn : n = l.length) :
    VLe (if r = i ∧ 1 ≤ j ∧ j < 1 + ([V.int .i64 v] : List V).length then ([V.int .i64 v] : List V).getD (j - 1) uU else rowsOf tCount l r j) (rowsOf tCount (l.set i (⟨(l.getD i zCount).seen, v⟩ : Count)) r j) := by
  by_cases h : r = i
  · subst h
    simp only [rowsOf]
    have e : (l.set r (⟨(l.getD r zCount).seen, v⟩ : Count)).getD r tCount.zero = ⟨(l.getD r zCount).seen, v⟩ := by
      rw [List.getD_eq_getElem?_getD, List.getElem?_set_self (by omega)]; rfl
    rw [e]
    rcases show j = 0 ∨ j = 1 by omega with rfl | rfl
    · rw [if_neg (by omega)]; exact VLe.refl _
    · rw [if_pos ⟨True.intro, Nat.le_refl _, by show 1 < 1 + 1; omega⟩]; exact VLe.refl _
  · rw [if_neg (fun q => h q.1)]
    simp only [rowsOf, List.getD_eq_getElem?_getD, List.getElem?_set_ne (Ne.symm h)]
    exact VLe.refl _
theorem map_step (f : Count → Count) (l : List Count) (i : Nat) (hi : i < l.length) : ((l.take i).map f ++ l.drop i).set i (f (l.getD i zCount)) = (l.take (i + 1)).map f ++ l.drop (i + 1) := by
  apply List.ext_getElem?
  intro j
  have hl : ((l.take i).map f).length = i := by simp; omega
  have hl2 : ((l.take (i + 1)).map f).length = i + 1 := by simp; omega
  rcases Nat.lt_trichotomy j i with h | h | h
  · rw [List.getElem?_set_ne (by omega), List.getElem?_append_left (by omega), List.getElem?_append_left (by omega)]
    simp only [List.getElem?_map, List.getElem?_take, h, if_true, show j < i + 1 by omega]
  · subst h
    rw [List.getElem?_set_self (by simp; omega), List.getElem?_append_left (by omega)]
    simp [List.getD_eq_getElem?_getD, hi]
  · rw [List.getElem?_set_ne (by omega), List.getElem?_append_right (by omega), List.getElem?_append_right (by omega), hl, hl2, List.getElem?_drop, List.getElem?_drop]
    congr 1; omega
inductive P50
  | e
  | l0 (x0_8 : Int) (a0_4 : List Count)
inductive R50
  | r0 (r0_0 : Int) (r0_1 : List Room) (r0_2 : List Day)
noncomputable def T50 (b : Book) (d : Int) (more : Int) : P50 → Tr P50 R50
  | .e => let c1 := b.days.getD (d).toNat tDay.zero; let c2 := rowsOf tCount (c1.rooms); let c3 := rowsOf tDay b.days; (.need ((decide (0 = 0) && decide (0 + b.days.length ≤ 4294967296)) && true) (.scal (fun r => (List.range 5).all fun j => (c3 r j).scalar) (.telb 2 5 (0 + b.days.length) (appC 0 (litC 5 0 []) c3) c3 (.need ((decide (0 ≤ d) && decide (d < ((0 + b.days.length) : Int))) && decide ((0 + b.days.length) ≤ (0 + b.days.length))) (.need (decide ((d).toNat < (0 + b.days.length)) && decide (0 + 5 ≤ 5)) (.need (inR .i64 (c1.door.miss + more)) (.need ((decide (0 = 0) && decide (0 + c1.rooms.length ≤ 4294967296)) && true) (.scal (fun r => (List.range 2).all fun j => (c2 r j).scalar) (.telb 4 2 (0 + c1.rooms.length) (appC 0 (litC 2 0 []) c2) c2 (.go (.l0 0 (c1.rooms))))))))))))
  | .l0 x0_8 a0_4 => let c1 := b.days.getD (d).toNat tDay.zero; let c3 := (a0_4.getD (x0_8).toNat tCount.zero).miss + more; let c4 := (0 + c1.rooms.length) ≤ (0 + c1.rooms.length); let c5 := c1.door.miss + more; let c2 := b.days.set ((d).toNat) (⟨c1.schools, (⟨c1.door.seen, c5⟩ : Count), a0_4, c1.taken⟩ : Day); let c6 := (decide (0 ≤ x0_8) && decide (x0_8 < ((0 + c1.rooms.length) : Int))) && decide c4; let c7 := (0 + b.days.length) ≤ (0 + b.days.length); let c8 := c1.door.seen; let c9 := (⟨(a0_4.getD (x0_8).toNat tCount.zero).seen, c3⟩ : Count); let c10 := c1.schools; let c11 := ([tSchool.lst c10, iI c8, iI c5, tCount.lst a0_4, iI (c1.taken)] : List V); let c12 := ([iI c3] : List V); let c13 := (x0_8).toNat < (0 + c1.rooms.length); let c14 := rowsOf tCount a0_4; let c15 := rowsOf tDay c2; let c16 := a0_4.set ((x0_8).toNat) c9; (.br (decide (x0_8 < ((0 + c1.rooms.length) : Int))) (.front [] [] ((c6 && ((decide c13 && decide (1 < 2)) && ((inR .i64 c3) && true))) && true) true (.need c6 (.need ((decide c13 && decide (1 + c12.length ≤ 2)) && underL 0 c12) (.telb 4 2 (0 + c1.rooms.length) (fun r' j => if r' = (x0_8).toNat ∧ 1 ≤ j ∧ j < 1 + c12.length then c12.getD (j - 1) uU else c14 r' j) (rowsOf tCount c16) (.need (inR .i64 (x0_8 + (1 : Int))) (.go (.l0 (x0_8 + (1 : Int)) c16))))))) (.wait 2 (.frz 4 (((decide c4) && true) && (((decide c4) && true) && true)) (.vle 33 (.list 2 (0 + c1.rooms.length) c14) (tCount.lst a0_4) (.telc 3 [tSchool.lst c10, iI c8, iI c5, .list 2 (0 + c1.rooms.length) c14, iI (c1.taken)] [tSchool.lst c10, iI c8, iI c5, tCount.lst a0_4, iI (c1.taken)] (.need ((decide (0 ≤ d) && decide (d < ((0 + b.days.length) : Int))) && decide c7) (.need ((decide ((d).toNat < (0 + b.days.length)) && decide (0 + c11.length ≤ 5)) && underL 0 c11) (.telb 2 5 (0 + b.days.length) (fun r' j => if r' = (d).toNat ∧ 0 ≤ j ∧ j < 0 + c11.length then c11.getD (j - 0) uU else (rowsOf tDay b.days) r' j) c15 (.wait 1 (.frz 2 (((decide c7) && true) && (((decide c7) && true) && true)) (.vle 52 (.list 5 (0 + b.days.length) c15) (tDay.lst c2) (.telc 0 [iI b.price, tRoom.lst b.rooms, .list 5 (0 + b.days.length) c15] [iI b.price, tRoom.lst b.rooms, tDay.lst c2] (.out (.r0 b.price b.rooms c2))))))))))))))
noncomputable def g50 (b : Book) (d : Int) (more : Int) : P50 → List Item × St
  | .e => bd Tryz.f50 [.agg (cC b), iI d, iI more] 54
  | .l0 x0_8 a0_4 => (cutOf Tryz.f50 0, ⟨mk 57 [(1, iI d), (2, iI more), (3, .ref 0 0 0), (6, .ref 1 0 0), (7, .ref 3 0 0), (8, iI x0_8)], [.cells [iI b.price, tRoom.lst b.rooms, .row 2 (0 + b.days.length)], .cells [iI 0, .nils, .nils], .rows 67 5 (0 + b.days.length) (rowsOf tDay b.days), .cells [tSchool.lst ((b.days.getD (d).toNat tDay.zero).schools), iI ((b.days.getD (d).toNat tDay.zero).door.seen), iI ((b.days.getD (d).toNat tDay.zero).door.miss + more), .row 4 (0 + (b.days.getD (d).toNat tDay.zero).rooms.length), iI ((b.days.getD (d).toNat tDay.zero).taken)], .rows 64 2 (0 + (b.days.getD (d).toNat tDay.zero).rooms.length) (rowsOf tCount a0_4)], []⟩)
noncomputable def n50 : R50 → Exit × St
  | .r0 r0_0 r0_1 r0_2 => (.ret, ⟨mk 57 [(6, .ref 1 0 0)], [.gone, .cells [iI r0_0, tRoom.lst r0_1, tDay.lst r0_2]], []⟩)
noncomputable def v50 : R50 → V
  | .r0 r0_0 r0_1 r0_2 => .agg [iI r0_0, tRoom.lst r0_1, tDay.lst r0_2]
theorem s50 (b : Book) (d : Int) (more : Int) : Sm 0 (g50 b d more) (T50 b d more) (n50)
  | .e => ⟨400, by kernel_rfl⟩
  | .l0 _ _ => ⟨400, by kernel_rfl⟩
theorem q50 : ∀ r, bodyQ Tryz.prog Tryz.f50 (· = v50 r) (n50 r).1 (n50 r).2
  | .r0 r0_0 r0_1 r0_2 => bq (.agg [iI r0_0, tRoom.lst r0_1, tDay.lst r0_2]) (by kernel_rfl)
theorem w50 (b : Book) (d : Int) (more : Int) {post : V → Prop} (h : WQ (T50 b d more) v50 post .e) : PC 50 [.agg (cC b), iI d, iI more] post :=
  PCalls.wq Tryz.func50 (s50 b d more) q50 h
theorem VLe.encN {τ : Type} (E : Ty τ) (l : List τ) {n : Nat} (h : n = l.length) : VLe (.list E.w n (rowsOf E l)) (E.lst l) := by subst h; exact VLe.refl _
set_option maxHeartbeats 4000000 in
theorem c50 (b : Book) (d more : Int) (h : OkBook b) (hd : 0 ≤ d ∧ d < b.days.length) (hm : 0 ≤ more ∧ more ≤ 60) : PC 50 [.agg (tBook.cells b), iI d, iI more] (· = .agg (tBook.cells (missingR b d more))) := by
  have hday := h.day _ (getD_mem zDay b.days d.toNat (by omega))
  have h3 := h.nr
  have h4 := h.nd
  have hdo := hday.door
  have hmany := hday.many
  have hroom := hday.room
  have r0 : inR .i64 ((b.days.getD d.toNat zDay).door.miss + more) = true := inR64 (by omega) (by omega)
  have hmi : missingR b d more = ⟨b.price, b.rooms, b.days.set d.toNat (missD more (b.days.getD d.toNat zDay))⟩ := rfl
  rw [hmi]
  have hsc : ∀ r, ((List.range 5).all fun j => (rowsOf tDay b.days r j).scalar) = true := fun r => rfl
  have hsc2 : ∀ (l : List Count) r, ((List.range 2).all fun j => (rowsOf tCount l r j).scalar) = true := fun l r => rfl
  have happ : ∀ r j, appC 0 (litC 5 0 []) (rowsOf tDay b.days) r j = rowsOf tDay b.days r j := fun r j => by unfold appC; rw [if_neg (Nat.not_lt_zero r), Nat.sub_zero]
  have happ2 : ∀ (l : List Count) r j, appC 0 (litC 2 0 []) (rowsOf tCount l) r j = rowsOf tCount l r j := fun l r j => by unfold appC; rw [if_neg (Nat.not_lt_zero r), Nat.sub_zero]
  have v1 : ∀ r j, VLe (appC 0 (litC 5 0 []) (rowsOf tDay b.days) r j) (rowsOf tDay b.days r j) := fun r j => by rw [happ]; exact VLe.refl _
  have v2 : ∀ (l : List Count) r j, VLe (appC 0 (litC 2 0 []) (rowsOf tCount l) r j) (rowsOf tCount l r j) := fun l r j => by rw [happ2]; exact VLe.refl _
  have hmain : WP Tryz.prog ⟨none, 0⟩ (T50 b d more) (Ends' fun r => v50 r = .agg (tBook.cells ⟨b.price, b.rooms, b.days.set d.toNat (missD more (b.days.getD d.toNat zDay))⟩)) (.l0 0 (b.days.getD d.toNat zDay).rooms) := by
    generalize hD : b.days.getD d.toNat zDay = D at *
    refine WP.run (fun i => .l0 (i : Int) ((D.rooms.take i).map (missC more) ++ D.rooms.drop i)) (by simp) D.rooms.length (fun i hi => ?_) ?_
    · have hr : inR .i64 ((i : Int) + 1) = true := inR64 (by omega) (by omega)
      have hi' : (i : Int) < D.rooms.length := by omega
      have hi0 : (i : Int) < ((0 + D.rooms.length : Nat) : Int) := by omega
      have hst := map_step (missC more) D.rooms i hi
      have hln : D.rooms.length = ((D.rooms.take i).map (missC more) ++ D.rooms.drop i).length := by simp; omega
      have hgt : ((D.rooms.take i).map (missC more) ++ D.rooms.drop i).getD i zCount = D.rooms.getD i zCount := by
        have hl : ((D.rooms.take i).map (missC more)).length = i := by simp; omega
        rw [List.getD_eq_getElem?_getD, List.getElem?_append_right (by omega), hl, List.getElem?_drop, Nat.sub_self, Nat.add_zero, List.getD_eq_getElem?_getD]
      have hrm := hroom _ (getD_mem zCount D.rooms i hi)
      have r1 : inR .i64 ((D.rooms.getD i zCount).miss + more) = true := inR64 (by omega) (by omega)
      have hmc : (⟨(D.rooms.getD i zCount).seen, (D.rooms.getD i zCount).miss + more⟩ : Count) = missC more (D.rooms.getD i zCount) := rfl
      generalize hB : (D.rooms.take i).map (missC more) ++ D.rooms.drop i = B at *
      have hps := fun r j (hr : r < D.rooms.length) (hj : j < 2) => part_set B i ((D.rooms.getD i zCount).miss + more) hr hj hln
      rw [hgt, hmc, hst] at hps
      have hu : underL 0 ([iI ((D.rooms.getD i zCount).miss + more)] : List V) = true := rfl
      refine WP.once ?_
      simp only [T50, Tr.sure, SS, hi', hD, z5, z8, hgt, hmc, hst, Nat.zero_add]
      repeat' with_reducible first | intro _ | apply And.intro
      all_goals first | exact (by with_reducible exact hps _ _ ‹_› ‹_›) | exact (by with_reducible exact hu) | (simp [hr, r1, hst, hmc, Go, Ends', v50, -List.getD_eq_getElem?_getD, *]; done) | (simp_all [hr, r1, hst, hmc, Go, Ends', v50, -List.getD_eq_getElem?_getD]; done)
    · rw [List.take_length, List.drop_length, List.append_nil]
      have hn : D.rooms.length = (D.rooms.map (missC more)).length := by simp
      have hmd : missD more D = ⟨D.schools, ⟨D.door.seen, D.door.miss + more⟩, D.rooms.map (missC more), D.taken⟩ := rfl
      rw [hmd]
      generalize hB : D.rooms.map (missC more) = B at *
      have w1 : VLe (.list 2 D.rooms.length (rowsOf tCount B)) (tCount.lst B) := VLe.encN tCount B hn
      have w2 := fun j => VLe.at w1 [tSchool.lst D.schools, iI D.door.seen, iI (D.door.miss + more)] [iI D.taken] j
      have hu : underL 0 ([tSchool.lst D.schools, iI D.door.seen, iI (D.door.miss + more), tCount.lst B, iI D.taken] : List V) = true := rfl
      have w3 := tel_set tDay b.days d.toNat ⟨D.schools, ⟨D.door.seen, D.door.miss + more⟩, B, D.taken⟩ (n := b.days.length) (w := 5) ([tSchool.lst D.schools, iI D.door.seen, iI (D.door.miss + more), tCount.lst B, iI D.taken] : List V) rfl rfl rfl
      simp only [Nat.zero_add] at w3
      have hdl : b.days.length = (b.days.set d.toNat ⟨D.schools, ⟨D.door.seen, D.door.miss + more⟩, B, D.taken⟩).length := by simp
      have w4 : VLe (.list 5 b.days.length (rowsOf tDay (b.days.set d.toNat ⟨D.schools, ⟨D.door.seen, D.door.miss + more⟩, B, D.taken⟩))) (tDay.lst (b.days.set d.toNat ⟨D.schools, ⟨D.door.seen, D.door.miss + more⟩, B, D.taken⟩)) := VLe.encN tDay _ hdl
      have w5 := fun j => VLe.at w4 [iI b.price, tRoom.lst b.rooms] [] j
      clear hdl hn hmi
      refine WP.step ?_
      simp only [T50, Go, Ends', v50, Tr.sure, SS, Int.lt_irrefl, hD, z8, Nat.zero_add, hd]
      repeat' with_reducible first | intro _ | apply And.intro
      all_goals first | exact w1 | exact (by with_reducible exact hu) | exact (by with_reducible exact w3 _ _ ‹_› ‹_›) | exact w4 | (simp [tBook, Go, Ends', v50, -List.getD_eq_getElem?_getD, *]; done) | (simp_all [tBook, Go, Ends', v50, -List.getD_eq_getElem?_getD]; done)
  refine w50 b d more (WP.step ?_)
  simp only [T50, Go, Ends', v50, Tr.sure, SS, z8, Nat.zero_add]
  repeat' with_reducible first | intro _ | apply And.intro
  all_goals first | exact (by with_reducible exact v1 _ _) | exact (by with_reducible exact v2 _ _ _) | exact (by with_reducible exact hsc _) | exact (by with_reducible exact hsc2 _ _) | exact hmain | exact (show b.days.length ≤ 4294967296 by omega) | exact (show (b.days.getD d.toNat zDay).rooms.length ≤ 4294967296 by omega) | (simp [r0, hd, Go, Ends', v50, -List.getD_eq_getElem?_getD, *]; done)
end
noncomputable section
theorem miss_len (b : Book) (d m : Int) : (missingR b d m).days.length = b.days.length := by simp [missingR]
end
noncomputable section
theorem first_how (b : Book) (d : Int) : (∃ f, firstT b d = (zTruth, 0, f) ∧ f ≠ 0 ∧ (askedR b d = 0 → f = 8 ∧ (agreeD b d).length = 0)) ∨ (askedR b d = 0 ∧ 0 < (agreeD b d).length ∧ firstT b d = (bestD (agreeD b d), ((agreeD b d).length : Int), 0)) := by
  by_cases ha : askedR b d = 0
  · by_cases hz : (agreeD b d).length = 0
    · have hx : explainedR b d (askedR b d) = ([], 8) := by unfold explainedR; rw [if_neg (fun q => q ha), if_pos hz]
      left
      refine ⟨8, ?_, by decide, fun _ => ⟨rfl, hz⟩⟩
      unfold firstT; rw [hx]; rfl
    · have hx : explainedR b d (askedR b d) = (agreeD b d, 0) := by unfold explainedR; rw [if_neg (fun q => q ha), if_neg hz]
      right
      refine ⟨ha, by omega, ?_⟩
      unfold firstT; rw [hx]; rfl
  · have hx : explainedR b d (askedR b d) = ([], askedR b d) := by unfold explainedR; rw [if_pos ha]
    left
    refine ⟨askedR b d, ?_, ha, fun h => absurd h ha⟩
    unfold firstT; rw [hx, if_pos ha]; rfl
end
noncomputable section
def validR (b : Book) : Bool := (bookCheck b).2.2 == 0
inductive P36
  | e
inductive R36
  | r0 (r0 : Bool)
noncomputable def T36 (b : Book) : P36 → Tr P36 R36
  | .e => let c1 := bookCheck b; (.call 14 [.agg (cC b)] (.tuple [iI (c1.1), iI (c1.2.1), iI (c1.2.2)]) true true (.out (.r0 (c1.2.2 == (0 : Int)))))
noncomputable def g36 (b : Book) : P36 → List Item × St
  | .e => bd Tryz.f36 [.agg (cC b)] 13
noncomputable def n36 : R36 → Exit × St
  | .r0 r0 => (.ret, ⟨mk 14 [(2, .bool r0)], [], []⟩)
noncomputable def v36 : R36 → V
  | .r0 r0 => .bool r0
theorem s36 (b : Book) : Sm 0 (g36 b) (T36 b) (n36)
  | .e => ⟨400, by kernel_rfl⟩
theorem q36 : ∀ r, bodyQ Tryz.prog Tryz.f36 (· = v36 r) (n36 r).1 (n36 r).2
  | .r0 r0 => bq (.bool r0) (by kernel_rfl)
theorem w36 (b : Book) {post : V → Prop} (h : WQ (T36 b) v36 post .e) : PC 36 [.agg (cC b)] post :=
  PCalls.wq Tryz.func36 (s36 b) q36 h
theorem c36 (b : Book) : PC 36 [.agg (tBook.cells b)] (· = .bool (validR b)) := by
  refine w36 b (WP.step ?_)
  simp only [T36, Go, Ends', v36, Tr.sure, SS]
  repeat' with_reducible first | intro _ | apply And.intro
  all_goals first | exact (c14 b) | (simp [validR, Go, Ends', v36, -List.getD_eq_getElem?_getD, *]; done)
def insideR (n : Int) (s : Span) : Bool := within n s.lo s.hi
def widerR (a b : Span) : Bool := decide (a.lo ≤ b.lo) && decide (b.hi ≤ a.hi)
inductive P51
  | e
inductive R51
  | r0 (r0 : Bool)
noncomputable def T51 (s : Span) (u : Span) : P51 → Tr P51 R51
  | .e => (.br (decide (s.lo ≤ u.lo)) (.out (.r0 (decide (s.hi ≥ u.hi)))) (.out (.r0 false)))
noncomputable def g51 (s : Span) (u : Span) : P51 → List Item × St
  | .e => bd Tryz.f51 [.agg [iI s.lo, iI s.hi], .agg [iI u.lo, iI u.hi]] 15
noncomputable def n51 : R51 → Exit × St
  | .r0 r0 => (.ret, ⟨mk 17 [(4, .bool r0)], [], []⟩)
noncomputable def v51 : R51 → V
  | .r0 r0 => .bool r0
theorem s51 (s : Span) (u : Span) : Sm 0 (g51 s u) (T51 s u) (n51)
  | .e => ⟨400, by kernel_rfl⟩
theorem q51 : ∀ r, bodyQ Tryz.prog Tryz.f51 (· = v51 r) (n51 r).1 (n51 r).2
  | .r0 r0 => bq (.bool r0) (by kernel_rfl)
theorem w51 (s : Span) (u : Span) {post : V → Prop} (h : WQ (T51 s u) v51 post .e) : PC 51 [.agg [iI s.lo, iI s.hi], .agg [iI u.lo, iI u.hi]] post :=
  PCalls.wq Tryz.func51 (s51 s u) q51 h
theorem c51 (s u : Span) : PC 51 [.agg (tSpan.cells s), .agg (tSpan.cells u)] (· = .bool (widerR s u)) := by
  refine w51 s u (WP.step ?_)
  simp only [T51, Go, Ends', v51, Tr.sure, SS]
  repeat' with_reducible first | intro _ | apply And.intro
  all_goals simp [widerR, Go, Ends', v51, -List.getD_eq_getElem?_getD, *]
end
noncomputable section
theorem getD_app_left (p : List Int) (n : Int) {k : Nat} (h : k < p.length) : (p ++ [n]).getD k 0 = p.getD k 0 := by
  rw [List.getD_eq_getElem?_getD, List.getElem?_append_left h, List.getD_eq_getElem?_getD]
theorem getD_app_last (p : List Int) (n : Int) : (p ++ [n]).getD p.length 0 = n := by
  rw [List.getD_eq_getElem?_getD, List.getElem?_append_right (Nat.le_refl _), Nat.sub_self]; rfl
theorem mem_roomsN {b : Book} {D : Day} {all : Int} {off : List Int} : ∀ (i : Nat) (l : List Int), l ∈ roomsN b D all off i ↔ l.length = i ∧ ∀ k, k < i → (spanAt b D all off k).lo ≤ l.getD k 0 ∧ l.getD k 0 ≤ (spanAt b D all off k).hi
  | 0, l => by
    simp only [roomsN, List.mem_singleton]
    constructor
    · rintro rfl; exact ⟨rfl, fun k hk => absurd hk (Nat.not_lt_zero _)⟩
    · exact fun h => List.length_eq_zero_iff.1 h.1
  | i + 1, l => by
    simp only [roomsN, List.mem_flatMap, growL, List.mem_map, mem_rangeI]
    constructor
    · rintro ⟨p, hp, n, hn, rfl⟩
      obtain ⟨h1, h2⟩ := (mem_roomsN i p).1 hp
      refine ⟨by simp [h1], fun k hk => ?_⟩
      rcases Nat.lt_or_ge k i with q | q
      · rw [getD_app_left p n (by omega)]; exact h2 k q
      · obtain rfl : k = p.length := by omega
        rw [getD_app_last, h1]; exact hn
    · rintro ⟨h1, h2⟩
      refine ⟨l.take i, (mem_roomsN i _).2 ⟨by rw [List.length_take]; omega, fun k hk => ?_⟩, l.getD i 0, h2 i (by omega), ?_⟩
      · have := h2 k (by omega)
        rw [List.getD_eq_getElem?_getD, List.getElem?_take_of_lt hk, ← List.getD_eq_getElem?_getD]; exact this
      · rw [← take_snoc 0 l i (by omega), List.take_of_length_le (by omega)]
theorem extra_app (b : Book) (p : List Int) (n : Int) : ∀ i, i ≤ p.length → extraTo b (p ++ [n]) i = extraTo b p i
  | 0, _ => rfl
  | i + 1, h => by rw [extra_next, extra_next, extra_app b p n i (by omega), getD_app_left p n (by omega)]
theorem mem_extN {b : Book} {D : Day} {all : Int} {off : List Int} : ∀ (i : Nat) (v : Int), v ∈ extN b D all off i ↔ ∃ l ∈ roomsN b D all off i, extraTo b l i = v
  | 0, v => by
    simp only [extN, roomsN, List.mem_singleton]
    constructor
    · rintro rfl; exact ⟨[], rfl, rfl⟩
    · rintro ⟨l, rfl, rfl⟩; rfl
  | i + 1, v => by
    rw [extN, mem_addAll]
    simp only [List.not_mem_nil, false_or, List.mem_flatMap, candL, List.mem_map, mem_rangeI]
    constructor
    · rintro ⟨x, hx, n, hn, rfl⟩
      obtain ⟨p, hp, rfl⟩ := (mem_extN i x).1 hx
      have hl := ((mem_roomsN i p).1 hp).1
      refine ⟨p ++ [n], ?_, ?_⟩
      · simp only [roomsN, List.mem_flatMap, growL, List.mem_map, mem_rangeI]
        exact ⟨p, hp, n, hn, rfl⟩
      · rw [extra_next, extra_app b p n i (by omega)]
        subst hl
        rw [getD_app_last]
    · rintro ⟨l, hl, rfl⟩
      simp only [roomsN, List.mem_flatMap, growL, List.mem_map, mem_rangeI] at hl
      obtain ⟨p, hp, n, hn, rfl⟩ := hl
      have hl := ((mem_roomsN i p).1 hp).1
      refine ⟨extraTo b p i, (mem_extN i _).2 ⟨p, hp, rfl⟩, n, hn, ?_⟩
      rw [extra_next, extra_app b p n i (by omega)]
      subst hl
      rw [getD_app_last]
theorem mem_extras {b : Book} {d all : Int} {off : List Int} {v : Int} : v ∈ extrasR b d all off ↔ ∃ l ∈ inRoomsR b d all off, extraR b l = v := by
  unfold extrasR inRoomsR
  rw [mem_extN]
  constructor
  · rintro ⟨l, hl, e⟩
    refine ⟨l, hl, ?_⟩
    unfold extraR; rw [((mem_roomsN _ _).1 hl).1]; exact e
  · rintro ⟨l, hl, e⟩
    refine ⟨l, hl, ?_⟩
    unfold extraR at e; rw [((mem_roomsN _ _).1 hl).1] at e; exact e
theorem mem_agree {b : Book} {d : Int} {t : Truth} : t ∈ agreeD b d ↔ ∃ n, (firstN b d ≤ n ∧ n ≤ (doorS b d).hi) ∧ ∃ l ∈ inRoomsR b d n [], t ∈ agreeAt b d n l := by
  simp only [agreeD, agreeN, List.mem_flatMap, mem_rangeI]
theorem pay_at {b : Book} {d n : Int} {l : List Int} : payOk b d n (extraR b l) = true ↔ ∃ t, t ∈ agreeAt b d n l := by
  unfold agreeAt
  have e : payOk b d n (extraR b l) = true ↔ (0 ≤ leftR b d n l ∧ (leftR b d n l).tmod (b.price.tdiv 2) = 0 ∧ (leftR b d n l).tdiv (b.price.tdiv 2) ≤ n - pupilsD b d) := by
    unfold payOk leftR
    simp only [Bool.and_eq_true, decide_eq_true_eq]
  rw [e]
  constructor
  · intro h; rw [if_pos h]; exact ⟨_, List.mem_cons_self⟩
  · rintro ⟨t, ht⟩
    split at ht
    · rename_i h; exact h
    · exact absurd ht List.not_mem_nil
theorem explains_nil {b : Book} {d : Int} : explainsR b d [] = true ↔ 0 < (agreeD b d).length := by
  have e : explainsR b d [] = true ↔ ∃ t, t ∈ agreeD b d := by
    unfold explainsR
    rw [List.any_eq_true]
    constructor
    · rintro ⟨n, hn, h⟩
      rw [mem_rangeI] at hn
      unfold explAt at h
      have h0 : hasN [] 3 = false := rfl
      rw [h0, Bool.and_false, Bool.false_or, List.any_eq_true] at h
      obtain ⟨v, hv, hp⟩ := h
      obtain ⟨l, hl, rfl⟩ := mem_extras.1 hv
      obtain ⟨t, ht⟩ := pay_at.1 hp
      exact ⟨t, mem_agree.2 ⟨n, hn, l, hl, ht⟩⟩
    · rintro ⟨t, ht⟩
      obtain ⟨n, hn, l, hl, ht⟩ := mem_agree.1 ht
      refine ⟨n, mem_rangeI.2 hn, ?_⟩
      unfold explAt
      rw [Bool.or_eq_true]
      exact .inr (List.any_eq_true.2 ⟨_, mem_extras.2 ⟨l, hl, rfl⟩, pay_at.2 ⟨t, ht⟩⟩)
  rw [e]
  constructor
  · rintro ⟨t, ht⟩; exact List.length_pos_of_mem ht
  · exact fun h => ⟨_, List.getElem_mem h⟩
theorem valid_ok {b : Book} (h : validR b = true) : OkBook b := okBook (by simpa [validR] using h)
theorem asked_in {b : Book} (h : validR b = true) {d : Int} (hd : 0 ≤ d ∧ d < b.days.length) : askedR b d = 0 := by
  have h0 : (bookCheck b).2.2 = 0 := by simpa [validR] using h
  unfold askedR
  rw [if_neg (by rw [h0]; simp), if_pos]
  unfold within
  simp only [Bool.and_eq_true, decide_eq_true_eq]; omega
theorem which_in {w : Int} (hw : 0 ≤ w) {n : Nat} (h : 0 < n) : 0 ≤ w.tmod (n : Int) ∧ w.tmod (n : Int) < (n : Int) := by
  rw [Int.tmod_eq_emod_of_nonneg hw]
  exact ⟨Int.emod_nonneg _ (by omega), Int.emod_lt_of_pos _ (by omega)⟩
end
noncomputable section
theorem first_err {b : Book} {d : Int} (ha : askedR b d = 0) : ((firstT b d).2.2 = 0 ∧ explainsR b d [] = true ∧ firstT b d = (bestD (agreeD b d), ((agreeD b d).length : Int), 0) ∧ 0 < (agreeD b d).length) ∨ ((firstT b d).2.2 = 8 ∧ explainsR b d [] = false ∧ firstT b d = (zTruth, 0, 8) ∧ (agreeD b d).length = 0) := by
  rcases first_how b d with ⟨f, h1, h2, h3⟩ | ⟨_, h0, h1⟩
  · obtain ⟨rfl, h4⟩ := h3 ha
    refine .inr ⟨by rw [h1], ?_, h1, h4⟩
    cases hx : explainsR b d [] with
    | false => rfl
    | true => have := explains_nil.1 hx; omega
  · exact .inl ⟨by rw [h1], explains_nil.2 h0, h1, h0⟩
end
noncomputable section
structure Fine (b : Book) (d : Int) (t : Truth) : Prop where
  a : 0 ≤ t.adults ∧ t.adults ≤ 60
  c : 0 ≤ t.children ∧ t.children ≤ 60
  all : t.adults + t.children + pupilsD b d ≤ 60
  len : t.rooms.length = b.rooms.length
  room : ∀ i : Nat, i < b.rooms.length → 0 ≤ t.rooms.getD i 0 ∧ t.rooms.getD i 0 ≤ min (t.adults + t.children + pupilsD b d) (b.rooms.getD i zRoom).full
def payR (b : Book) (d : Int) (t : Truth) : Int := b.price * t.adults + b.price.tdiv 2 * t.children + feesD b d + extraR b t.rooms
theorem agree_fine {b : Book} {d : Int} (h : OkBook b) (hd : OkDay b (dayOf b d)) {t : Truth} (ht : t ∈ agreeD b d) : Fine b d t ∧ payR b d t = (dayOf b d).taken ∧ ∃ n, (firstN b d ≤ n ∧ n ≤ (doorS b d).hi) ∧ t.rooms ∈ inRoomsR b d n [] ∧ t.adults + t.children = n - pupilsD b d := by
  obtain ⟨n, hn, l, hl, hat⟩ := mem_agree.1 ht
  have hp := half_in h
  have hpu := pupils_in hd
  have hdo := doorS_in hd
  have hf : pupilsD b d ≤ firstN b d := by unfold firstN; omega
  unfold agreeAt at hat
  split at hat
  case isFalse => exact absurd hat List.not_mem_nil
  rename_i hc
  obtain ⟨c1, c2, c3⟩ := hc
  obtain rfl := List.mem_singleton.1 hat
  have hq : b.price.tdiv 2 * (leftR b d n l).tdiv (b.price.tdiv 2) = leftR b d n l := by
    have := Int.tmod_add_mul_tdiv (leftR b d n l) (b.price.tdiv 2)
    omega
  have hq0 : 0 ≤ (leftR b d n l).tdiv (b.price.tdiv 2) := Int.tdiv_nonneg c1 (by omega)
  have hin := inRooms_in h hd n [] l hl
  have hlr : leftR b d n l = (dayOf b d).taken - feesD b d - extraR b l - b.price.tdiv 2 * (n - pupilsD b d) := rfl
  generalize (leftR b d n l).tdiv (b.price.tdiv 2) = a at *
  generalize leftR b d n l = L at *
  refine ⟨⟨⟨hq0, by show a ≤ 60; omega⟩, ⟨by show 0 ≤ n - pupilsD b d - a; omega, by show n - pupilsD b d - a ≤ 60; omega⟩, by show a + (n - pupilsD b d - a) + pupilsD b d ≤ 60; omega, hin.1, fun i hi => ?_⟩, ?_, n, hn, hl, by show a + (n - pupilsD b d - a) = _; omega⟩
  · have hs := ((mem_roomsN _ _).1 hl).2 i hi
    have hsp := spanAt_in h hd n [] hi
    have hmin : (spanAt b (dayOf b d) n [] i).hi ≤ min n (b.rooms.getD i zRoom).full := by
      unfold spanAt between
      split
      · exact Int.le_refl _
      · exact Int.min_le_left _ _
    show 0 ≤ l.getD i 0 ∧ l.getD i 0 ≤ min (a + (n - pupilsD b d - a) + pupilsD b d) (b.rooms.getD i zRoom).full
    rw [show a + (n - pupilsD b d - a) + pupilsD b d = n by omega]
    exact ⟨by omega, by omega⟩
  · show b.price * a + b.price.tdiv 2 * (n - pupilsD b d - a) + feesD b d + extraR b l = (dayOf b d).taken
    have e1 : b.price * a = 2 * (b.price.tdiv 2 * a) := by rw [← Int.mul_assoc, hp.2.2]
    have e2 : b.price.tdiv 2 * (n - pupilsD b d - a) = b.price.tdiv 2 * (n - pupilsD b d) - b.price.tdiv 2 * a := Int.mul_sub ..
    rw [e1, e2]
    generalize b.price.tdiv 2 * (n - pupilsD b d) = y at *
    omega
def lowP (b : Book) (d : Int) (p : Int × List Int) : Int := (p.1 * b.price).tdiv 2 + moreD b d p.2
def highP (b : Book) (d : Int) (p : Int × List Int) : Int := p.1 * b.price + moreD b d p.2
theorem couldS_fold (b : Book) (d : Int) : couldS b d = foldS ((stoodL b d).flatMap fun p => [lowP b d p, highP b d p]) := by
  unfold couldS foldS
  generalize stoodL b d = l
  have : ∀ s : Sp, l.foldl (couldG b d) s = (l.flatMap fun p => [lowP b d p, highP b d p]).foldl addS s := by
    induction l with
    | nil => exact fun _ => rfl
    | cons p l ih => intro s; rw [List.foldl_cons, List.flatMap_cons, List.foldl_append, ih]; rfl
  exact this _
theorem mem_stood {b : Book} {d : Int} {p : Int × List Int} : p ∈ stoodL b d ↔ ∃ n, (firstN b d ≤ n ∧ n ≤ (doorS b d).hi) ∧ ∃ L ∈ inRoomsR b d n [], p = (n - pupilsD b d, L) := by
  simp only [stoodL, List.mem_flatMap, mem_rangeI, List.mem_map]
  constructor
  · rintro ⟨n, hn, L, hL, rfl⟩; exact ⟨n, hn, L, hL, rfl⟩
  · rintro ⟨n, hn, L, hL, rfl⟩; exact ⟨n, hn, L, hL, rfl⟩
theorem could_how {b : Book} {d : Int} (ha : askedR b d = 0) {p : Int × List Int} (hp : p ∈ stoodL b d) : (couldR b d).2 = 0 ∧ (couldR b d).1.lo = (couldS b d).lo ∧ (couldR b d).1.hi = (couldS b d).hi ∧ (couldS b d).lo ≤ lowP b d p ∧ highP b d p ≤ (couldS b d).hi := by
  have hm : lowP b d p ∈ (stoodL b d).flatMap fun p => [lowP b d p, highP b d p] := List.mem_flatMap.2 ⟨p, hp, List.mem_cons_self⟩
  have hm2 : highP b d p ∈ (stoodL b d).flatMap fun p => [lowP b d p, highP b d p] := List.mem_flatMap.2 ⟨p, hp, List.mem_cons_of_mem _ List.mem_cons_self⟩
  have hne := List.ne_nil_of_mem hm
  have h0 : (couldS b d).met ≠ 0 := by
    rw [couldS_fold, foldS_met]
    have := List.length_pos_of_mem hm
    omega
  have hin := (foldS_in hne).2.2
  rw [couldS_eq ha, if_neg h0, couldS_fold]
  exact ⟨rfl, rfl, rfl, (hin _ hm).1, (hin _ hm2).2⟩
theorem taken_in {b : Book} {d : Int} (ha : askedR b d = 0) {t : Truth} (ht : t ∈ agreeD b d) : (couldR b d).2 = 0 ∧ insideR (dayOf b d).taken (couldR b d).1 = true := by
  obtain ⟨h, hd1, hd2, hday⟩ := asked_ok ha
  obtain ⟨hf, hpay, n, hn, hr, hsum⟩ := agree_fine h hday ht
  obtain ⟨h1, h2, h3, h4, h5⟩ := could_how ha (p := (n - pupilsD b d, t.rooms)) (mem_stood.2 ⟨n, hn, _, hr, rfl⟩)
  refine ⟨h1, ?_⟩
  unfold insideR within
  rw [h2, h3]
  simp only [Bool.and_eq_true, decide_eq_true_eq]
  have hp := half_in h
  have e0 : (n - pupilsD b d) * b.price = 2 * (b.price.tdiv 2 * (n - pupilsD b d)) := by rw [Int.mul_comm, ← Int.mul_assoc, hp.2.2]
  have e1 : lowP b d (n - pupilsD b d, t.rooms) = b.price.tdiv 2 * (n - pupilsD b d) + moreD b d t.rooms := by
    unfold lowP
    rw [e0, Int.mul_tdiv_cancel_left _ (by decide)]
  have e2 : highP b d (n - pupilsD b d, t.rooms) = 2 * (b.price.tdiv 2 * (n - pupilsD b d)) + moreD b d t.rooms := by
    unfold highP; rw [e0]
  have e3 : b.price * t.adults = 2 * (b.price.tdiv 2 * t.adults) := by rw [← Int.mul_assoc, hp.2.2]
  have e4 : b.price.tdiv 2 * (n - pupilsD b d) = b.price.tdiv 2 * t.adults + b.price.tdiv 2 * t.children := by rw [← hsum, Int.mul_add]
  have m1 := (half_mul h hf.a).1
  have m2 := (half_mul h hf.c).1
  have e5 : moreD b d t.rooms = feesD b d + extraR b t.rooms := rfl
  unfold payR at hpay
  rw [e1] at h4; rw [e2] at h5
  rw [e3] at hpay; rw [e4] at h4 h5
  omega
end
noncomputable section
def offsN (n : Nat) : List (List Int) := (allP ((n + 2 : Nat) : Int) (n + 2)).map (offN n) ++ [entriesN n]
def ordOff (n : Nat) : Bool := decide ((offsN n).Pairwise fun x y => fewer y x = false) && (offsN n).all (fun x => !fewer x x)
theorem offs_ord : ∀ n : Nat, n < 4 → ordOff n = true := by decide +kernel
theorem find_min {α : Type} {p : α → Bool} {r : α → α → Prop} : ∀ {L : List α}, L.Pairwise r → ∀ {x : α}, L.find? p = some x → p x = true ∧ x ∈ L ∧ ∀ y ∈ L, p y = true → x = y ∨ r x y
  | [], _, x, h => by cases h
  | a :: L, hp, x, h => by
    rw [List.pairwise_cons] at hp
    by_cases ha : p a = true
    · rw [List.find?_cons_of_pos ha] at h
      cases h
      refine ⟨ha, List.mem_cons_self, fun y hy _ => ?_⟩
      rcases List.mem_cons.1 hy with q | q
      · exact .inl q.symm
      · exact .inr (hp.1 y q)
    · rw [List.find?_cons_of_neg ha] at h
      obtain ⟨h1, h2, h3⟩ := find_min hp.2 h
      refine ⟨h1, List.mem_cons_of_mem _ h2, fun y hy hpy => ?_⟩
      rcases List.mem_cons.1 hy with q | q
      · subst q; exact absurd hpy ha
      · exact h3 y q hpy
theorem explains_all {b : Book} {d : Int} (h : OkBook b) (hd : OkDay b (dayOf b d)) : explainsR b d (entriesR b) = true := by
  have hnr := h.nr
  have hpu := pupils_in hd
  have has : ∀ x, x ∈ entriesR b → hasN (entriesR b) x = true := fun x hx => hasN_iff.2 hx
  have h1 : hasN (entriesR b) (-1) = true := has _ (by simp [entriesR])
  have h3 : hasN (entriesR b) 3 = true := has _ (by simp [entriesR])
  have hr : ∀ i : Nat, i < b.rooms.length → hasN (entriesR b) (i : Int) = true := fun i hi => has _ (by
    unfold entriesR
    exact List.mem_append_left _ (List.mem_cons_of_mem _ (List.mem_map.2 ⟨i, List.mem_range.2 hi, rfl⟩)))
  have hdo : doorO b d (entriesR b) = ⟨0, 60⟩ := by unfold doorO between; rw [if_pos h1]
  unfold explainsR
  rw [List.any_eq_true]
  refine ⟨60, mem_rangeI.2 ⟨?_, ?_⟩, ?_⟩
  · unfold firstO; rw [hdo]; show max 0 (pupilsD b d) ≤ 60; omega
  · rw [hdo]; exact Int.le_refl _
  · unfold explAt
    rw [h3, Bool.and_true, Bool.or_eq_true]
    refine .inl (decide_eq_true ?_)
    have hm : extraR b (List.replicate b.rooms.length 0) ∈ extrasR b d 60 (entriesR b) := mem_extras.2 ⟨_, (mem_roomsN _ _).2 ⟨by simp, fun k hk => ?_⟩, rfl⟩
    · exact List.length_pos_of_mem hm
    · have hf := (h.room _ (getD_mem zRoom b.rooms k hk)).2
      have e0 : (List.replicate b.rooms.length (0 : Int)).getD k 0 = 0 := by
        rw [List.getD_eq_getElem?_getD, List.getElem?_replicate, if_pos hk]; rfl
      have e1 : spanAt b (dayOf b d) 60 (entriesR b) k = ⟨0, min 60 (b.rooms.getD k zRoom).full⟩ := by unfold spanAt between; rw [if_pos (hr k hk)]
      rw [e0, e1]
      exact ⟨Int.le_refl _, by show 0 ≤ min 60 (b.rooms.getD k zRoom).full; omega⟩
theorem off_find {b : Book} {d : Int} (h : OkBook b) (hd : OkDay b (dayOf b d)) : (offsN b.rooms.length).find? (explainsR b d) = some (offR b d) := by
  unfold offsN
  rw [List.find?_append, List.find?_map]
  have hk : (entriesR b).length = b.rooms.length + 2 := entries_len b
  have e : offR b d = match (allP ((b.rooms.length + 2 : Nat) : Int) (b.rooms.length + 2)).find? (explainsR b d ∘ offN b.rooms.length) with
    | some l => offN b.rooms.length l
    | none => entriesN b.rooms.length := by
    unfold offR; rw [hk]; rfl
  rw [e]
  cases hf : (allP ((b.rooms.length + 2 : Nat) : Int) (b.rooms.length + 2)).find? (explainsR b d ∘ offN b.rooms.length) with
  | some l => rfl
  | none =>
    have := explains_all h hd
    rw [entriesR_eq] at this
    simp [this]
theorem off_how {b : Book} {d : Int} (h : OkBook b) (hd : OkDay b (dayOf b d)) : explainsR b d (offR b d) = true ∧ offR b d ∈ offsN b.rooms.length ∧ ∀ o ∈ offsN b.rooms.length, explainsR b d o = true → fewer o (offR b d) = false := by
  have ho := offs_ord b.rooms.length (by have := h.nr; omega)
  unfold ordOff at ho
  rw [Bool.and_eq_true, decide_eq_true_eq, List.all_eq_true] at ho
  obtain ⟨h1, h2, h3⟩ := find_min ho.1 (off_find h hd)
  refine ⟨h1, h2, fun o hm hp => ?_⟩
  rcases h3 o hm hp with e | e
  · rw [← e]; have := ho.2 _ h2; simpa using this
  · exact e
theorem wrongAll_next (b : Book) (n : Nat) : wrongAll b (n + 1) = wrongAll b n ++ entE (n : Int) (offR b n) := by
  unfold wrongAll; rw [List.range_succ, List.flatMap_append]; simp
theorem wrong_ok {b : Book} (hv : validR b = true) : wrongR b = (wrongAll b b.days.length, 0) := by
  have h0 : (bookCheck b).2.2 = 0 := by simpa [validR] using hv
  unfold wrongR; rw [if_neg (by rw [h0]; simp)]
end
noncomputable section
theorem explains_congr {b b' : Book} {d d' : Int} (hp : b.price = b'.price) (hr : b.rooms = b'.rooms) (hD : dayOf b d = dayOf b' d') (off : List Int) : explainsR b d off = explainsR b' d' off := by
  obtain ⟨p, r, ds⟩ := b
  obtain ⟨p', r', ds'⟩ := b'
  simp only at hp hr
  subst hp; subst hr
  have rn : ∀ (D : Day) (all : Int) (off : List Int) (i : Nat), extN ⟨p, r, ds⟩ D all off i = extN ⟨p, r, ds'⟩ D all off i := fun D all off i => by
    induction i with
    | zero => rfl
    | succ i ih => unfold extN; rw [ih]; rfl
  have e1 : firstO ⟨p, r, ds⟩ d off = firstO ⟨p, r, ds'⟩ d' off := by unfold firstO doorO pupilsD; rw [hD]
  have e2 : doorO ⟨p, r, ds⟩ d off = doorO ⟨p, r, ds'⟩ d' off := by unfold doorO; rw [hD]
  have e3 : explAt ⟨p, r, ds⟩ d off = explAt ⟨p, r, ds'⟩ d' off := by
    funext n
    unfold explAt
    have q1 : extrasR ⟨p, r, ds⟩ d n off = extrasR ⟨p, r, ds'⟩ d' n off := by unfold extrasR; rw [hD]; exact rn _ _ _ _
    have q2 : payOk ⟨p, r, ds⟩ d n = payOk ⟨p, r, ds'⟩ d' n := by
      funext v
      unfold payOk feesD pupilsD; rw [hD]; rfl
    rw [q1, q2]
  unfold explainsR
  rw [e1, e2, e3]
theorem off_congr {b b' : Book} {d d' : Int} (hp : b.price = b'.price) (hr : b.rooms = b'.rooms) (hD : dayOf b d = dayOf b' d') : offR b d = offR b' d' := by
  have e : entriesR b = entriesR b' := by unfold entriesR; rw [hr]
  have e2 : (fun l => explainsR b d (offOf b l)) = fun l => explainsR b' d' (offOf b' l) := by
    funext l
    have : offOf b l = offOf b' l := by unfold offOf; rw [e]
    rw [this]; exact explains_congr hp hr hD _
  have e3 : offOf b = offOf b' := by funext l; unfold offOf; rw [e]
  unfold offR
  rw [e2, e, e3]
end
noncomputable section
theorem foldS_sub {xs ys : List Int} (hx : xs ≠ []) (h : ∀ x ∈ xs, x ∈ ys) : (foldS ys).lo ≤ (foldS xs).lo ∧ (foldS xs).hi ≤ (foldS ys).hi := by
  obtain ⟨a1, a2, -⟩ := foldS_in hx
  have hy : ys ≠ [] := List.ne_nil_of_mem (h _ a1)
  have b3 := (foldS_in hy).2.2
  exact ⟨(b3 _ (h _ a1)).1, (b3 _ (h _ a2)).2⟩
theorem range_sub {lo hi hi' : Int} (h : hi ≤ hi') : List.Sublist (rangeI lo hi) (rangeI lo hi') := by
  unfold rangeI
  refine List.Sublist.map _ ?_
  obtain ⟨k, hk⟩ : ∃ k, (hi' + 1 - lo).toNat = (hi + 1 - lo).toNat + k := ⟨(hi' + 1 - lo).toNat - (hi + 1 - lo).toNat, by omega⟩
  rw [hk, List.range_add]
  exact List.sublist_append_left _ _
theorem flat_sub {α β : Type} {f g : α → List β} (hfg : ∀ x, List.Sublist (f x) (g x)) : ∀ {l l' : List α}, List.Sublist l l' → List.Sublist (l.flatMap f) (l'.flatMap g)
  | _, _, .slnil => List.Sublist.refl _
  | _, _, .cons a h => by rw [List.flatMap_cons]; exact (flat_sub hfg h).trans (List.sublist_append_right _ _)
  | _, _, .cons_cons a h => by rw [List.flatMap_cons, List.flatMap_cons]; exact (hfg a).append (flat_sub hfg h)
structure Wide (b c : Book) (d : Int) : Prop where
  price : c.price = b.price
  rooms : c.rooms = b.rooms
  days : c.days.length = b.days.length
  other : ∀ e : Int, 0 ≤ e → e ≠ d → dayOf c e = dayOf b e
  fees : feesD c d = feesD b d
  pupils : pupilsD c d = pupilsD b d
  taken : (dayOf c d).taken = (dayOf b d).taken
  door : ∀ off, (doorO c d off).lo = (doorO b d off).lo ∧ (doorO b d off).hi ≤ (doorO c d off).hi
  span : ∀ n off (i : Nat), i < b.rooms.length → (spanAt c (dayOf c d) n off i).lo = (spanAt b (dayOf b d) n off i).lo ∧ (spanAt b (dayOf b d) n off i).hi ≤ (spanAt c (dayOf c d) n off i).hi
theorem wide_miss {b : Book} {d m : Int} (h : OkBook b) (hd : 0 ≤ d ∧ d < b.days.length) (hm : 0 ≤ m) : Wide b (missingR b d m) d := by
  have hD : dayOf (missingR b d m) d = missD m (dayOf b d) := by
    unfold dayOf missingR
    rw [List.getD_eq_getElem?_getD, List.getElem?_set_self (by omega)]; rfl
  have hday := h.day _ (getD_mem zDay b.days d.toNat (by omega))
  refine ⟨rfl, rfl, miss_len b d m, fun e he hne => ?_, ?_, ?_, ?_, fun off => ?_, fun n off i hi => ?_⟩
  · unfold dayOf missingR
    rw [List.getD_eq_getElem?_getD, List.getElem?_set_ne (by omega), ← List.getD_eq_getElem?_getD]
  · unfold feesD; rw [hD]; rfl
  · unfold pupilsD; rw [hD]; rfl
  · rw [hD]; rfl
  · unfold doorO between; rw [hD]
    split
    · exact ⟨rfl, Int.le_refl _⟩
    · refine ⟨rfl, ?_⟩
      show min 60 ((dayOf b d).door.seen + (dayOf b d).door.miss) ≤ min 60 ((dayOf b d).door.seen + ((dayOf b d).door.miss + m))
      omega
  · have hr : (missD m (dayOf b d)).rooms.getD i zCount = missC m ((dayOf b d).rooms.getD i zCount) := by
      have hl : i < (dayOf b d).rooms.length := by rw [show (dayOf b d).rooms.length = b.rooms.length from hday.many]; exact hi
      show ((dayOf b d).rooms.map (missC m)).getD i zCount = _
      rw [List.getD_eq_getElem?_getD, List.getElem?_map, List.getElem?_eq_getElem hl, List.getD_eq_getElem?_getD, List.getElem?_eq_getElem hl]; rfl
    unfold spanAt between; rw [hD, hr]
    split
    · exact ⟨rfl, Int.le_refl _⟩
    · refine ⟨rfl, ?_⟩
      show min (min n (b.rooms.getD i zRoom).full) (((dayOf b d).rooms.getD i zCount).seen + ((dayOf b d).rooms.getD i zCount).miss) ≤ min (min n (b.rooms.getD i zRoom).full) (((dayOf b d).rooms.getD i zCount).seen + (((dayOf b d).rooms.getD i zCount).miss + m))
      omega
section
variable {b c : Book} {d : Int}
theorem Wide.roomsN (w : Wide b c d) (n : Int) (off : List Int) : ∀ i, i ≤ b.rooms.length → List.Sublist (roomsN b (dayOf b d) n off i) (roomsN c (dayOf c d) n off i)
  | 0, _ => List.Sublist.refl _
  | i + 1, hi => by
    refine flat_sub (fun l => ?_) (Wide.roomsN w n off i (by omega))
    obtain ⟨h1, h2⟩ := w.span n off i (by omega)
    unfold growL
    rw [h1]
    exact (range_sub h2).map _
theorem Wide.inRooms (w : Wide b c d) (n : Int) (off : List Int) : List.Sublist (inRoomsR b d n off) (inRoomsR c d n off) := by
  unfold inRoomsR; rw [w.rooms]; exact w.roomsN n off _ (Nat.le_refl _)
theorem Wide.extra (w : Wide b c d) (l : List Int) : extraR c l = extraR b l := by
  unfold extraR extraTo; rw [w.rooms]
theorem Wide.first (w : Wide b c d) (off : List Int) : firstO c d off = firstO b d off := by unfold firstO; rw [(w.door off).1, w.pupils]
theorem Wide.agreeAt (w : Wide b c d) (n : Int) (l : List Int) : agreeAt c d n l = agreeAt b d n l := by
  have h : leftR c d n l = leftR b d n l := by unfold leftR; rw [w.taken, w.fees, w.extra, w.price, w.pupils]
  unfold Go.Proofs.YtfgmckfomckliaaGreat.agreeAt; rw [h, w.price, w.pupils]
theorem Wide.agree (w : Wide b c d) : List.Sublist (agreeD b d) (agreeD c d) := by
  have e : firstN c d = firstN b d := w.first []
  unfold agreeD
  rw [e]
  refine flat_sub (fun n => ?_) (range_sub (w.door []).2)
  refine flat_sub (fun l => ?_) (w.inRooms n [])
  rw [w.agreeAt]; exact List.Sublist.refl _
theorem Wide.stood (w : Wide b c d) : List.Sublist (stoodL b d) (stoodL c d) := by
  have e : firstN c d = firstN b d := w.first []
  unfold stoodL
  rw [e]
  refine flat_sub (fun n => ?_) (range_sub (w.door []).2)
  rw [w.pupils]
  exact (w.inRooms n []).map _
theorem Wide.explains (w : Wide b c d) (off : List Int) (h : explainsR b d off = true) : explainsR c d off = true := by
  unfold explainsR at h ⊢
  rw [List.any_eq_true] at h ⊢
  obtain ⟨n, hn, hx⟩ := h
  rw [mem_rangeI] at hn
  refine ⟨n, mem_rangeI.2 ⟨by rw [w.first]; exact hn.1, Int.le_trans hn.2 (w.door off).2⟩, ?_⟩
  have hsub : ∀ v, v ∈ extrasR b d n off → v ∈ extrasR c d n off := fun v hv => by
    obtain ⟨l, hl, rfl⟩ := mem_extras.1 hv
    exact mem_extras.2 ⟨l, (w.inRooms n off).subset hl, w.extra l⟩
  have hpay : payOk c d n = payOk b d n := by funext v; unfold payOk; rw [w.taken, w.fees, w.price, w.pupils]
  unfold explAt at hx ⊢
  rw [Bool.or_eq_true, Bool.and_eq_true, decide_eq_true_eq, List.any_eq_true] at hx ⊢
  rcases hx with ⟨h1, h2⟩ | ⟨v, h1, h2⟩
  · exact .inl ⟨List.length_pos_of_mem (hsub _ (List.getElem_mem h1)), h2⟩
  · exact .inr ⟨v, hsub v h1, by rw [hpay]; exact h2⟩
theorem Wide.off (w : Wide b c d) (h : OkBook b) (hc : OkBook c) (hd : 0 ≤ d ∧ d < b.days.length) : (offR c d).length ≤ (offR b d).length := by
  have h1 : OkDay b (dayOf b d) := h.day _ (getD_mem zDay b.days d.toNat (by omega))
  have h2 : OkDay c (dayOf c d) := hc.day _ (getD_mem zDay c.days d.toNat (by have := w.days; omega))
  obtain ⟨a1, a2, -⟩ := off_how h h1
  have a3 := (off_how hc h2).2.2 (offR b d) (by rw [w.rooms]; exact a2) (w.explains _ a1)
  unfold fewer at a3
  by_cases hl : (offR b d).length ≠ (offR c d).length
  · rw [if_pos hl] at a3
    have := of_decide_eq_false a3
    omega
  · omega
theorem Wide.wrong (w : Wide b c d) (h : OkBook b) (hc : OkBook c) (hd : 0 ≤ d ∧ d < b.days.length) : ∀ n, n ≤ b.days.length → (wrongAll c n).length ≤ (wrongAll b n).length
  | 0, _ => Nat.le_refl _
  | n + 1, hn => by
    have h1 := Wide.wrong w h hc hd n (by omega)
    rw [wrongAll_next, wrongAll_next, List.length_append, List.length_append]
    unfold entE
    rw [List.length_map, List.length_map]
    by_cases e : (n : Int) = d
    · rw [e]; have := w.off h hc hd; omega
    · rw [off_congr w.price w.rooms (w.other n (by omega) e)]; omega
end
theorem spanR_sub {l l' : List Truth} {f : Truth → Int} {at_ : Int} (h0 : 0 < l.length) (hs : List.Sublist l l') (hf : ∀ t, (keyR t).getD at_.toNat 0 = f t) : widerR (spanR l' at_) (spanR l at_) = true := by
  have h0' : 0 < l'.length := Nat.lt_of_lt_of_le h0 hs.length_le
  rw [← spT_span f at_ h0 hf, ← spT_span f at_ h0' hf, spT_foldS, spT_foldS]
  have hne : l.map f ≠ [] := by
    intro e
    have := congrArg List.length e
    rw [List.length_map, List.length_nil] at this; omega
  obtain ⟨h1, h2⟩ := foldS_sub hne (ys := l'.map f) fun x hx => (hs.map f).subset hx
  unfold widerR
  rw [Bool.and_eq_true, decide_eq_true_eq, decide_eq_true_eq]
  exact ⟨h1, h2⟩
theorem Wide.could {b c : Book} {d : Int} (w : Wide b c d) (ha : askedR b d = 0) (hc : askedR c d = 0) (h : (couldR b d).2 = 0) : (couldR c d).2 = 0 ∧ widerR (couldR c d).1 (couldR b d).1 = true := by
  have hS : stoodL b d ≠ [] := by
    intro e
    rw [couldS_eq ha] at h
    have : (couldS b d).met = 0 := by unfold couldS; rw [e]; rfl
    rw [if_pos this] at h; cases h
  obtain ⟨p, hp⟩ := List.exists_mem_of_ne_nil _ hS
  obtain ⟨-, a2, a3, -, -⟩ := could_how ha hp
  obtain ⟨b1, b2, b3, -, -⟩ := could_how hc (w.stood.subset hp)
  refine ⟨b1, ?_⟩
  unfold widerR
  rw [a2, a3, b2, b3, couldS_fold, couldS_fold, Bool.and_eq_true, decide_eq_true_eq, decide_eq_true_eq]
  have hl : lowP b d = lowP c d := by funext q; unfold lowP moreD; rw [w.price, w.fees, w.extra]
  have hh : highP b d = highP c d := by funext q; unfold highP moreD; rw [w.price, w.fees, w.extra]
  exact foldS_sub (List.ne_nil_of_mem (List.mem_flatMap.2 ⟨p, hp, List.mem_cons_self⟩)) fun x hx => by
    obtain ⟨q, hq, hx⟩ := List.mem_flatMap.1 hx
    rw [hl, hh] at hx
    exact List.mem_flatMap.2 ⟨q, w.stood.subset hq, hx⟩
end
noncomputable section
inductive P11
  | e
  | l0 (x0_29 : Int)
inductive R11
  | r0 (r0 : Bool)
noncomputable def T11 (b : Book) (w : Int) (more : Int) : P11 → Tr P11 R11
  | .e => let c3 := w.tmod (b.days.length : Int); let c2 := missingR b c3 (more.tmod (3 : Int)); let c4 : List V := [iI (c2.price), tRoom.lst (c2.rooms), tDay.lst (c2.days)]; let c1 : Tr P11 R11 := .call 25 [.agg (cC b), iI c3] (.tuple [.agg [iI ((visR b c3).1.lo), iI ((visR b c3).1.hi)], .agg [iI ((visR b c3).2.1.lo), iI ((visR b c3).2.1.hi)], iI ((visR b c3).2.2)]) true true (.call 25 [.agg c4, iI c3] (.tuple [.agg [iI ((visR c2 c3).1.lo), iI ((visR c2 c3).1.hi)], .agg [iI ((visR c2 c3).2.1.lo), iI ((visR c2 c3).2.1.hi)], iI ((visR c2 c3).2.2)]) true true (.br ((visR b c3).2.2 == (0 : Int)) (.br ((visR c2 c3).2.2 != (0 : Int)) (.lit true (.lit true (.lit true (.lit true (.out (.r0 false)))))) (.call 51 [.agg [iI ((visR c2 c3).1.lo), iI ((visR c2 c3).1.hi)], .agg [iI ((visR b c3).1.lo), iI ((visR b c3).1.hi)]] (.bool (widerR ((visR c2 c3).1) ((visR b c3).1))) true true (.lit true (.br (!(widerR ((visR c2 c3).1) ((visR b c3).1))) (.lit true (.lit true (.out (.r0 false)))) (.call 51 [.agg [iI ((visR c2 c3).2.1.lo), iI ((visR c2 c3).2.1.hi)], .agg [iI ((visR b c3).2.1.lo), iI ((visR b c3).2.1.hi)]] (.bool (widerR ((visR c2 c3).2.1) ((visR b c3).2.1))) true true (.lit true (.br (!(widerR ((visR c2 c3).2.1) ((visR b c3).2.1))) (.out (.r0 false)) (.call 22 [.agg (cC b), iI c3] (.tuple [.agg [iI ((firstT b c3).1.adults), iI ((firstT b c3).1.children), tint.lst ((firstT b c3).1.rooms)], iI ((firstT b c3).2.1), iI ((firstT b c3).2.2)]) true true (.call 22 [.agg c4, iI c3] (.tuple [.agg [iI ((firstT c2 c3).1.adults), iI ((firstT c2 c3).1.children), tint.lst ((firstT c2 c3).1.rooms)], iI ((firstT c2 c3).2.1), iI ((firstT c2 c3).2.2)]) true true (.call 33 [.agg (cC b)] (.tuple [tEntry.lst ((wrongR b).1), iI ((wrongR b).2)]) true true (.call 33 [.agg c4] (.tuple [tEntry.lst ((wrongR c2).1), iI ((wrongR c2).2)]) true true (.br ((firstT b c3).2.2 != (visR b c3).2.2) (.lit true (.lit true (.lit true (.lit true (.lit true (.out (.r0 false))))))) (.br ((firstT c2 c3).2.2 != (visR c2 c3).2.2) (.lit true (.lit true (.lit true (.lit true (.out (.r0 false)))))) (.br (decide ((firstT b c3).2.1 > (firstT c2 c3).2.1)) (.lit true (.lit true (.lit true (.out (.r0 false))))) (.br ((wrongR b).2 != (0 : Int)) (.lit true (.lit true (.out (.r0 false)))) (.br ((wrongR c2).2 != (0 : Int)) (.lit true (.out (.r0 false))) (.br (decide ((((wrongR c2).1.length) : Int) > (((wrongR b).1.length) : Int))) (.out (.r0 false)) (.go (.l0 0))))))))))))))))))) (.lit false (.lit false (.lit false (.call 22 [.agg (cC b), iI c3] (.tuple [.agg [iI ((firstT b c3).1.adults), iI ((firstT b c3).1.children), tint.lst ((firstT b c3).1.rooms)], iI ((firstT b c3).2.1), iI ((firstT b c3).2.2)]) true true (.call 22 [.agg c4, iI c3] (.tuple [.agg [iI ((firstT c2 c3).1.adults), iI ((firstT c2 c3).1.children), tint.lst ((firstT c2 c3).1.rooms)], iI ((firstT c2 c3).2.1), iI ((firstT c2 c3).2.2)]) true true (.call 33 [.agg (cC b)] (.tuple [tEntry.lst ((wrongR b).1), iI ((wrongR b).2)]) true true (.call 33 [.agg c4] (.tuple [tEntry.lst ((wrongR c2).1), iI ((wrongR c2).2)]) true true (.br ((firstT b c3).2.2 != (visR b c3).2.2) (.lit true (.lit true (.lit true (.lit true (.lit true (.out (.r0 false))))))) (.br ((firstT c2 c3).2.2 != (visR c2 c3).2.2) (.lit true (.lit true (.lit true (.lit true (.out (.r0 false)))))) (.br (decide ((firstT b c3).2.1 > (firstT c2 c3).2.1)) (.lit true (.lit true (.lit true (.out (.r0 false))))) (.br ((wrongR b).2 != (0 : Int)) (.lit true (.lit true (.out (.r0 false)))) (.br ((wrongR c2).2 != (0 : Int)) (.lit true (.out (.r0 false))) (.br (decide ((((wrongR c2).1.length) : Int) > (((wrongR b).1.length) : Int))) (.out (.r0 false)) (.go (.l0 0))))))))))))))))); let c5 : Tr P11 R11 := .call 21 [] (.bool true) true true (.out (.r0 true)); let c6 := couldR c2 c3; let c7 := couldR b c3; let c8 : List V := [iI (c7.1.lo), iI (c7.1.hi)]; let c9 : List V := [iI (c6.1.lo), iI (c6.1.hi)]; (.call 36 [.agg (cC b)] (.bool (validR b)) true true (.br (!(validR b)) (.lit true c5) (.br ((b.days.length : Int) == (0 : Int)) c5 (.need (inR .i64 w) (.need (decide ((b.days.length : Int) ≠ 0)) (.need (inR .i64 more) (.need (decide ((3 : Int) ≠ 0)) (.call 50 [.agg (cC b), iI c3, iI (more.tmod (3 : Int))] (.agg c4) true true (.call 36 [.agg c4] (.bool (validR c2)) true true (.br (!(validR c2)) c5 (.call 19 [.agg (cC b), iI c3] (.tuple [.agg c8, iI (c7.2)]) true true (.call 19 [.agg c4, iI c3] (.tuple [.agg c9, iI (c6.2)]) true true (.br (c7.2 == (0 : Int)) (.br (c6.2 != (0 : Int)) (.lit true (.lit true (.out (.r0 false)))) (.call 51 [.agg c9, .agg c8] (.bool (widerR (c6.1) (c7.1))) true true (.lit true (.br (!(widerR (c6.1) (c7.1))) (.out (.r0 false)) c1)))) (.lit false (.lit false c1)))))))))))))))
  | .l0 x0_29 => let c1 := w.tmod (b.days.length : Int); let c3 := roomR b c1 x0_29; let c4 := missingR b c1 (more.tmod (3 : Int)); let c2 := roomR c4 c1 x0_29; let c5 : Tr P11 R11 := .call 21 [] (.bool true) true true (.out (.r0 true)); let c6 : Tr P11 R11 := .out (.r0 false); let c7 : List V := [iI (c3.1.lo), iI (c3.1.hi)]; let c8 : List V := [iI (c2.1.lo), iI (c2.1.hi)]; (.br (decide (x0_29 < (b.rooms.length : Int))) (.br ((visR b c1).2.2 == (0 : Int)) (.call 27 [.agg (cC b), iI c1, iI x0_29] (.tuple [.agg c7, iI (c3.2)]) true true (.call 27 [.agg [iI (c4.price), tRoom.lst (c4.rooms), tDay.lst (c4.days)], iI c1, iI x0_29] (.tuple [.agg c8, iI (c2.2)]) true true (.br (c3.2 != (0 : Int)) (.lit true (.lit true c6)) (.br (c2.2 != (0 : Int)) (.lit true c6) (.call 51 [.agg c8, .agg c7] (.bool (widerR (c2.1) (c3.1))) true true (.br (!(widerR (c2.1) (c3.1))) c6 (.need (inR .i64 (x0_29 + (1 : Int))) (.go (.l0 (x0_29 + (1 : Int))))))))))) c5) (.lit false c5))
noncomputable def g11 (b : Book) (w : Int) (more : Int) : P11 → List Item × St
  | .e => bd Tryz.f11 [.agg (cC b), .int .u8 w, .int .u8 more] 203
  | .l0 x0_29 => (cutOf Tryz.f11 0, ⟨mk 206 [(3, .ref 0 0 0), (7, iI (w.tmod (b.days.length : Int))), (8, .ref 1 0 0), (15, iI ((visR b (w.tmod (b.days.length : Int))).2.2)), (29, iI x0_29)], [.cells (cC b), .cells [iI ((missingR b (w.tmod (b.days.length : Int)) (more.tmod (3 : Int))).price), tRoom.lst ((missingR b (w.tmod (b.days.length : Int)) (more.tmod (3 : Int))).rooms), tDay.lst ((missingR b (w.tmod (b.days.length : Int)) (more.tmod (3 : Int))).days)]], []⟩)
noncomputable def n11 : R11 → Exit × St
  | .r0 r0 => (.ret, ⟨mk 206 [(6, .bool r0)], [], []⟩)
noncomputable def v11 : R11 → V
  | .r0 r0 => .bool r0
theorem s11 (b : Book) (w : Int) (more : Int) : Sm 0 (g11 b w more) (T11 b w more) (n11)
  | .e => ⟨400, by kernel_rfl⟩
  | .l0 _ => ⟨400, by kernel_rfl⟩
theorem q11 : ∀ r, bodyQ Tryz.prog Tryz.f11 (· = v11 r) (n11 r).1 (n11 r).2
  | .r0 r0 => bq (.bool r0) (by kernel_rfl)
theorem w11 (b : Book) (w : Int) (more : Int) {post : V → Prop} (h : WQ (T11 b w more) v11 post .e) : PC 11 [.agg (cC b), .int .u8 w, .int .u8 more] post :=
  PCalls.wq Tryz.func11 (s11 b w more) q11 h
theorem vis_err (b : Book) (d : Int) : (visR b d).2.2 = (firstT b d).2.2 := by
  unfold visR firstT
  by_cases h : (explainedR b d (askedR b d)).2 ≠ 0
  · rw [if_pos h, if_pos h]
  · rw [if_neg h, if_neg h]
theorem first_many (b : Book) (d : Int) : 0 ≤ (firstT b d).2.1 := by
  rcases first_how b d with ⟨f, e, -⟩ | ⟨-, -, e⟩
  · rw [e]; exact Int.le_refl _
  · rw [e]; show (0 : Int) ≤ ((agreeD b d).length : Int); omega
theorem room_ok {b : Book} {d : Int} (ha : askedR b d = 0) (h0 : 0 < (agreeD b d).length) {i : Nat} (hi : i < b.rooms.length) : roomR b d (i : Int) = (spanR (agreeD b d) (2 + (i : Int)), 0) := by
  have he : roomE b d (i : Int) = 0 := by
    unfold roomE; rw [if_neg (fun q => q ha), if_pos (by unfold within; simp only [Bool.and_eq_true, decide_eq_true_eq]; omega)]
  have hx : explainedR b d 0 = (agreeD b d, 0) := by unfold explainedR; rw [if_neg (fun q => q rfl), if_neg (by omega)]
  unfold roomR; rw [he, hx, if_neg (fun q => q rfl)]
theorem w11_0 (b : Book) (w more : Int) (hs : SmB b) (hsc : SmB (missingR b (w.tmod (b.days.length : Int)) (more.tmod (3 : Int)))) (hW : Wide b (missingR b (w.tmod (b.days.length : Int)) (more.tmod (3 : Int))) (w.tmod (b.days.length : Int))) (hnr : b.rooms.length ≤ 3)
    (ha : askedR b (w.tmod (b.days.length : Int)) = 0) (hc : askedR (missingR b (w.tmod (b.days.length : Int)) (more.tmod (3 : Int))) (w.tmod (b.days.length : Int)) = 0) :
    WP Tryz.prog ⟨none, 0⟩ (T11 b w more) (Ends' fun r => v11 r = .bool true) (.l0 0) := by
  generalize hdd : w.tmod (b.days.length : Int) = d at *
  generalize hcc : missingR b d (more.tmod (3 : Int)) = c at *
  rcases first_err ha with ⟨f0, -, -, h0⟩ | ⟨f0, -, -, h0⟩
  · have h0c : 0 < (agreeD c d).length := Nat.lt_of_lt_of_le h0 hW.agree.length_le
    have g1 : (visR b d).2.2 = 0 := by rw [vis_err]; exact f0
    refine WP.run (fun i => .l0 (i : Int)) rfl b.rooms.length (fun i hi => ?_) ?_
    · have hr : inR .i64 ((i : Int) + 1) = true := inR64 (by omega) (by omega)
      have hi' : (i : Int) < b.rooms.length := by omega
      have e1 := room_ok ha h0 hi
      have e2 := room_ok hc h0c (show i < c.rooms.length by rw [hW.rooms]; exact hi)
      have wd := spanR_sub (f := roomG i) (at_ := 2 + (i : Int)) h0 hW.agree (fun t => roomG_key i t)
      have k1 := c27 b d (i : Int) hs
      have k2 := c27 c d (i : Int) hsc
      rw [e1] at k1
      rw [e2] at k2
      have a1 : (roomR b d (i : Int)).1 = spanR (agreeD b d) (2 + (i : Int)) := by rw [e1]
      have a2 : (roomR b d (i : Int)).2 = 0 := by rw [e1]
      have a3 : (roomR c d (i : Int)).1 = spanR (agreeD c d) (2 + (i : Int)) := by rw [e2]
      have a4 : (roomR c d (i : Int)).2 = 0 := by rw [e2]
      clear e1 e2
      refine WP.once ?_
      simp only [T11, Tr.sure, SS, hdd, hcc, hi', g1, a1, a2, a3, a4]
      repeat' with_reducible first | intro _ | apply And.intro
      all_goals first | exact k1 | exact k2 | exact (c51 _ _) | (simp [hr, wd, Go, Ends', v11, -List.getD_eq_getElem?_getD, *]; done) | (simp_all [hr, wd, Go, Ends', v11, -List.getD_eq_getElem?_getD]; done)
    · refine WP.step ?_
      simp only [T11, Go, Ends', v11, Tr.sure, SS, Int.lt_irrefl]
      repeat' with_reducible first | intro _ | apply And.intro
      all_goals exact c21
  · have g1 : (visR b d).2.2 = 8 := by rw [vis_err]; exact f0
    refine WP.step ?_
    simp only [T11, Go, Ends', v11, Tr.sure, SS, hdd, hcc, g1]
    repeat' with_reducible first | intro _ | apply And.intro
    all_goals first | exact c21 | (simp_all [Go, Ends', v11, -List.getD_eq_getElem?_getD]; done)
theorem wider_vis {b c : Book} {d : Int} (hW : Wide b c d) (ha : askedR b d = 0) (hc : askedR c d = 0) (h0 : 0 < (agreeD b d).length) : widerR (visR c d).1 (visR b d).1 = true ∧ widerR (visR c d).2.1 (visR b d).2.1 = true := by
  have h0c : 0 < (agreeD c d).length := Nat.lt_of_lt_of_le h0 hW.agree.length_le
  rw [(vis_ok ha).2 h0, (vis_ok hc).2 h0c]
  exact ⟨spanR_sub (f := fun t => t.adults) h0 hW.agree keyR_0, spanR_sub (f := fun t => t.children) h0 hW.agree keyR_1⟩
set_option maxHeartbeats 8000000 in
theorem w11_e (b : Book) (w more : Int) (hw : 0 ≤ w ∧ w ≤ 255) (hm : 0 ≤ more ∧ more ≤ 255) (hs : SmB b) (hv : validR b = true) (hl : ¬ (b.days.length : Int) = 0) : WP Tryz.prog ⟨none, 0⟩ (T11 b w more) (Ends' fun r => v11 r = .bool true) .e := by
  have hok := valid_ok hv
  have hcv : inR .i64 w = true := inR64 (by omega) (by omega)
  have hcm : inR .i64 more = true := inR64 (by omega) (by omega)
  have hd := which_in hw.1 (show 0 < b.days.length by omega)
  have h3 := which_in hm.1 (n := 3) (by omega)
  have c3 : ((3 : Nat) : Int) = 3 := rfl
  rw [c3] at h3
  have hzb : ((b.days.length : Int) == 0) = false := beq_eq_false_iff_ne.2 hl
  have k50 := c50 b (w.tmod (b.days.length : Int)) (more.tmod 3) hok hd (by omega)
  have k36 := c36 b
  have k36c := c36 (missingR b (w.tmod (b.days.length : Int)) (more.tmod 3))
  cases hvc : validR (missingR b (w.tmod (b.days.length : Int)) (more.tmod 3)) with
  | false =>
    rw [hvc] at k36c
    refine WP.step ?_
    simp only [T11, Go, Ends', v11, Tr.sure, SS, hzb, hl, hvc]
    repeat' with_reducible first | intro _ | apply And.intro
    all_goals first | exact k36 | exact k36c | exact k50 | exact c21 | (simp [hv, hcv, hcm, Go, Ends', v11, -List.getD_eq_getElem?_getD, *]; done)
  | true =>
    rw [hvc] at k36c
    have hokc := valid_ok hvc
    have hW := wide_miss (m := more.tmod 3) hok hd h3.1
    have ha := asked_in hv hd
    have hc := asked_in hvc (d := w.tmod (b.days.length : Int)) (by rw [hW.days]; exact hd)
    have hsc := SmB.of_ok hokc
    have hmain := w11_0 b w more hs hsc hW hok.nr ha hc
    generalize hdd : w.tmod (b.days.length : Int) = d at *
    generalize hcc : missingR b d (more.tmod 3) = c at *
    have hwl := hW.wrong hok hokc hd b.days.length (Nat.le_refl _)
    have eb1 : (wrongR b).1 = wrongAll b b.days.length := by rw [wrong_ok hv]
    have eb2 : (wrongR b).2 = 0 := by rw [wrong_ok hv]
    have ec1 : (wrongR c).1 = wrongAll c b.days.length := by rw [wrong_ok hvc, hW.days]
    have ec2 : (wrongR c).2 = 0 := by rw [wrong_ok hvc]
    have k33 := c33 b hs
    have k33c := c33 c hsc
    rw [eb1, eb2] at k33
    rw [ec1, ec2] at k33c
    have hlen : ¬ ((wrongAll b b.days.length).length : Int) < ((wrongAll c b.days.length).length : Int) := by omega
    generalize wrongAll b b.days.length = WB at *
    generalize wrongAll c b.days.length = WC at *
    have k19 := c19 b d hs
    have k19c := c19 c d hsc
    have k22 := c22 b d hs
    have k22c := c22 c d hsc
    have k25 := c25 b d hs
    have k25c := c25 c d hsc
    have vb := vis_err b d
    have vc := vis_err c d
    rw [vb] at k25
    rw [vc] at k25c
    rcases first_err ha with ⟨f0, -, f1, h0⟩ | ⟨f0, -, f1, h0⟩
    · have h0c : 0 < (agreeD c d).length := Nat.lt_of_lt_of_le h0 hW.agree.length_le
      have f0c : (firstT c d).2.2 = 0 := by
        rcases first_err hc with ⟨q, -⟩ | ⟨-, -, -, q⟩
        · exact q
        · omega
      have hfew : ¬ (firstT c d).2.1 < (firstT b d).2.1 := by
        have e1 : (firstT b d).2.1 = ((agreeD b d).length : Int) := by rw [f1]
        have e2 : (firstT c d).2.1 = ((agreeD c d).length : Int) := by
          rcases first_err hc with ⟨-, -, q, -⟩ | ⟨-, -, -, q⟩
          · rw [q]
          · omega
        have := hW.agree.length_le
        rw [e1, e2]; omega
      have g0 := (taken_in ha (bestD_mem h0)).1
      obtain ⟨g1, g2⟩ := hW.could ha hc g0
      obtain ⟨v1, v2⟩ := wider_vis hW ha hc h0
      rw [f0] at k22 k25
      rw [f0c] at k22c k25c
      rw [g0] at k19
      rw [g1] at k19c
      clear f1 h0 h0c
      refine WP.step ?_
      simp only [T11, Go, Ends', v11, Tr.sure, SS, hdd, hcc, hzb, hl, hvc, eb1, eb2, ec1, ec2, vb, vc, f0, f0c, g0, g1]
      repeat' with_reducible first | intro _ | apply And.intro
      all_goals first | exact k36 | exact k36c | exact k50 | exact k33 | exact k33c | exact k19 | exact k19c | exact k22 | exact k22c | exact k25 | exact k25c | exact (c51 _ _) | exact hmain | (simp [hv, hcv, hcm, hlen, hfew, g2, v1, v2, Go, Ends', v11, -List.getD_eq_getElem?_getD, *]; done) | (simp_all [hv, hcv, hcm, hlen, hfew, g2, v1, v2, Go, Ends', v11, -List.getD_eq_getElem?_getD]; done)
    · have hfew : ¬ (firstT c d).2.1 < (firstT b d).2.1 := by
        have e1 : (firstT b d).2.1 = 0 := by rw [f1]
        have := first_many c d
        rw [e1]; omega
      rw [f0] at k22 k25
      clear f1 h0
      by_cases g0 : (couldR b d).2 = 0
      · obtain ⟨g1, g2⟩ := hW.could ha hc g0
        rw [g0] at k19
        rw [g1] at k19c
        refine WP.step ?_
        simp only [T11, Go, Ends', v11, Tr.sure, SS, hdd, hcc, hzb, hl, hvc, eb1, eb2, ec1, ec2, vb, vc, f0, g0, g1]
        repeat' with_reducible first | intro _ | apply And.intro
        all_goals first | exact k36 | exact k36c | exact k50 | exact k33 | exact k33c | exact k19 | exact k19c | exact k22 | exact k22c | exact k25 | exact k25c | exact (c51 _ _) | exact hmain | (simp [hv, hcv, hcm, hlen, hfew, g2, Go, Ends', v11, -List.getD_eq_getElem?_getD, *]; done) | (simp_all [hv, hcv, hcm, hlen, hfew, g2, Go, Ends', v11, -List.getD_eq_getElem?_getD]; done)
      · have g0b : ((couldR b d).2 == 0) = false := beq_eq_false_iff_ne.2 g0
        refine WP.step ?_
        simp only [T11, Go, Ends', v11, Tr.sure, SS, hdd, hcc, hzb, hl, hvc, eb1, eb2, ec1, ec2, vb, vc, f0, g0b]
        repeat' with_reducible first | intro _ | apply And.intro
        all_goals first | exact k36 | exact k36c | exact k50 | exact k33 | exact k33c | exact k19 | exact k19c | exact k22 | exact k22c | exact k25 | exact k25c | exact (c51 _ _) | exact hmain | (simp [hv, hcv, hcm, hlen, hfew, Go, Ends', v11, -List.getD_eq_getElem?_getD, *]; done) | (simp_all [hv, hcv, hcm, hlen, hfew, Go, Ends', v11, -List.getD_eq_getElem?_getD]; done)
theorem c11 (b : Book) (w more : Int) (hw : 0 ≤ w ∧ w ≤ 255) (hm : 0 ≤ more ∧ more ≤ 255) (hs : SmB b) : PC 11 [.agg (tBook.cells b), .int .u8 w, .int .u8 more] (· = .bool true) := by
  cases hv : validR b with
  | true =>
    by_cases hl : b.days.length = 0
    · refine w11 b w more (WP.step ?_)
      simp only [T11, Go, Ends', v11, Tr.sure, SS, hl]
      repeat' with_reducible first | intro _ | apply And.intro
      all_goals first | exact (c36 b) | exact c21
    · exact w11 b w more (w11_e b w more hw hm hs hv (by omega))
  | false =>
    refine w11 b w more (WP.step ?_)
    simp only [T11, Go, Ends', v11, Tr.sure, SS]
    repeat' with_reducible first | intro _ | apply And.intro
    all_goals first | exact (c36 b) | exact c21 | (simp [hv, Go, Ends', v11, -List.getD_eq_getElem?_getD, *]; done) | (simp_all [hv, Go, Ends', v11, -List.getD_eq_getElem?_getD]; done)
end
end Go.Proofs.YtfgmckfomckliaaGreat
