/-
  Part of the proof of DoorSchools. Conditions: those that stand in each theorem.
-/
import Derived.Test.YtfgmckfomckliaaGreatChecked
import Derived.Test.YtfgmckfomckliaaGreatB13
set_option linter.unusedSimpArgs false
set_option linter.unusedVariables false
set_option maxRecDepth 100000
namespace Ab
theorem rev_take {τ υ : Type} (f : τ → υ) (d : τ) (l : List τ) (i : Nat) (hi : i < l.length) : ((l.take (i + 1)).map f).reverse = f (l.getD i d) :: ((l.take i).map f).reverse := by
  rw [List.take_succ_eq_append_getElem hi, List.map_append, List.reverse_append, List.map_singleton, List.reverse_singleton, List.singleton_append]
  simp only [List.getD_eq_getElem?_getD, List.getElem?_eq_getElem hi, Option.getD_some]
theorem rev_take' {τ υ : Type} (f : τ → υ) (d : τ) (l : List τ) (i : Nat) (hi : i < l.length) : ((l.map f).take (i + 1)).reverse = f (l.getD i d) :: ((l.map f).take i).reverse := by
  rw [← List.map_take, ← List.map_take]; exact rev_take f d l i hi
end Ab
namespace Go.Proofs.YtfgmckfomckliaaGreat
open Ab
def indexS (l : List ByteArray) (s : ByteArray) : Int := match firstI (fun o => same o s) 0 l with | some i => i | none => -1
def tstr : Ty ByteArray := ⟨1, fun s => [.str s], ByteArray.empty⟩
def tu8 : Ty Int := ⟨1, fun n => [.int .u8 n], 0⟩
end Go.Proofs.YtfgmckfomckliaaGreat
namespace Go.Proofs.YtfgmckfomckliaaGreat
open Ab Go
noncomputable section
theorem map_take_len {τ υ : Type} (f : τ → υ) (l : List τ) (i : Nat) (hi : i ≤ l.length) : ((l.map f).take i).reverse.length = i := by simp; omega
inductive P91
  | e
inductive R91
  | r0 (r0 : Bool)
noncomputable def T91 (p0 : Int) (p1 : Int) (p2 : Int) : P91 → Tr P91 R91
  | .e => (.br (decide (p0 ≥ p1)) (.out (.r0 (decide (p0 ≤ p2)))) (.out (.r0 false)))
noncomputable def g91 (p0 : Int) (p1 : Int) (p2 : Int) : P91 → List Item × St
  | .e => bd Tryz.f91 [iI p0, iI p1, iI p2] 12
noncomputable def n91 : R91 → Exit × St
  | .r0 r0 => (.ret, ⟨mk 15 [(6, .bool r0)], [], []⟩)
noncomputable def v91 : R91 → V
  | .r0 r0 => .bool r0
theorem s91 (p0 : Int) (p1 : Int) (p2 : Int) : Sm 0 (g91 p0 p1 p2) (T91 p0 p1 p2) (n91)
  | .e => ⟨400, by kernel_rfl⟩
theorem q91 : ∀ r, bodyQ Tryz.prog Tryz.f91 (· = v91 r) (n91 r).1 (n91 r).2
  | .r0 r0 => bq (.bool r0) (by kernel_rfl)
theorem w91 (p0 : Int) (p1 : Int) (p2 : Int) {post : V → Prop} (h : WQ (T91 p0 p1 p2) v91 post .e) : PC 91 [iI p0, iI p1, iI p2] post :=
  PCalls.wq Tryz.func91 (s91 p0 p1 p2) q91 h
theorem c91 (n a b : Int) : PC 91 [iI n, iI a, iI b] (· = .bool (within n a b)) := by
  refine w91 _ _ _ (WP.step ?_)
  simp only [T91, Go, Ends', v91, Tr.sure, SS]
  repeat' with_reducible first | intro _ | apply And.intro
  all_goals simp [within, GE.ge, Go, Ends', v91, -List.getD_eq_getElem?_getD, *]
  all_goals simp_all [within]
inductive P58
  | e
inductive R58
  | r0 (r0 : Bool)
noncomputable def T58 (p0 : Int) (p1 : Int) (p2 : Int) : P58 → Tr P58 R58
  | .e => (.br (decide (p0 ≥ p1)) (.out (.r0 (decide (p0 ≤ p2)))) (.out (.r0 false)))
noncomputable def g58 (p0 : Int) (p1 : Int) (p2 : Int) : P58 → List Item × St
  | .e => bd Tryz.f58 [iI p0, iI p1, iI p2] 12
noncomputable def n58 : R58 → Exit × St
  | .r0 r0 => (.ret, ⟨mk 15 [(6, .bool r0)], [], []⟩)
noncomputable def v58 : R58 → V
  | .r0 r0 => .bool r0
theorem s58 (p0 : Int) (p1 : Int) (p2 : Int) : Sm 0 (g58 p0 p1 p2) (T58 p0 p1 p2) (n58)
  | .e => ⟨400, by kernel_rfl⟩
theorem q58 : ∀ r, bodyQ Tryz.prog Tryz.f58 (· = v58 r) (n58 r).1 (n58 r).2
  | .r0 r0 => bq (.bool r0) (by kernel_rfl)
theorem w58 (p0 : Int) (p1 : Int) (p2 : Int) {post : V → Prop} (h : WQ (T58 p0 p1 p2) v58 post .e) : PC 58 [iI p0, iI p1, iI p2] post :=
  PCalls.wq Tryz.func58 (s58 p0 p1 p2) q58 h
theorem c58 (n a b : Int) : PC 58 [iI n, iI a, iI b] (· = .bool (within n a b)) := by
  refine w58 _ _ _ (WP.step ?_)
  simp only [T58, Go, Ends', v58, Tr.sure, SS]
  repeat' with_reducible first | intro _ | apply And.intro
  all_goals simp [within, GE.ge, Go, Ends', v58, -List.getD_eq_getElem?_getD, *]
  all_goals simp_all [within]
theorem data_get (s : ByteArray) (i : Nat) : s.data.getD i 0 = s.data.toList.getD i 0 := by simp
theorem inR8 (c : UInt8) : inR .i64 (c.toNat : Int) = true := inR64 (by omega) (by have := c.toNat_lt; omega)
inductive P127
  | e
  | l0 (x0_3 : Int)
inductive R127
  | r0 (r0 : Bool)
noncomputable def T127 (p0 : ByteArray) : P127 → Tr P127 R127
  | .e => (.br ((p0.size : Int) == (0 : Int)) (.lit true (.out (.r0 false))) (.br (decide ((p0.size : Int) > (16 : Int))) (.out (.r0 false)) (.go (.l0 0))))
  | .l0 x0_3 => let c1 := ((p0.data.getD (x0_3).toNat 0).toNat : Int); let c2 : Tr P127 R127 := .need (inR .i64 (x0_3 + (1 : Int))) (.go (.l0 (x0_3 + (1 : Int)))); let c3 := decide (0 ≤ x0_3) && decide (x0_3 < (p0.size : Int)); let c4 : Tr P127 R127 := .lit true (.lit true (.out (.r0 false))); let c5 := within c1 97 122; let c6 : Tr P127 R127 := .lit false (.lit false c2); (.br (decide (x0_3 < (p0.size : Int))) (.need c3 (.need (inR .i64 c1) (.call 91 [iI c1, iI 97, iI 122] (.bool c5) true true (.need c3 (.need (inR .i64 c1) (.call 91 [iI c1, iI 48, iI 57] (.bool (within c1 48 57)) true true (.br (within c1 48 57) (.br (!c5) (.br (x0_3 == (0 : Int)) c4 (.lit true (.lit false c2))) c6) (.need c3 (.br (!c5) (.br (x0_3 == (0 : Int)) c4 (.lit true (.br (!(c1 == (46 : Int))) (.out (.r0 false)) c2))) c6))))))))) (.out (.r0 true)))
noncomputable def g127 (p0 : ByteArray) : P127 → List Item × St
  | .e => bd Tryz.f127 [.str p0] 45
  | .l0 x0_3 => (cutOf Tryz.f127 0, ⟨mk 46 [(0, .str p0), (2, .bool false), (3, iI x0_3)], [], []⟩)
noncomputable def n127 : R127 → Exit × St
  | .r0 r0 => (.ret, ⟨mk 46 [(2, .bool r0)], [], []⟩)
noncomputable def v127 : R127 → V
  | .r0 r0 => .bool r0
theorem s127 (p0 : ByteArray) : Sm 0 (g127 p0) (T127 p0) (n127)
  | .e => ⟨400, by kernel_rfl⟩
  | .l0 _ => ⟨400, by kernel_rfl⟩
theorem q127 : ∀ r, bodyQ Tryz.prog Tryz.f127 (· = v127 r) (n127 r).1 (n127 r).2
  | .r0 r0 => bq (.bool r0) (by kernel_rfl)
theorem w127 (p0 : ByteArray) {post : V → Prop} (h : WQ (T127 p0) v127 post .e) : PC 127 [.str p0] post :=
  PCalls.wq Tryz.func127 (s127 p0) q127 h
theorem c127 (s : ByteArray) : PC 127 [.str s] (· = .bool (nameOk s)) := by
  refine w127 _ (WP.step ?_)
  simp only [T127, Tr.sure, Go, Ends', v127]
  refine ⟨fun h => ?_, fun h0 => ⟨fun h => ?_, fun h1 => ?_⟩⟩
  · simp at h; simp [nameOk, h]
  · simp at h; simp [nameOk]; omega
  simp only [beq_eq_false_iff_ne, ne_eq, decide_eq_false_iff_not, Int.not_lt, gt_iff_lt] at h0 h1
  have hs : s.size ≤ 16 := by omega
  have hn : nameOk s = nameFrom true s.data.toList := by
    have h0' : s.size ≠ 0 := by omega
    simp [nameOk, hs, h0']
  refine WP.count (fun i => .l0 i) rfl s.size (fun i => nameFrom true s.data.toList = nameFrom (i == 0) (s.data.toList.drop i)) rfl (fun i hi hI => ?_) fun hI => ?_
  · have hd := drop_cons 0 s.data.toList i hi
    have hr : inR .i64 ((i : Int) + 1) = true := inR64 (by omega) (by omega)
    have hc := inR8 (s.data.toList.getD i 0)
    rw [hd] at hI
    simp only [nameFrom] at hI
    generalize hg : s.data.toList.getD i 0 = c at *
    refine WP.once ?_
    simp only [T127, Tr.sure, SS, hi, data_get, hg]
    repeat' with_reducible first | intro _ | apply And.intro
    all_goals first | exact c91 _ _ _ | (simp [hr, hc, hI, hn, letter, other, Go, Ends', v127, -List.getD_eq_getElem?_getD, *]; done)
  · have he : nameFrom (s.size == 0) (s.data.toList.drop s.size) = true := by rw [← data_len, List.drop_length]; rfl
    refine WP.step ?_
    simp only [T127, Go, Ends', v127, Tr.sure, SS]
    repeat' with_reducible first | intro _ | apply And.intro
    all_goals simp [hn, hI, he, Go, Ends', v127, -List.getD_eq_getElem?_getD, *]
theorem tstr_zero : tstr.zero = ByteArray.empty := rfl
inductive P128
  | e
  | l0 (x0_5 : Int)
inductive R128
  | r0 (r0 : Int)
noncomputable def T128 (p0 : List ByteArray) (p1 : ByteArray) : P128 → Tr P128 R128
  | .e => (.go (.l0 0))
  | .l0 x0_5 => let c1 := x0_5 < (p0.length : Int); (.br (decide c1) (.need (decide (0 ≤ x0_5) && decide c1) (.br ((p0.getD (x0_5).toNat tstr.zero).toList == p1.toList) (.out (.r0 x0_5)) (.need (inR .i64 (x0_5 + (1 : Int))) (.go (.l0 (x0_5 + (1 : Int))))))) (.out (.r0 (-1))))
noncomputable def g128 (p0 : List ByteArray) (p1 : ByteArray) : P128 → List Item × St
  | .e => bd Tryz.f128 [tstr.lst p0, .str p1] 17
  | .l0 x0_5 => (cutOf Tryz.f128 0, ⟨mk 19 [(0, tstr.lst p0), (1, .str p1), (4, iI 0), (5, iI x0_5)], [], []⟩)
noncomputable def n128 : R128 → Exit × St
  | .r0 r0 => (.ret, ⟨mk 19 [(4, iI r0)], [], []⟩)
noncomputable def v128 : R128 → V
  | .r0 r0 => iI r0
theorem s128 (p0 : List ByteArray) (p1 : ByteArray) : Sm 0 (g128 p0 p1) (T128 p0 p1) (n128)
  | .e => ⟨400, by kernel_rfl⟩
  | .l0 _ => ⟨400, by kernel_rfl⟩
theorem q128 : ∀ r, bodyQ Tryz.prog Tryz.f128 (· = v128 r) (n128 r).1 (n128 r).2
  | .r0 r0 => bq (iI r0) (by kernel_rfl)
theorem w128 (p0 : List ByteArray) (p1 : ByteArray) {post : V → Prop} (h : WQ (T128 p0 p1) v128 post .e) : PC 128 [tstr.lst p0, .str p1] post :=
  PCalls.wq Tryz.func128 (s128 p0 p1) q128 h
theorem c128 (l : List ByteArray) (n : ByteArray) (h : l.length ≤ 4) : PC 128 [tstr.lst l, .str n] (· = iI (indexS l n)) := by
  refine w128 _ _ (WP.step ?_)
  simp only [T128, Go, Ends', v128, Tr.sure, SS]
  repeat' with_reducible first | intro _ | apply And.intro
  refine WP.findI (fun i => .l0 i) rfl l ByteArray.empty (fun o => same o n) (fun i hi => ?_) fun hI => ?_
  · have hr : inR .i64 ((i : Int) + 1) = true := inR64 (by omega) (by omega)
    refine WP.once ?_
    simp only [T128, Tr.sure, SS, hi]
    repeat' with_reducible first | intro _ | apply And.intro
    all_goals first | (simp [hr, same, tstr_zero, indexS, Go, Ends', v128, -List.getD_eq_getElem?_getD, *]; done) | (simp_all [hr, same, tstr_zero, indexS, Go, Ends', v128, -List.getD_eq_getElem?_getD]; done)
  · refine WP.step ?_
    simp only [T128, Go, Ends', v128, Tr.sure, SS]
    repeat' with_reducible first | intro _ | apply And.intro
    all_goals simp [hI, indexS, Go, Ends', v128, -List.getD_eq_getElem?_getD, *]
theorem indexS_ge (l : List ByteArray) (n : ByteArray) : (0 ≤ indexS l n) ↔ l.any (fun o => same o n) = true := by
  rw [← firstI_any _ l 0, indexS]
  cases firstI (fun o => same o n) 0 l <;> simp
inductive P101
  | e
inductive R101
  | r0 (r0 : Int)
noncomputable def T101 (p0 : ByteArray) (p1 : List ByteArray) : P101 → Tr P101 R101
  | .e => (.call 127 [.str p0] (.bool (nameOk p0)) true true (.br (!(nameOk p0)) (.out (.r0 6)) (.call 128 [tstr.lst p1, .str p0] (iI (indexS p1 p0)) true true (.br (decide ((indexS p1 p0) ≥ (0 : Int))) (.out (.r0 5)) (.out (.r0 0))))))
noncomputable def g101 (p0 : ByteArray) (p1 : List ByteArray) : P101 → List Item × St
  | .e => bd Tryz.f101 [.str p0, tstr.lst p1] 10
noncomputable def n101 : R101 → Exit × St
  | .r0 r0 => (.ret, ⟨mk 12 [(4, iI r0)], [], []⟩)
noncomputable def v101 : R101 → V
  | .r0 r0 => iI r0
theorem s101 (p0 : ByteArray) (p1 : List ByteArray) : Sm 0 (g101 p0 p1) (T101 p0 p1) (n101)
  | .e => ⟨400, by kernel_rfl⟩
theorem q101 : ∀ r, bodyQ Tryz.prog Tryz.f101 (· = v101 r) (n101 r).1 (n101 r).2
  | .r0 r0 => bq (iI r0) (by kernel_rfl)
theorem w101 (p0 : ByteArray) (p1 : List ByteArray) {post : V → Prop} (h : WQ (T101 p0 p1) v101 post .e) : PC 101 [.str p0, tstr.lst p1] post :=
  PCalls.wq Tryz.func101 (s101 p0 p1) q101 h
theorem c101 (n : ByteArray) (l : List ByteArray) (h : l.length ≤ 4) : PC 101 [.str n, tstr.lst l] (· = iI (newErr n l)) := by
  have hi := indexS_ge l n
  refine w101 _ _ (WP.step ?_)
  simp only [T101, Go, Ends', v101, Tr.sure, SS]
  repeat' with_reducible first | intro _ | apply And.intro
  all_goals first | exact c127 _ | exact c128 _ _ h | (simp [newErr, Go, Ends', v101, -List.getD_eq_getElem?_getD, *]; done) | (simp_all [newErr, Go, Ends', v101, -List.getD_eq_getElem?_getD]; done)
theorem c101r (n : ByteArray) (l : List ByteArray) (h : l.length ≤ 4) : PC 101 [.str n, .list 1 l.reverse.length (rowsRev tstr l.reverse)] (· = iI (newErr n l)) :=
  PCalls.arg (pre := [.str n]) (c101 n l h) (by have := VLe.rev tstr l.reverse; rwa [List.reverse_reverse] at this)
end
noncomputable section
inductive P59
  | e
  | l0 (x0_5 : Int) (a0_0 : List ByteArray)
inductive R59
  | r0 (r0 : Int) (r1 : Int)
noncomputable def T59 (l : List Room) : P59 → Tr P59 R59
  | .e => (.br (decide ((l.length : Int) > (3 : Int))) (.out (.r0 0 3)) (.wait 3 (.own 4 9 1 (.go (.l0 0 ([]))))))
  | .l0 x0_5 a0_0 => let c1 := l.getD (x0_5).toNat tRoom.zero; let c2 : Tr P59 R59 := .need (inR .i64 (x0_5 + (1 : Int))) (.go (.l0 (x0_5 + (1 : Int)) (c1.name :: a0_0))); let c3 := decide (0 ≤ x0_5) && decide (x0_5 < (l.length : Int)); let c4 := newErr (c1.name) a0_0.reverse; let c5 : Tr P59 R59 := .br ((7 : Int) != (0 : Int)) (.out (.r0 x0_5 7)) c2; let c6 : Tr P59 R59 := .br (c4 != (0 : Int)) (.out (.r0 x0_5 c4)) c2; (.br (decide (x0_5 < (l.length : Int))) (.need c3 (.call 101 [.str (c1.name), .list 1 a0_0.length (rowsRev tstr a0_0)] (iI c4) ((decide (a0_0.length ≤ a0_0.length)) && true) true (.need c3 (.need ((decide (a0_0.length = a0_0.length) && decide (a0_0.length + 1 ≤ 4294967296)) && decide (1 ≤ 1)) (.scal (fun _ => true) (.br (c4 == (0 : Int)) (.need c3 (.call 58 [iI (c1.more), iI 0, iI 20] (.bool (within (c1.more) 0 20)) true true (.br (!(within (c1.more) 0 20)) (.lit true (.lit true c5)) (.need c3 (.call 58 [iI (c1.full), iI 0, iI 60] (.bool (within (c1.full) 0 60)) true true (.lit true (.br (!(within (c1.full) 0 60)) c5 c6))))))) (.lit false (.lit false c6)))))))) (.out (.r0 0 0)))
noncomputable def g59 (l : List Room) : P59 → List Item × St
  | .e => bd Tryz.f59 [tRoom.lst l] 54
  | .l0 x0_5 a0_0 => (cutOf Tryz.f59 0, ⟨mk 55 [(0, tRoom.lst l), (4, .row 0 a0_0.length), (5, iI x0_5)], [.rows 9 1 a0_0.length (rowsRev tstr a0_0)], []⟩)
noncomputable def n59 : R59 → Exit × St
  | .r0 r0 r1 => (.ret, ⟨mk 55 [(2, iI r0), (3, iI r1)], [], []⟩)
noncomputable def v59 : R59 → V
  | .r0 r0 r1 => .tuple [iI r0, iI r1]
theorem s59 (l : List Room) : Sm 0 (g59 l) (T59 l) (n59)
  | .e => ⟨400, by kernel_rfl⟩
  | .l0 _ _ => ⟨400, by kernel_rfl⟩
theorem q59 : ∀ r, bodyQ Tryz.prog Tryz.f59 (· = v59 r) (n59 r).1 (n59 r).2
  | .r0 r0 r1 => bq (.tuple [iI r0, iI r1]) (by kernel_rfl)
theorem w59 (l : List Room) {post : V → Prop} (h : WQ (T59 l) v59 post .e) : PC 59 [tRoom.lst l] post :=
  PCalls.wq Tryz.func59 (s59 l) q59 h
theorem c59 (l : List Room) : PC 59 [tRoom.lst l] (· = .tuple [iI (roomsErr l).1, iI (roomsErr l).2]) := by
  refine w59 _ (WP.step ?_)
  simp only [T59, Go, Ends', v59, Tr.sure, SS]
  repeat' with_reducible first | intro _ | apply And.intro
  all_goals first | (simp [roomsErr, Go, Ends', v59, -List.getD_eq_getElem?_getD, *]; done) | skip
  rename_i h1
  have hm : l.length ≤ 3 := by omega
  refine WP.findE (fun i => .l0 i (((l.map (·.name)).take i).reverse)) rfl l zRoom (roomAt l) (fun i hi => ?_) fun hI => ?_
  · have hr : inR .i64 ((i : Int) + 1) = true := inR64 (by omega) (by omega)
    have hl := map_take_len (·.name) l i (by omega)
    have hl' : ((l.map (·.name)).take i).length ≤ 4 := by simp; omega
    have ht := rev_take' (·.name) zRoom l i hi
    have hb : i + 1 ≤ 4294967296 := by omega
    refine WP.once ?_
    simp only [T59, Tr.sure, SS, hi, z2, List.reverse_reverse]
    repeat' with_reducible first | intro _ | apply And.intro
    all_goals first | exact c101r _ _ hl' | exact c58 _ _ _ | (simp [hr, roomsErr, firstR, roomAt, ht, hb, hl, Go, Ends', v59, -List.getD_eq_getElem?_getD, *]; done) | (simp_all [hr, roomsErr, firstR, roomAt, ht, hb, hl, Go, Ends', v59, -List.getD_eq_getElem?_getD]; done) | (simp +contextual [hr, roomsErr, firstR, roomAt, ht, hb, hl, Go, Ends', v59, -List.getD_eq_getElem?_getD, *]; done)
  · refine WP.step ?_
    simp only [T59, Go, Ends', v59, Tr.sure, SS, z2]
    repeat' with_reducible first | intro _ | apply And.intro
    all_goals simp [roomsErr, firstR, hI, Go, Ends', v59, -List.getD_eq_getElem?_getD, *]
inductive P102
  | e
  | l0 (x0_4 : Int) (x0_5 : Int) (a0_0 : List ByteArray)
inductive R102
  | r0 (r0 : Int)
noncomputable def T102 (l : List School) : P102 → Tr P102 R102
  | .e => (.br (decide ((l.length : Int) > (3 : Int))) (.out (.r0 3)) (.wait 3 (.own 3 9 1 (.go (.l0 0 0 ([]))))))
  | .l0 x0_4 x0_5 a0_0 => let c3 := decide (0 ≤ x0_5) && decide (x0_5 < (l.length : Int)); let c4 := l.getD (x0_5).toNat tSchool.zero; let c1 : Tr P102 R102 := .need c3 (.need (inR .i64 (x0_4 + c4.children)) (.need (inR .i64 (x0_5 + (1 : Int))) (.go (.l0 (x0_4 + c4.children) (x0_5 + (1 : Int)) (c4.name :: a0_0))))); let c2 := newErr (c4.name) a0_0.reverse; let c5 : Tr P102 R102 := .br (c2 != (0 : Int)) (.out (.r0 c2)) c1; let c6 := within (c4.children) 1 60; (.br (decide (x0_5 < (l.length : Int))) (.need c3 (.call 101 [.str (c4.name), .list 1 a0_0.length (rowsRev tstr a0_0)] (iI c2) ((decide (a0_0.length ≤ a0_0.length)) && true) true (.need c3 (.need ((decide (a0_0.length = a0_0.length) && decide (a0_0.length + 1 ≤ 4294967296)) && decide (1 ≤ 1)) (.scal (fun _ => true) (.br (c2 == (0 : Int)) (.need c3 (.call 58 [iI (c4.children), iI 1, iI 60] (.bool c6) true true (.br (!c6) (.br ((7 : Int) != (0 : Int)) (.out (.r0 7)) c1) c5))) (.lit false c5))))))) (.br (decide (x0_4 > (60 : Int))) (.out (.r0 9)) (.out (.r0 0))))
noncomputable def g102 (l : List School) : P102 → List Item × St
  | .e => bd Tryz.f102 [tSchool.lst l] 53
  | .l0 x0_4 x0_5 a0_0 => (cutOf Tryz.f102 0, ⟨mk 54 [(0, tSchool.lst l), (3, .row 0 a0_0.length), (4, iI x0_4), (5, iI x0_5)], [.rows 9 1 a0_0.length (rowsRev tstr a0_0)], []⟩)
noncomputable def n102 : R102 → Exit × St
  | .r0 r0 => (.ret, ⟨mk 54 [(2, iI r0)], [], []⟩)
noncomputable def v102 : R102 → V
  | .r0 r0 => iI r0
theorem s102 (l : List School) : Sm 0 (g102 l) (T102 l) (n102)
  | .e => ⟨400, by kernel_rfl⟩
  | .l0 _ _ _ => ⟨400, by kernel_rfl⟩
theorem q102 : ∀ r, bodyQ Tryz.prog Tryz.f102 (· = v102 r) (n102 r).1 (n102 r).2
  | .r0 r0 => bq (iI r0) (by kernel_rfl)
theorem w102 (l : List School) {post : V → Prop} (h : WQ (T102 l) v102 post .e) : PC 102 [tSchool.lst l] post :=
  PCalls.wq Tryz.func102 (s102 l) q102 h
theorem c102 (l : List School) : PC 102 [tSchool.lst l] (· = iI (schoolsErr l)) := by
  refine w102 _ (WP.step ?_)
  simp only [T102, Go, Ends', v102, Tr.sure, SS]
  repeat' with_reducible first | intro _ | apply And.intro
  all_goals first | (simp [schoolsErr, Go, Ends', v102, -List.getD_eq_getElem?_getD, *]; done) | skip
  rename_i h1
  have hm : l.length ≤ 3 := by omega
  refine WP.findEI (fun i => .l0 (sumS l i) i (((l.map (·.name)).take i).reverse)) rfl l zSchool (schoolAt l) (fun i => 0 ≤ sumS l i ∧ sumS l i ≤ 60 * i) ⟨Int.le_refl _, Int.le_refl _⟩ (fun i hi hS => ?_) fun hI hS => ?_
  · have hr : inR .i64 ((i : Int) + 1) = true := inR64 (by omega) (by omega)
    have hl := map_take_len (·.name) l i (by omega)
    have hl' : ((l.map (·.name)).take i).length ≤ 4 := by simp; omega
    have ht := rev_take' (·.name) zSchool l i hi
    have hb : i + 1 ≤ 4294967296 := by omega
    rw [sumS_next]
    have hw : within (l.getD i zSchool).children 1 60 = true → inR .i64 (sumS l i + (l.getD i zSchool).children) = true ∧ 0 ≤ sumS l i + (l.getD i zSchool).children ∧ sumS l i + (l.getD i zSchool).children ≤ 60 * ((i : Int) + 1) := fun hw => by
      rw [within_iff] at hw
      exact ⟨inR64 (by omega) (by omega), by omega, by omega⟩
    refine WP.once ?_
    simp only [T102, Tr.sure, SS, hi, z3, List.reverse_reverse]
    repeat' with_reducible first | intro _ | apply And.intro
    all_goals first | exact c101r _ _ hl' | exact c58 _ _ _ | (simp [hr, schoolsErr, schoolAt, ht, hb, hl, Go, Ends', v102, -List.getD_eq_getElem?_getD, *]; done) | (simp_all [hr, schoolsErr, schoolAt, ht, hb, hl, Go, Ends', v102, -List.getD_eq_getElem?_getD]; done) | (simp +contextual [hr, schoolsErr, schoolAt, ht, hb, hl, Go, Ends', v102, -List.getD_eq_getElem?_getD, *]; done)
  · refine WP.step ?_
    simp only [T102, Go, Ends', v102, Tr.sure, SS, z3]
    repeat' with_reducible first | intro _ | apply And.intro
    all_goals simp [schoolsErr, hI, Go, Ends', v102, -List.getD_eq_getElem?_getD, *]
inductive P103
  | e
inductive R103
  | r0 (r0 : Bool)
noncomputable def T103 (c : Count) : P103 → Tr P103 R103
  | .e => (.call 58 [iI c.seen, iI 0, iI 60] (.bool (within c.seen 0 60)) true true (.br (within c.seen 0 60) (.call 58 [iI c.miss, iI 0, iI 5] (.bool (within c.miss 0 5)) true true (.out (.r0 (within c.miss 0 5)))) (.out (.r0 false))))
noncomputable def g103 (c : Count) : P103 → List Item × St
  | .e => bd Tryz.f103 [.agg [iI c.seen, iI c.miss]] 10
noncomputable def n103 : R103 → Exit × St
  | .r0 r0 => (.ret, ⟨mk 11 [(2, .bool r0)], [], []⟩)
noncomputable def v103 : R103 → V
  | .r0 r0 => .bool r0
theorem s103 (c : Count) : Sm 0 (g103 c) (T103 c) (n103)
  | .e => ⟨400, by kernel_rfl⟩
theorem q103 : ∀ r, bodyQ Tryz.prog Tryz.f103 (· = v103 r) (n103 r).1 (n103 r).2
  | .r0 r0 => bq (.bool r0) (by kernel_rfl)
theorem w103 (c : Count) {post : V → Prop} (h : WQ (T103 c) v103 post .e) : PC 103 [.agg [iI c.seen, iI c.miss]] post :=
  PCalls.wq Tryz.func103 (s103 c) q103 h
theorem c103 (c : Count) : PC 103 [.agg (tCount.cells c)] (· = .bool (countOk c)) := by
  refine w103 _ (WP.step ?_)
  simp only [T103, Go, Ends', v103, Tr.sure, SS]
  repeat' with_reducible first | intro _ | apply And.intro
  all_goals first | exact c58 _ _ _ | (simp [countOk, Go, Ends', v103, -List.getD_eq_getElem?_getD, *]; done)
inductive P60
  | e
  | l0 (x0_6 : Bool) (x0_7 : Int)
inductive R60
  | r0 (r0 : Int)
noncomputable def T60 (b : Book) (d : Day) : P60 → Tr P60 R60
  | .e => let c1 : Tr P60 R60 := .call 103 [.agg [iI d.door.seen, iI d.door.miss]] (.bool (countOk d.door)) true true (.br (countOk d.door) (.call 58 [iI d.taken, iI 0, iI 10000] (.bool (within d.taken 0 10000)) true true (.go (.l0 (within d.taken 0 10000) 0))) (.go (.l0 false 0))); let c2 := schoolsErr d.schools; let c3 : Tr P60 R60 := .br (c2 != (0 : Int)) (.out (.r0 c2)) c1; (.call 102 [tSchool.lst d.schools] (iI c2) true true (.br (c2 == (0 : Int)) (.br ((d.rooms.length : Int) != (b.rooms.length : Int)) (.br ((3 : Int) != (0 : Int)) (.out (.r0 3)) c1) c3) (.lit false c3)))
  | .l0 x0_6 x0_7 => let c1 := d.rooms.getD (x0_7).toNat tCount.zero; let c2 := x0_7 + (1 : Int); let c3 := x0_7 < (d.rooms.length : Int); (.br (decide c3) (.br x0_6 (.need (decide (0 ≤ x0_7) && decide c3) (.call 103 [.agg [iI (c1.seen), iI (c1.miss)]] (.bool (countOk c1)) true true (.need (inR .i64 c2) (.go (.l0 (countOk c1) c2))))) (.need (inR .i64 c2) (.go (.l0 false c2)))) (.br (!x0_6) (.out (.r0 7)) (.out (.r0 0))))
noncomputable def g60 (b : Book) (d : Day) : P60 → List Item × St
  | .e => bd Tryz.f60 [.agg (cC b), .agg [tSchool.lst d.schools, iI d.door.seen, iI d.door.miss, tCount.lst d.rooms, iI d.taken]] 49
  | .l0 x0_6 x0_7 => (cutOf Tryz.f60 0, ⟨mk 51 [(3, .ref 1 0 0), (6, .bool x0_6), (7, iI x0_7)], [.gone, .cells [tSchool.lst d.schools, iI d.door.seen, iI d.door.miss, tCount.lst d.rooms, iI d.taken]], []⟩)
noncomputable def n60 : R60 → Exit × St
  | .r0 r0 => (.ret, ⟨mk 51 [(4, iI r0)], [], []⟩)
noncomputable def v60 : R60 → V
  | .r0 r0 => iI r0
theorem s60 (b : Book) (d : Day) : Sm 0 (g60 b d) (T60 b d) (n60)
  | .e => ⟨400, by kernel_rfl⟩
  | .l0 _ _ => ⟨400, by kernel_rfl⟩
theorem q60 : ∀ r, bodyQ Tryz.prog Tryz.f60 (· = v60 r) (n60 r).1 (n60 r).2
  | .r0 r0 => bq (iI r0) (by kernel_rfl)
theorem w60 (b : Book) (d : Day) {post : V → Prop} (h : WQ (T60 b d) v60 post .e) : PC 60 [.agg (cC b), .agg [tSchool.lst d.schools, iI d.door.seen, iI d.door.miss, tCount.lst d.rooms, iI d.taken]] post :=
  PCalls.wq Tryz.func60 (s60 b d) q60 h
theorem c60 (b : Book) (d : Day) (h : b.rooms.length ≤ 3) : PC 60 [.agg (tBook.cells b), .agg (tDay.cells d)] (· = iI (dayErr b d)) := by
  have hmain : ¬ schoolsErr d.schools ≠ 0 → (d.rooms.length : Int) = b.rooms.length → WP Tryz.prog ⟨none, 0⟩ (T60 b d) (Ends' fun r => v60 r = iI (dayErr b d)) (.l0 (countOk d.door && within d.taken 0 10000) 0) := fun h1 h2 => by
    refine WP.run (fun i => .l0 (countOk d.door && within d.taken 0 10000 && (d.rooms.take i).all countOk) i) (by simp) d.rooms.length (fun i hi => ?_) ?_
    · have hr : inR .i64 ((i : Int) + 1) = true := inR64 (by omega) (by omega)
      have hi' : (i : Int) < d.rooms.length := by omega
      have ht : (d.rooms.take (i + 1)).all countOk = ((d.rooms.take i).all countOk && countOk (d.rooms.getD i zCount)) := by rw [take_snoc zCount d.rooms i hi, List.all_append]; simp
      rw [ht, ← Bool.and_assoc]
      generalize (countOk d.door && within d.taken 0 10000 && (d.rooms.take i).all countOk) = A
      cases A with
      | true =>
        refine WP.once ?_
        simp only [T60, Tr.sure, SS, hi', hi, z5]
        repeat' with_reducible first | intro _ | apply And.intro
        all_goals first | exact (c103 _) | (simp [hr, Go, Ends', v60, -List.getD_eq_getElem?_getD, *]; done)
      | false =>
        refine WP.once ?_
        simp only [T60, Tr.sure, SS, hi', hi, z5]
        repeat' with_reducible first | intro _ | apply And.intro
        all_goals simp [hr, Go, Ends', v60, -List.getD_eq_getElem?_getD, *]
    · rw [List.take_length]
      have e : dayErr b d = if (countOk d.door && within d.taken 0 10000 && d.rooms.all countOk) = true then 0 else 7 := by
        unfold dayErr; rw [if_neg h1, if_neg (fun q => q h2)]
      generalize (countOk d.door && within d.taken 0 10000 && d.rooms.all countOk) = A at *
      cases A with
      | true =>
        refine WP.step ?_
        simp only [T60, Go, Ends', v60, Tr.sure, SS, Int.lt_irrefl]
        repeat' with_reducible first | intro _ | apply And.intro
        all_goals simp [e, Go, Ends', v60, -List.getD_eq_getElem?_getD, *]
      | false =>
        refine WP.step ?_
        simp only [T60, Go, Ends', v60, Tr.sure, SS, Int.lt_irrefl]
        repeat' with_reducible first | intro _ | apply And.intro
        all_goals simp [e, Go, Ends', v60, -List.getD_eq_getElem?_getD, *]
  by_cases h1 : schoolsErr d.schools ≠ 0
  · have e : dayErr b d = schoolsErr d.schools := by unfold dayErr; rw [if_pos h1]
    refine w60 b d (WP.step ?_)
    simp only [T60, Go, Ends', v60, Tr.sure, SS]
    repeat' with_reducible first | intro _ | apply And.intro
    all_goals first | exact (c102 _) | exact (c103 _) | exact (c58 _ _ _) | (simp [e, Go, Ends', v60, -List.getD_eq_getElem?_getD, *]; done) | (simp_all [e, Go, Ends', v60, -List.getD_eq_getElem?_getD]; done)
  · by_cases h2 : (d.rooms.length : Int) = b.rooms.length
    · have hm := hmain h1 h2
      have h1' := Decidable.not_not.1 h1
      cases hc : countOk d.door with
      | true =>
        rw [hc, Bool.true_and] at hm
        refine w60 b d (WP.step ?_)
        simp only [T60, Go, Ends', v60, Tr.sure, SS]
        repeat' with_reducible first | intro _ | apply And.intro
        all_goals first | exact (c102 _) | exact (c103 _) | exact (c58 _ _ _) | exact hm | (simp_all [hc, h1', h2, Go, Ends', v60, -List.getD_eq_getElem?_getD]; done)
      | false =>
        rw [hc, Bool.false_and] at hm
        refine w60 b d (WP.step ?_)
        simp only [T60, Go, Ends', v60, Tr.sure, SS]
        repeat' with_reducible first | intro _ | apply And.intro
        all_goals first | exact (c102 _) | exact (c103 _) | exact (c58 _ _ _) | exact hm | (simp_all [hc, h1', h2, Go, Ends', v60, -List.getD_eq_getElem?_getD]; done)
    · have h1' := Decidable.not_not.1 h1
      have e : dayErr b d = 3 := by unfold dayErr; rw [if_neg h1, if_pos h2]
      refine w60 b d (WP.step ?_)
      simp only [T60, Go, Ends', v60, Tr.sure, SS]
      repeat' with_reducible first | intro _ | apply And.intro
      all_goals first | exact (c102 _) | exact (c103 _) | exact (c58 _ _ _) | (simp [e, h1', h2, Go, Ends', v60, -List.getD_eq_getElem?_getD, *]; done) | (simp_all [e, h1', h2, Go, Ends', v60, -List.getD_eq_getElem?_getD]; done)
inductive P14
  | e
  | l0 (x0_7 : Int)
inductive R14
  | r0 (r0 : Int) (r1 : Int) (r2 : Int)
noncomputable def T14 (b : Book) : P14 → Tr P14 R14
  | .e => let c1 := roomsErr b.rooms; (.call 58 [iI b.price, iI 2, iI 60] (.bool (within b.price 2 60)) true true (.br (!(within b.price 2 60)) (.out (.r0 1 0 7)) (.need (decide ((2 : Int) ≠ 0)) (.br ((b.price.tmod (2 : Int)) == (1 : Int)) (.out (.r0 1 0 2)) (.call 59 [tRoom.lst b.rooms] (.tuple [iI (c1.1), iI (c1.2)]) true true (.br (c1.2 != (0 : Int)) (.out (.r0 2 (c1.1) (c1.2))) (.br (decide ((b.days.length : Int) > (4 : Int))) (.out (.r0 3 0 3)) (.go (.l0 0)))))))))
  | .l0 x0_7 => let c1 := b.days.getD (x0_7).toNat tDay.zero; let c2 := x0_7 < (b.days.length : Int); (.br (decide c2) (.front [] [] (((decide (0 ≤ x0_7) && decide c2) && true) && true) true (.call 60 [.agg (cC b), .agg [tSchool.lst (c1.schools), iI (c1.door.seen), iI (c1.door.miss), tCount.lst (c1.rooms), iI (c1.taken)]] (iI (dayErr b c1)) true true (.br ((dayErr b c1) != (0 : Int)) (.out (.r0 3 x0_7 (dayErr b c1))) (.need (inR .i64 (x0_7 + (1 : Int))) (.go (.l0 (x0_7 + (1 : Int)))))))) (.out (.r0 0 0 0)))
noncomputable def g14 (b : Book) : P14 → List Item × St
  | .e => bd Tryz.f14 [.agg (cC b)] 47
  | .l0 x0_7 => (cutOf Tryz.f14 0, ⟨mk 48 [(1, .ref 0 0 0), (7, iI x0_7)], [.cells (cC b)], []⟩)
noncomputable def n14 : R14 → Exit × St
  | .r0 r0 r1 r2 => (.ret, ⟨mk 48 [(2, iI r0), (3, iI r1), (4, iI r2)], [], []⟩)
noncomputable def v14 : R14 → V
  | .r0 r0 r1 r2 => .tuple [iI r0, iI r1, iI r2]
theorem s14 (b : Book) : Sm 0 (g14 b) (T14 b) (n14)
  | .e => ⟨400, by kernel_rfl⟩
  | .l0 _ => ⟨400, by kernel_rfl⟩
theorem q14 : ∀ r, bodyQ Tryz.prog Tryz.f14 (· = v14 r) (n14 r).1 (n14 r).2
  | .r0 r0 r1 r2 => bq (.tuple [iI r0, iI r1, iI r2]) (by kernel_rfl)
theorem w14 (b : Book) {post : V → Prop} (h : WQ (T14 b) v14 post .e) : PC 14 [.agg (cC b)] post :=
  PCalls.wq Tryz.func14 (s14 b) q14 h
theorem c14 (b : Book) : PC 14 [.agg (tBook.cells b)] (· = .tuple [iI (bookCheck b).1, iI (bookCheck b).2.1, iI (bookCheck b).2.2]) := by
  refine w14 _ (WP.step ?_)
  simp only [T14, Go, Ends', v14, Tr.sure, SS]
  repeat' with_reducible first | intro _ | apply And.intro
  all_goals first | exact c58 _ _ _ | exact c59 _ | (simp [bookCheck, Go, Ends', v14, -List.getD_eq_getElem?_getD, *]; done) | skip
  rename_i h1 h2 h3 h4 h5
  have h6 := (okRooms h4).1
  refine WP.findE (fun i => .l0 i) rfl b.days tDay.zero (fun _ d => dayErr b d) (fun i hi => ?_) fun hI => ?_
  · have hr : inR .i64 ((i : Int) + 1) = true := inR64 (by omega) (by omega)
    refine WP.once ?_
    simp only [T14, Tr.sure, SS, hi]
    repeat' with_reducible first | intro _ | apply And.intro
    all_goals first | exact c60 _ _ h6 | (simp [hr, bookCheck, Go, Ends', v14, -List.getD_eq_getElem?_getD, *]; done) | (simp +contextual [hr, bookCheck, Go, Ends', v14, -List.getD_eq_getElem?_getD, *]; done)
  · refine WP.step ?_
    simp only [T14, Go, Ends', v14, Tr.sure, SS]
    repeat' with_reducible first | intro _ | apply And.intro
    all_goals simp [bookCheck, hI, Go, Ends', v14, -List.getD_eq_getElem?_getD, *]
end
noncomputable section
def validR (b : Book) : Bool := (bookCheck b).2.2 == 0
inductive P36
  | e
inductive R36
  | r0 (r0 : Bool)
noncomputable def T36 (b : Book) : P36 → Tr P36 R36
  | .e => let c1 := bookCheck b; (.call 14 [.agg (cC b)] (.tuple [iI (c1.1), iI (c1.2.1), iI (c1.2.2)]) true true (.out (.r0 (c1.2.2 == (0 : Int)))))
noncomputable def g36 (b : Book) : P36 → List Item × St
  | .e => bd Tryz.f36 [.agg (cC b)] 13
noncomputable def n36 : R36 → Exit × St
  | .r0 r0 => (.ret, ⟨mk 14 [(2, .bool r0)], [], []⟩)
noncomputable def v36 : R36 → V
  | .r0 r0 => .bool r0
theorem s36 (b : Book) : Sm 0 (g36 b) (T36 b) (n36)
  | .e => ⟨400, by kernel_rfl⟩
theorem q36 : ∀ r, bodyQ Tryz.prog Tryz.f36 (· = v36 r) (n36 r).1 (n36 r).2
  | .r0 r0 => bq (.bool r0) (by kernel_rfl)
theorem w36 (b : Book) {post : V → Prop} (h : WQ (T36 b) v36 post .e) : PC 36 [.agg (cC b)] post :=
  PCalls.wq Tryz.func36 (s36 b) q36 h
theorem c36 (b : Book) : PC 36 [.agg (tBook.cells b)] (· = .bool (validR b)) := by
  refine w36 b (WP.step ?_)
  simp only [T36, Go, Ends', v36, Tr.sure, SS]
  repeat' with_reducible first | intro _ | apply And.intro
  all_goals first | exact (c14 b) | (simp [validR, Go, Ends', v36, -List.getD_eq_getElem?_getD, *]; done)
end
noncomputable section
theorem valid_ok {b : Book} (h : validR b = true) : OkBook b := okBook (by simpa [validR] using h)
theorem asked_in {b : Book} (h : validR b = true) {d : Int} (hd : 0 ≤ d ∧ d < b.days.length) : askedR b d = 0 := by
  have h0 : (bookCheck b).2.2 = 0 := by simpa [validR] using h
  unfold askedR
  rw [if_neg (by rw [h0]; simp), if_pos]
  unfold within
  simp only [Bool.and_eq_true, decide_eq_true_eq]; omega
theorem which_in {w : Int} (hw : 0 ≤ w) {n : Nat} (h : 0 < n) : 0 ≤ w.tmod (n : Int) ∧ w.tmod (n : Int) < (n : Int) := by
  rw [Int.tmod_eq_emod_of_nonneg hw]
  exact ⟨Int.emod_nonneg _ (by omega), Int.emod_lt_of_pos _ (by omega)⟩
end
noncomputable section
theorem tdiv13 {n : Int} (h : 0 ≤ n) : n.tdiv 13 = n / 13 := Int.tdiv_eq_ediv_of_nonneg h
theorem fee_mono {b : Book} (h : OkBook b) {m n : Int} (hm : 0 ≤ m) (hmn : m ≤ n) : feeR b m ≤ feeR b n ∧ 0 ≤ feeR b m ∧ feeR b n ≤ b.price.tdiv 2 * n := by
  have hp := half_in h
  unfold feeR
  rw [tdiv13 hm, tdiv13 (by omega : 0 ≤ n)]
  have h0 : 0 ≤ b.price.tdiv 2 := by omega
  exact ⟨Int.mul_le_mul_of_nonneg_left (by omega) h0, Int.mul_nonneg h0 (by omega), Int.mul_le_mul_of_nonneg_left (by omega) h0⟩
theorem fees_how {b : Book} {l : List School} (hl : ∀ s ∈ l, 1 ≤ s.children ∧ s.children ≤ 60) : ∀ k : Nat, k ≤ l.length → ∃ Q : Int, feesTo b l k = b.price.tdiv 2 * (sumS l k - Q) ∧ 13 * Q ≤ sumS l k ∧ sumS l k ≤ 13 * Q + 12 * k ∧ 0 ≤ Q
  | 0, _ => ⟨0, by simp [feesTo, sumS, natF], by simp [sumS, natF], by simp [sumS, natF], Int.le_refl _⟩
  | k + 1, hk => by
    obtain ⟨Q, h1, h2, h3, h4⟩ := fees_how hl k (by omega)
    have hc := hl _ (getD_mem zSchool l k (by omega))
    have e1 : feesTo b l (k + 1) = feesTo b l k + feeR b (l.getD k zSchool).children := rfl
    have e2 : sumS l (k + 1) = sumS l k + (l.getD k zSchool).children := rfl
    rw [e1, e2, h1]
    generalize (l.getD k zSchool).children = c at *
    generalize sumS l k = S at *
    refine ⟨Q + c / 13, ?_, by omega, by omega, by omega⟩
    unfold feeR
    rw [tdiv13 (by omega : 0 ≤ c), ← Int.mul_add]
    congr 1; omega
theorem apart_law {b : Book} {d : Int} (h : OkBook b) (hd : OkDay b (dayOf b d)) : feeR b (pupilsD b d) ≤ feesD b d ∧ feesD b d - feeR b (pupilsD b d) ≤ b.price.tdiv 2 * max 0 (((dayOf b d).schools.length : Int) - 1) := by
  obtain ⟨Q, h1, h2, h3, h4⟩ := fees_how (b := b) hd.school _ (Nat.le_refl _)
  have hn := hd.ns
  have hp := half_in h
  have h0 : 0 ≤ b.price.tdiv 2 := by omega
  have e1 : feesD b d = b.price.tdiv 2 * (pupilsD b d - Q) := h1
  have hS : 0 ≤ pupilsD b d := (pupils_in hd).1
  have h2' : 13 * Q ≤ pupilsD b d := h2
  have h3' : pupilsD b d ≤ 13 * Q + 12 * ((dayOf b d).schools.length : Int) := h3
  rw [e1]
  generalize pupilsD b d = S at *
  generalize (dayOf b d).schools.length = k at *
  unfold feeR
  rw [tdiv13 hS, ← Int.mul_sub]
  exact ⟨Int.mul_le_mul_of_nonneg_left (by omega) h0, Int.mul_le_mul_of_nonneg_left (by omega) h0⟩
inductive P9
  | e
inductive R9
  | r0 (r0 : Bool)
noncomputable def T9 (b : Book) (w : Int) (p : Nat → Int) : P9 → Tr P9 R9
  | .e => let c1 := max ((p (((0 : Int)).toNat)).tmod (61 : Int)) ((p (((1 : Int)).toNat)).tmod (61 : Int)); let c2 := min ((p (((0 : Int)).toNat)).tmod (61 : Int)) ((p (((1 : Int)).toNat)).tmod (61 : Int)); let c5 : Tr P9 R9 := .out (.r0 false); let c7 := b.price.tdiv (2 : Int); let c8 : Tr P9 R9 := .call 21 [] (.bool true) true true (.out (.r0 true)); let c9 : Tr P9 R9 := .lit true (.lit true c5); let c10 := schoolR b c2; let c11 := schoolR b c1; let c12 := decide ((2 : Int) ≠ 0) && inR .i64 c7; let c13 := (b.days.length : Int); let c3 := w.tmod c13; let c4 := (((b.days.getD (c3).toNat tDay.zero).schools.length) : Int) - (1 : Int); let c6 := togetherR b c3; (.call 36 [.agg (cC b)] (.bool (validR b)) true true (.br (!(validR b)) (.call 15 [.agg (cC b), iI 0] (.tuple [iI ((schoolR b 0).1), iI ((schoolR b 0).2)]) true true (.br ((schoolR b 0).2 != (0 : Int)) c8 c5)) (.front [] [] (((decide (0 ≤ (0 : Int)) && decide ((0 : Int) < (2 : Int))) && ((decide (((0 : Int)).toNat < 2) && decide (0 < 1)) && ((inR .i64 (p (((0 : Int)).toNat))) && ((decide ((61 : Int) ≠ 0)) && ((decide (0 ≤ (1 : Int)) && decide ((1 : Int) < (2 : Int))) && ((decide (((1 : Int)).toNat < 2) && decide (0 < 1)) && ((inR .i64 (p (((1 : Int)).toNat))) && ((decide ((61 : Int) ≠ 0)) && true)))))))) && true) true (.call 15 [.agg (cC b), iI c2] (.tuple [iI (c10.1), iI (c10.2)]) true true (.call 15 [.agg (cC b), iI c1] (.tuple [iI (c11.1), iI (c11.2)]) true true (.br (c10.2 != (0 : Int)) (.lit true (.lit true c9)) (.br (c11.2 != (0 : Int)) (.lit true c9) (.br (decide (c10.1 > c11.1)) c9 (.br (decide (c10.1 < (0 : Int))) (.lit true c5) (.need c12 (.need (inR .i64 (c7 * c1)) (.br (decide (c11.1 > (c7 * c1))) c5 (.br (c13 == (0 : Int)) c8 (.need (inR .i64 w) (.need (decide (c13 ≠ 0)) (.call 17 [.agg (cC b), iI c3] (.tuple [iI (c6.1), iI (c6.2.1), iI (c6.2.2)]) true true (.need (decide (0 ≤ c3) && decide (c3 < c13)) (.br (c6.2.2 == (0 : Int)) (.br (decide (c6.2.1 ≤ c6.1)) (.need (inR .i64 (c6.1 - c6.2.1)) (.need c12 (.need (inR .i64 c4) (.need (inR .i64 (c7 * (max 0 c4))) (.br (decide ((c6.1 - c6.2.1) ≤ (c7 * (max 0 c4)))) c8 c5))))) (.lit false c5)) (.lit false (.lit false c5))))))))))))))))))))
noncomputable def g9 (b : Book) (w : Int) (p : Nat → Int) : P9 → List Item × St
  | .e => bd Tryz.f9 [.agg (cC b), .int .u8 w, .arr 1 2 (rowsFn tu8 p)] 128
noncomputable def n9 : R9 → Exit × St
  | .r0 r0 => (.ret, ⟨mk 131 [(6, .bool r0)], [], []⟩)
noncomputable def v9 : R9 → V
  | .r0 r0 => .bool r0
theorem s9 (b : Book) (w : Int) (p : Nat → Int) : Sm 0 (g9 b w p) (T9 b w p) (n9)
  | .e => ⟨400, by kernel_rfl⟩
theorem q9 : ∀ r, bodyQ Tryz.prog Tryz.f9 (· = v9 r) (n9 r).1 (n9 r).2
  | .r0 r0 => bq (.bool r0) (by kernel_rfl)
theorem w9 (b : Book) (w : Int) (p : Nat → Int) {post : V → Prop} (h : WQ (T9 b w p) v9 post .e) : PC 9 [.agg (cC b), .int .u8 w, .arr 1 2 (rowsFn tu8 p)] post :=
  PCalls.wq Tryz.func9 (s9 b w p) q9 h
set_option maxHeartbeats 4000000 in
theorem c9 (b : Book) (w : Int) (p : Nat → Int) (hw : 0 ≤ w ∧ w ≤ 255) (hp : ∀ i, i < 2 → 0 ≤ p i ∧ p i ≤ 255) (hs : SmB b) : PC 9 [.agg (tBook.cells b), .int .u8 w, .arr 1 2 (rowsFn tu8 p)] (· = .bool true) := by
  have hcv : inR .i64 w = true := inR64 (by omega) (by omega)
  have p0 := hp 0 (by omega)
  have p1 := hp 1 (by omega)
  have hc0 : inR .i64 (p 0) = true := inR64 (by omega) (by omega)
  have hc1 : inR .i64 (p 1) = true := inR64 (by omega) (by omega)
  have k15 := fun n => c15 b n hs
  have i0 : Int.toNat 0 = 0 := rfl
  have i1 : Int.toNat 1 = 1 := rfl
  cases hv : validR b with
  | true =>
    have hok := valid_ok hv
    have hck : (bookCheck b).2.2 = 0 := by simpa [validR] using hv
    have m0 := which_in (w := p 0) p0.1 (n := 61) (by omega)
    have m1 := which_in (w := p 1) p1.1 (n := 61) (by omega)
    have c61 : ((61 : Nat) : Int) = 61 := rfl
    rw [c61] at m0 m1
    have sch : ∀ n : Int, 0 ≤ n → n < 61 → schoolR b n = (feeR b n, 0) := fun n h1 h2 => by
      unfold schoolR
      rw [if_neg (by rw [hck]; simp), if_pos (by unfold within; simp only [Bool.and_eq_true, decide_eq_true_eq]; omega)]
    generalize hq0 : (p 0).tmod 61 = q0 at *
    generalize hq1 : (p 1).tmod 61 = q1 at *
    have hmin : 0 ≤ min q0 q1 ∧ min q0 q1 < 61 := by omega
    have hmax : 0 ≤ max q0 q1 ∧ max q0 q1 < 61 := by omega
    obtain ⟨f1, f2, f3⟩ := fee_mono hok hmin.1 (show min q0 q1 ≤ max q0 q1 by omega)
    have e1 := sch _ hmin.1 hmin.2
    have e2 := sch _ hmax.1 hmax.2
    have k15a := k15 (min q0 q1)
    have k15b := k15 (max q0 q1)
    rw [e1] at k15a
    rw [e2] at k15b
    have hpi := half_in hok
    have hbig := half_mul hok (n := max q0 q1) ⟨hmax.1, by omega⟩
    have r2 : inR .i64 (b.price.tdiv 2) = true := inR64 (by omega) (by omega)
    have r3 : inR .i64 (b.price.tdiv 2 * max q0 q1) = true := inR64 (by omega) (by omega)
    have s1 : (schoolR b (min q0 q1)).1 = feeR b (min q0 q1) := by rw [e1]
    have s2 : (schoolR b (min q0 q1)).2 = 0 := by rw [e1]
    have s3 : (schoolR b (max q0 q1)).1 = feeR b (max q0 q1) := by rw [e2]
    have s4 : (schoolR b (max q0 q1)).2 = 0 := by rw [e2]
    have g1 : ¬ feeR b (max q0 q1) < feeR b (min q0 q1) := by omega
    have g2 : ¬ feeR b (min q0 q1) < 0 := by omega
    have g3 : ¬ b.price.tdiv 2 * max q0 q1 < feeR b (max q0 q1) := by omega
    by_cases hl : b.days.length = 0
    · clear sch e1 e2 f1 f2 f3
      refine w9 b w p (WP.step ?_)
      simp only [T9, Go, Ends', v9, Tr.sure, SS, i0, i1, hl, hq0, hq1, s1, s2, s3, s4]
      repeat' with_reducible first | intro _ | apply And.intro
      all_goals first | exact (c36 b) | exact k15a | exact k15b | exact c21 | (simp [hv, hcv, hc0, hc1, r2, r3, g1, g2, g3, hl, Go, Ends', v9, -List.getD_eq_getElem?_getD, *]; done) | (simp_all [hv, hcv, hc0, hc1, r2, r3, g1, g2, g3, hl, Go, Ends', v9, -List.getD_eq_getElem?_getD]; done)
    · have hz : ¬ (b.days.length : Int) = 0 := by omega
      have hd := which_in hw.1 (show 0 < b.days.length by omega)
      generalize hdd : w.tmod (b.days.length : Int) = d at *
      have ha := asked_in hv hd
      have hday := hok.day _ (getD_mem zDay b.days d.toNat (by omega))
      have k17 := c17 b d hs
      have et : togetherR b d = (feesD b d, feeR b (pupilsD b d), 0) := by unfold togetherR; rw [if_neg (fun q => q ha)]; rfl
      have t1 : (togetherR b d).1 = feesD b d := by rw [et]
      have t2 : (togetherR b d).2.1 = feeR b (pupilsD b d) := by rw [et]
      have t3 : (togetherR b d).2.2 = 0 := by rw [et]
      rw [et] at k17
      obtain ⟨a1, a2⟩ := apart_law hok hday
      have hfe := feesD_in hok hday
      have hpu := pupils_in hday
      have hf0 := (fee_mono hok hpu.1 (Int.le_refl _)).2.1
      have hns := hday.ns
      have hdo : b.days.getD d.toNat zDay = dayOf b d := rfl
      have r4 : inR .i64 (feesD b d - feeR b (pupilsD b d)) = true := inR64 (by omega) (by omega)
      have r5 : inR .i64 (((dayOf b d).schools.length : Int) - 1) = true := by rw [← hdo]; exact inR64 (by omega) (by omega)
      have hbig2 := half_mul hok (n := max 0 (((dayOf b d).schools.length : Int) - 1)) (by rw [← hdo]; omega)
      have r6 : inR .i64 (b.price.tdiv 2 * max 0 (((dayOf b d).schools.length : Int) - 1)) = true := inR64 (by omega) (by omega)
      clear sch e1 e2 f1 f2 f3 et
      refine w9 b w p (WP.step ?_)
      simp only [T9, Go, Ends', v9, Tr.sure, SS, i0, i1, hz, hdd, hq0, hq1, s1, s2, s3, s4, t1, t2, t3, z8, hdo]
      repeat' with_reducible first | intro _ | apply And.intro
      all_goals first | exact (c36 b) | exact k15a | exact k15b | exact k17 | exact c21 | (simp [hv, hcv, hc0, hc1, r2, r3, g1, g2, g3, r4, r5, r6, a1, a2, Go, Ends', v9, -List.getD_eq_getElem?_getD, *]; done) | (simp_all [hv, hcv, hc0, hc1, r2, r3, g1, g2, g3, r4, r5, r6, a1, a2, Go, Ends', v9, -List.getD_eq_getElem?_getD]; done)
  | false =>
    have h0 : (bookCheck b).2.2 ≠ 0 := by simpa [validR] using hv
    have e2 : (schoolR b 0).2 = (bookCheck b).2.2 := by unfold schoolR; rw [if_pos h0]
    have k15a := k15 0
    rw [e2] at k15a
    refine w9 b w p (WP.step ?_)
    simp only [T9, Go, Ends', v9, Tr.sure, SS, e2]
    repeat' with_reducible first | intro _ | apply And.intro
    all_goals first | exact (c36 b) | exact k15a | exact c21 | (simp [hv, h0, Go, Ends', v9, -List.getD_eq_getElem?_getD, *]; done) | (simp_all [hv, h0, Go, Ends', v9, -List.getD_eq_getElem?_getD]; done)
end
end Go.Proofs.YtfgmckfomckliaaGreat
