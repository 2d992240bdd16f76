/-
  Part of the proof of ClaimTrue. Conditions: those that stand in each theorem.
-/
import Derived.Test.YtdamoemndifpmaaGreatChecked
import Derived.Test.YtdamoemndifpmaaGreatB13
set_option linter.unusedSimpArgs false
set_option linter.unusedVariables false
set_option maxRecDepth 100000
namespace Ab
theorem rev_take' {τ υ : Type} (f : τ → υ) (d : τ) (l : List τ) (i : Nat) (hi : i < l.length) : ((l.map f).take (i + 1)).reverse = f (l.getD i d) :: ((l.map f).take i).reverse := by
  rw [← List.map_take, ← List.map_take]; exact rev_take f d l i hi
theorem any_of_firstI {τ : Type} {p : τ → Bool} {l : List τ} {i : Nat} : firstI p 0 l = some i → l.any p = true := fun h => by
  rw [← firstI_any p l 0, h]; rfl
end Ab
namespace Go.Proofs.YtdamoemndifpmaaGreat
open Ab
structure Past where
  lasts : List Int
  casts : List Int
  unread : List Int
def indexS (l : List ByteArray) (s : ByteArray) : Int := match firstI (fun o => same o s) 0 l with | some i => i | none => -1
theorem ext_mem {s : Shop} {l x : List Cast} (h : x ∈ ext s l) : ∃ c, CastOk s c ∧ x = l ++ [c] ∧ agrees s x = true := by
  simp only [ext, List.mem_filter, List.mem_map] at h
  obtain ⟨⟨c, hc, rfl⟩, ha⟩ := h
  exact ⟨c, mem_allCasts.1 hc, rfl, ha⟩
theorem grow_mem {s : Shop} : ∀ {n : Nat} {l : List Cast}, l ∈ growN s n → l.length = n ∧ ∀ c ∈ l, CastOk s c
  | 0, l, h => by simp only [growN, List.mem_singleton] at h; subst h; simp
  | n + 1, l, h => by
    simp only [growN, List.mem_flatMap] at h
    obtain ⟨k, hk, hx⟩ := h
    obtain ⟨c, hc, rfl, _⟩ := ext_mem hx
    obtain ⟨h1, h2⟩ := grow_mem hk
    refine ⟨by simp [h1], fun d hd => ?_⟩
    rcases List.mem_append.1 hd with hd | hd
    · exact h2 d hd
    · simp only [List.mem_singleton] at hd; subst hd; exact hc
def tstr : Ty ByteArray := ⟨1, fun s => [.str s], ByteArray.empty⟩
def tu8 : Ty Int := ⟨1, fun n => [.int .u8 n], 0⟩
end Go.Proofs.YtdamoemndifpmaaGreat
namespace Ab
open Go
theorem sem_fresh {P : Program} {s x : Operand} {t e : TypeId} {zs : List V} {w2 k : Nat} {c : Nat → Nat → V} {h : List Blk} (hu : P.underlying t = some (.slice e)) (hT : hasT P e = true) (hsz : szOf P e = w2) (h0 : 0 < w2) (hz : zeroCs P e = some zs) (hzl : zs.length = w2) (hby : P.bytesOf e ≤ 32768)
    (hk0 : 0 < k) (hk : k ≤ 4294967296) (hs : ∀ r, r < k → ∀ j, j < w2 → (c r j).scalar = true) :
    SemOK P (.call { callee := .builtin .append, args := #[s, x], argTypes := #[t, t] }) [(s, .nils), (x, .list w2 k c)] h (.row h.length k) (h ++ [.rows e w2 k c]) := fun β G K w ρ' oper ho _ r hr => by
  have hsv := hr (s, .nils) (by simp)
  have hxv := hr (x, .list w2 k c) (by simp)
  simp only at hsv hxv
  generalize hsx : ρ' s = sv at hsv
  cases hsv with
  | nils =>
    rename_i a0
    obtain ⟨v', w', r1, r2, r3, r5, r4⟩ := run_fresh (ty := oper.type) hu hT hsz h0 hz hzl hby r (a0 := a0) hxv hk hs
    rcases r4 with ⟨rfl, _, _⟩ | ⟨hpos, g, cap', cur, rfl, hge, hcur, hnc, hcm, hcsz, hrel⟩
    · omega
    · have hmn : k ≤ maxn := by unfold maxn; omega
      have hg' : g < w'.heap.size := (Array.getElem?_eq_some_iff.1 hcur).1
      have r6 := r.reserve 1
      have hvd : (h ++ List.replicate 1 Blk.void)[h.length]? = some .void := by simp
      have r7 := r6.fillG r2 r3 (k := .rows e w2 k c) (x := ⟨g, w2, cap'⟩) hvd hge hg' ⟨rfl, h0, hcm, cur, hcur, hcsz, hnc, hmn, hrel⟩ r5
      have e1 : (h ++ List.replicate 1 Blk.void).set h.length (.rows e w2 k c) = h ++ [.rows e w2 k c] := by simp
      have e2 : (β ++ List.replicate 1 Hm.void).set h.length (.lie ⟨g, w2, cap'⟩) = β ++ [.lie ⟨g, w2, cap'⟩] := by rw [← r.len]; simp
      rw [e1, e2] at r7
      refine ⟨.value (.slice (some ⟨g, 0, none⟩) k cap'), w', β ++ [.lie ⟨g, w2, cap'⟩], ?_, Homes.le_append _ _, r7, ?_⟩
      · simp only [execOp, ho, resolve, Sem.run_bind, Sem.run_pure, Result.andThen_ok, invoke, builtin, List.map_toArray, List.map_cons, List.map_nil, hsx, r1]
      · show Rel G _ _ _
        have e3 : (β ++ [Hm.lie ⟨g, w2, cap'⟩])[h.length]? = some (.lie ⟨g, w2, cap'⟩) := by rw [← r.len]; simp
        exact .row e3 hnc (Nat.le_refl _) hmn
end Ab
namespace Go.Proofs.YtdamoemndifpmaaGreat
open Ab
noncomputable section
inductive P123
  | e
inductive R123
  | r0 (r0 : Bool)
noncomputable def T123 (p0 : Int) (p1 : Int) (p2 : Int) : P123 → Tr P123 R123
  | .e => (.br (decide (p0 ≥ p1)) (.out (.r0 (decide (p0 ≤ p2)))) (.out (.r0 false)))
noncomputable def g123 (p0 : Int) (p1 : Int) (p2 : Int) : P123 → List Item × St
  | .e => bd Tryz.f123 [iI p0, iI p1, iI p2] 12
noncomputable def n123 : R123 → Exit × St
  | .r0 r0 => (.ret, ⟨mk 15 [(6, .bool r0)], [], []⟩)
noncomputable def v123 : R123 → V
  | .r0 r0 => .bool r0
theorem s123 (p0 : Int) (p1 : Int) (p2 : Int) : Sm 0 (g123 p0 p1 p2) (T123 p0 p1 p2) (n123)
  | .e => ⟨400, by kernel_rfl⟩
theorem q123 : ∀ r, bodyQ Tryz.prog Tryz.f123 (· = v123 r) (n123 r).1 (n123 r).2
  | .r0 r0 => bq (.bool r0) (by kernel_rfl)
theorem w123 (p0 : Int) (p1 : Int) (p2 : Int) {post : V → Prop} (h : WQ (T123 p0 p1 p2) v123 post .e) : PC 123 [iI p0, iI p1, iI p2] post :=
  PCalls.wq Tryz.func123 (s123 p0 p1 p2) q123 h
theorem c123 (n a b : Int) : PC 123 [iI n, iI a, iI b] (· = .bool (within n a b)) := by
  refine w123 _ _ _ (WP.step ?_)
  simp only [T123, Go, Ends', v123, Tr.sure, SS]
  repeat' with_reducible first | intro _ | apply And.intro
  all_goals simp [within, GE.ge, Go, Ends', v123, -List.getD_eq_getElem?_getD, *]
  all_goals simp_all [within]
inductive P61
  | e
inductive R61
  | r0 (r0 : Bool)
noncomputable def T61 (p0 : Int) (p1 : Int) (p2 : Int) : P61 → Tr P61 R61
  | .e => (.br (decide (p0 ≥ p1)) (.out (.r0 (decide (p0 ≤ p2)))) (.out (.r0 false)))
noncomputable def g61 (p0 : Int) (p1 : Int) (p2 : Int) : P61 → List Item × St
  | .e => bd Tryz.f61 [iI p0, iI p1, iI p2] 12
noncomputable def n61 : R61 → Exit × St
  | .r0 r0 => (.ret, ⟨mk 15 [(6, .bool r0)], [], []⟩)
noncomputable def v61 : R61 → V
  | .r0 r0 => .bool r0
theorem s61 (p0 : Int) (p1 : Int) (p2 : Int) : Sm 0 (g61 p0 p1 p2) (T61 p0 p1 p2) (n61)
  | .e => ⟨400, by kernel_rfl⟩
theorem q61 : ∀ r, bodyQ Tryz.prog Tryz.f61 (· = v61 r) (n61 r).1 (n61 r).2
  | .r0 r0 => bq (.bool r0) (by kernel_rfl)
theorem w61 (p0 : Int) (p1 : Int) (p2 : Int) {post : V → Prop} (h : WQ (T61 p0 p1 p2) v61 post .e) : PC 61 [iI p0, iI p1, iI p2] post :=
  PCalls.wq Tryz.func61 (s61 p0 p1 p2) q61 h
theorem c61 (n a b : Int) : PC 61 [iI n, iI a, iI b] (· = .bool (within n a b)) := by
  refine w61 _ _ _ (WP.step ?_)
  simp only [T61, Go, Ends', v61, Tr.sure, SS]
  repeat' with_reducible first | intro _ | apply And.intro
  all_goals simp [within, GE.ge, Go, Ends', v61, -List.getD_eq_getElem?_getD, *]
  all_goals simp_all [within]
inductive P128
  | e
inductive R128
  | r0 (r0 : Bool)
noncomputable def T128 (p0 : Int) : P128 → Tr P128 R128
  | .e => (.br (p0 == (1 : Int)) (.lit true (.out (.r0 true))) (.br (p0 == (2 : Int)) (.out (.r0 true)) (.out (.r0 (p0 == (3 : Int))))))
noncomputable def g128 (p0 : Int) : P128 → List Item × St
  | .e => bd Tryz.f128 [iI p0] 12
noncomputable def n128 : R128 → Exit × St
  | .r0 r0 => (.ret, ⟨mk 13 [(2, .bool r0)], [], []⟩)
noncomputable def v128 : R128 → V
  | .r0 r0 => .bool r0
theorem s128 (p0 : Int) : Sm 0 (g128 p0) (T128 p0) (n128)
  | .e => ⟨400, by kernel_rfl⟩
theorem q128 : ∀ r, bodyQ Tryz.prog Tryz.f128 (· = v128 r) (n128 r).1 (n128 r).2
  | .r0 r0 => bq (.bool r0) (by kernel_rfl)
theorem w128 (p0 : Int) {post : V → Prop} (h : WQ (T128 p0) v128 post .e) : PC 128 [iI p0] post :=
  PCalls.wq Tryz.func128 (s128 p0) q128 h
theorem c128 (n : Int) : PC 128 [iI n] (· = .bool (pair n)) := by
  refine w128 _ (WP.step ?_)
  simp only [T128, Go, Ends', v128, Tr.sure, SS]
  repeat' with_reducible first | intro _ | apply And.intro
  all_goals simp [pair, Go, Ends', v128, -List.getD_eq_getElem?_getD, *]
inductive P130
  | e
inductive R130
  | r0 (r0 : Bool)
noncomputable def T130 (p0 : Int) : P130 → Tr P130 R130
  | .e => (.br (p0 == (4 : Int)) (.out (.r0 true)) (.out (.r0 (p0 == (5 : Int)))))
noncomputable def g130 (p0 : Int) : P130 → List Item × St
  | .e => bd Tryz.f130 [iI p0] 8
noncomputable def n130 : R130 → Exit × St
  | .r0 r0 => (.ret, ⟨mk 9 [(2, .bool r0)], [], []⟩)
noncomputable def v130 : R130 → V
  | .r0 r0 => .bool r0
theorem s130 (p0 : Int) : Sm 0 (g130 p0) (T130 p0) (n130)
  | .e => ⟨400, by kernel_rfl⟩
theorem q130 : ∀ r, bodyQ Tryz.prog Tryz.f130 (· = v130 r) (n130 r).1 (n130 r).2
  | .r0 r0 => bq (.bool r0) (by kernel_rfl)
theorem w130 (p0 : Int) {post : V → Prop} (h : WQ (T130 p0) v130 post .e) : PC 130 [iI p0] post :=
  PCalls.wq Tryz.func130 (s130 p0) q130 h
theorem c130 (n : Int) : PC 130 [iI n] (· = .bool (lasting n)) := by
  refine w130 _ (WP.step ?_)
  simp only [T130, Go, Ends', v130, Tr.sure, SS]
  repeat' with_reducible first | intro _ | apply And.intro
  all_goals simp [lasting, Go, Ends', v130, -List.getD_eq_getElem?_getD, *]
inductive P127
  | e
inductive R127
  | r0 (r0 : Bool)
noncomputable def T127 (p0 : Shop) (p1 : Claim) : P127 → Tr P127 R127
  | .e => let c1 := (p0.heads.length : Int) - (1 : Int); let c2 := (p0.moulds.length : Int) - (1 : Int); let c3 := p0.features - (1 : Int); let c4 := within p1.mould 0 c2; let c5 := within p1.a 0 c1; let c6 : Tr P127 R127 := .out (.r0 false); let c7 : List V := [iI p1.mould, iI 0, iI c2]; (.front [] [] (((inR .i64 c1) && ((inR .i64 c2) && true)) && true) true (.call 128 [iI p1.kind] (.bool (pair p1.kind)) true true (.br (pair p1.kind) (.call 61 [iI p1.a, iI 0, iI c1] (.bool c5) true true (.br c5 (.call 61 [iI p1.b, iI 0, iI c1] (.bool (within p1.b 0 c1)) true true (.out (.r0 (within p1.b 0 c1)))) c6)) (.call 130 [iI p1.kind] (.bool (lasting p1.kind)) true true (.br (lasting p1.kind) (.call 61 c7 (.bool c4) true true (.br c4 (.need (inR .i64 c3) (.call 61 [iI p1.feature, iI 0, iI c3] (.bool (within p1.feature 0 c3)) true true (.out (.r0 (within p1.feature 0 c3))))) c6)) (.call 61 [iI p1.a, iI 0, iI c1] (.bool c5) true true (.br c5 (.call 61 c7 (.bool c4) true true (.out (.r0 c4))) c6)))))))
noncomputable def g127 (p0 : Shop) (p1 : Claim) : P127 → List Item × St
  | .e => bd Tryz.f127 [.agg [iI p0.features, tMould.lst p0.moulds, tHead.lst p0.heads], .agg [iI p1.own, iI p1.kind, iI p1.a, iI p1.b, iI p1.mould, iI p1.feature, iI p1.number, iI p1.worth]] 51
noncomputable def n127 : R127 → Exit × St
  | .r0 r0 => (.ret, ⟨mk 53 [(4, .bool r0)], [], []⟩)
noncomputable def v127 : R127 → V
  | .r0 r0 => .bool r0
theorem s127 (p0 : Shop) (p1 : Claim) : Sm 0 (g127 p0 p1) (T127 p0 p1) (n127)
  | .e => ⟨400, by kernel_rfl⟩
theorem q127 : ∀ r, bodyQ Tryz.prog Tryz.f127 (· = v127 r) (n127 r).1 (n127 r).2
  | .r0 r0 => bq (.bool r0) (by kernel_rfl)
theorem w127 (p0 : Shop) (p1 : Claim) {post : V → Prop} (h : WQ (T127 p0 p1) v127 post .e) : PC 127 [.agg [iI p0.features, tMould.lst p0.moulds, tHead.lst p0.heads], .agg [iI p1.own, iI p1.kind, iI p1.a, iI p1.b, iI p1.mould, iI p1.feature, iI p1.number, iI p1.worth]] post :=
  PCalls.wq Tryz.func127 (s127 p0 p1) q127 h
theorem c127 (s : Shop) (x : Claim) (h1 : s.heads.length ≤ 4) (h2 : s.moulds.length ≤ 2) (h3 : within s.features 1 4 = true) : PC 127 [.agg (tShop.cells s), .agg (tClaim.cells x)] (· = .bool (named s x)) := by
  have i1 : inR .i64 ((s.heads.length : Int) - 1) = true := inR64 (by omega) (by omega)
  have i2 : inR .i64 ((s.moulds.length : Int) - 1) = true := inR64 (by omega) (by omega)
  have i3 : inR .i64 (s.features - 1) = true := by rw [within_iff] at h3; exact inR64 (by omega) (by omega)
  refine w127 _ _ (WP.step ?_)
  simp only [T127, Go, Ends', v127, Tr.sure, SS]
  repeat' with_reducible first | intro _ | apply And.intro
  all_goals first | exact c128 _ | exact c130 _ | exact c61 _ _ _ | (simp [named, index, Go, Ends', v127, -List.getD_eq_getElem?_getD, *]; done)
inductive P129
  | e
inductive R129
  | r0 (r0 : Bool)
noncomputable def T129 (p0 : Claim) : P129 → Tr P129 R129
  | .e => let c1 : Tr P129 R129 := .out (.r0 false); (.call 128 [iI p0.kind] (.bool (pair p0.kind)) true true (.br (pair p0.kind) (.br (p0.mould == (0 : Int)) (.br (p0.feature == (0 : Int)) (.out (.r0 (p0.number == (0 : Int)))) c1) (.lit false c1)) (.call 130 [iI p0.kind] (.bool (lasting p0.kind)) true true (.br (lasting p0.kind) (.br (p0.a == (0 : Int)) (.out (.r0 (p0.b == (0 : Int)))) c1) (.br (p0.b == (0 : Int)) (.out (.r0 (p0.feature == (0 : Int)))) c1)))))
noncomputable def g129 (p0 : Claim) : P129 → List Item × St
  | .e => bd Tryz.f129 [.agg [iI p0.own, iI p0.kind, iI p0.a, iI p0.b, iI p0.mould, iI p0.feature, iI p0.number, iI p0.worth]] 37
noncomputable def n129 : R129 → Exit × St
  | .r0 r0 => (.ret, ⟨mk 38 [(2, .bool r0)], [], []⟩)
noncomputable def v129 : R129 → V
  | .r0 r0 => .bool r0
theorem s129 (p0 : Claim) : Sm 0 (g129 p0) (T129 p0) (n129)
  | .e => ⟨400, by kernel_rfl⟩
theorem q129 : ∀ r, bodyQ Tryz.prog Tryz.f129 (· = v129 r) (n129 r).1 (n129 r).2
  | .r0 r0 => bq (.bool r0) (by kernel_rfl)
theorem w129 (p0 : Claim) {post : V → Prop} (h : WQ (T129 p0) v129 post .e) : PC 129 [.agg [iI p0.own, iI p0.kind, iI p0.a, iI p0.b, iI p0.mould, iI p0.feature, iI p0.number, iI p0.worth]] post :=
  PCalls.wq Tryz.func129 (s129 p0) q129 h
theorem c129 (x : Claim) : PC 129 [.agg (tClaim.cells x)] (· = .bool (spare x)) := by
  refine w129 _ (WP.step ?_)
  simp only [T129, Go, Ends', v129, Tr.sure, SS]
  repeat' with_reducible first | intro _ | apply And.intro
  all_goals first | exact c128 _ | exact c130 _ | (simp [spare, Go, Ends', v129, -List.getD_eq_getElem?_getD, *]; done)
theorem data_get (s : ByteArray) (i : Nat) : s.data.getD i 0 = s.data.toList.getD i 0 := by simp
theorem inR8 (c : UInt8) : inR .i64 (c.toNat : Int) = true := inR64 (by omega) (by have := c.toNat_lt; omega)
inductive P179
  | e
  | l0 (x0_3 : Int)
inductive R179
  | r0 (r0 : Bool)
noncomputable def T179 (p0 : ByteArray) : P179 → Tr P179 R179
  | .e => (.br ((p0.size : Int) == (0 : Int)) (.lit true (.out (.r0 false))) (.br (decide ((p0.size : Int) > (16 : Int))) (.out (.r0 false)) (.go (.l0 0))))
  | .l0 x0_3 => let c1 := ((p0.data.getD (x0_3).toNat 0).toNat : Int); let c2 : Tr P179 R179 := .need (inR .i64 (x0_3 + (1 : Int))) (.go (.l0 (x0_3 + (1 : Int)))); let c3 := decide (0 ≤ x0_3) && decide (x0_3 < (p0.size : Int)); let c4 : Tr P179 R179 := .lit true (.lit true (.out (.r0 false))); let c5 := within c1 97 122; let c6 : Tr P179 R179 := .lit false (.lit false c2); (.br (decide (x0_3 < (p0.size : Int))) (.need c3 (.need (inR .i64 c1) (.call 123 [iI c1, iI 97, iI 122] (.bool c5) true true (.need c3 (.need (inR .i64 c1) (.call 123 [iI c1, iI 48, iI 57] (.bool (within c1 48 57)) true true (.br (within c1 48 57) (.br (!c5) (.br (x0_3 == (0 : Int)) c4 (.lit true (.lit false c2))) c6) (.need c3 (.br (!c5) (.br (x0_3 == (0 : Int)) c4 (.lit true (.br (!(c1 == (46 : Int))) (.out (.r0 false)) c2))) c6))))))))) (.out (.r0 true)))
noncomputable def g179 (p0 : ByteArray) : P179 → List Item × St
  | .e => bd Tryz.f179 [.str p0] 45
  | .l0 x0_3 => (cutOf Tryz.f179 0, ⟨mk 46 [(0, .str p0), (2, .bool false), (3, iI x0_3)], [], []⟩)
noncomputable def n179 : R179 → Exit × St
  | .r0 r0 => (.ret, ⟨mk 46 [(2, .bool r0)], [], []⟩)
noncomputable def v179 : R179 → V
  | .r0 r0 => .bool r0
theorem s179 (p0 : ByteArray) : Sm 0 (g179 p0) (T179 p0) (n179)
  | .e => ⟨400, by kernel_rfl⟩
  | .l0 _ => ⟨400, by kernel_rfl⟩
theorem q179 : ∀ r, bodyQ Tryz.prog Tryz.f179 (· = v179 r) (n179 r).1 (n179 r).2
  | .r0 r0 => bq (.bool r0) (by kernel_rfl)
theorem w179 (p0 : ByteArray) {post : V → Prop} (h : WQ (T179 p0) v179 post .e) : PC 179 [.str p0] post :=
  PCalls.wq Tryz.func179 (s179 p0) q179 h
theorem c179 (s : ByteArray) : PC 179 [.str s] (· = .bool (nameOk s)) := by
  refine w179 _ (WP.step ?_)
  simp only [T179, Tr.sure, Go, Ends', v179]
  refine ⟨fun h => ?_, fun h0 => ⟨fun h => ?_, fun h1 => ?_⟩⟩
  · simp at h; simp [nameOk, h]
  · simp at h; simp [nameOk]; omega
  simp only [beq_eq_false_iff_ne, ne_eq, decide_eq_false_iff_not, Int.not_lt, gt_iff_lt] at h0 h1
  have hs : s.size ≤ 16 := by omega
  have hn : nameOk s = nameFrom true s.data.toList := by
    have h0' : s.size ≠ 0 := by omega
    simp [nameOk, hs, h0']
  refine WP.count (fun i => .l0 i) rfl s.size (fun i => nameFrom true s.data.toList = nameFrom (i == 0) (s.data.toList.drop i)) rfl (fun i hi hI => ?_) fun hI => ?_
  · have hd := drop_cons 0 s.data.toList i hi
    have hr : inR .i64 ((i : Int) + 1) = true := inR64 (by omega) (by omega)
    have hc := inR8 (s.data.toList.getD i 0)
    rw [hd] at hI
    simp only [nameFrom] at hI
    generalize hg : s.data.toList.getD i 0 = c at *
    refine WP.once ?_
    simp only [T179, Tr.sure, SS, hi, data_get, hg]
    repeat' with_reducible first | intro _ | apply And.intro
    all_goals first | exact c123 _ _ _ | (simp [hr, hc, hI, hn, letter, other, Go, Ends', v179, -List.getD_eq_getElem?_getD, *]; done)
  · have he : nameFrom (s.size == 0) (s.data.toList.drop s.size) = true := by rw [← data_len, List.drop_length]; rfl
    refine WP.step ?_
    simp only [T179, Go, Ends', v179, Tr.sure, SS]
    repeat' with_reducible first | intro _ | apply And.intro
    all_goals simp [hn, hI, he, Go, Ends', v179, -List.getD_eq_getElem?_getD, *]
theorem tstr_zero : tstr.zero = ByteArray.empty := rfl
inductive P180
  | e
  | l0 (x0_5 : Int)
inductive R180
  | r0 (r0 : Int)
noncomputable def T180 (p0 : List ByteArray) (p1 : ByteArray) : P180 → Tr P180 R180
  | .e => (.go (.l0 0))
  | .l0 x0_5 => let c1 := x0_5 < (p0.length : Int); (.br (decide c1) (.need (decide (0 ≤ x0_5) && decide c1) (.br ((p0.getD (x0_5).toNat tstr.zero).toList == p1.toList) (.out (.r0 x0_5)) (.need (inR .i64 (x0_5 + (1 : Int))) (.go (.l0 (x0_5 + (1 : Int))))))) (.out (.r0 (-1))))
noncomputable def g180 (p0 : List ByteArray) (p1 : ByteArray) : P180 → List Item × St
  | .e => bd Tryz.f180 [tstr.lst p0, .str p1] 17
  | .l0 x0_5 => (cutOf Tryz.f180 0, ⟨mk 19 [(0, tstr.lst p0), (1, .str p1), (4, iI 0), (5, iI x0_5)], [], []⟩)
noncomputable def n180 : R180 → Exit × St
  | .r0 r0 => (.ret, ⟨mk 19 [(4, iI r0)], [], []⟩)
noncomputable def v180 : R180 → V
  | .r0 r0 => iI r0
theorem s180 (p0 : List ByteArray) (p1 : ByteArray) : Sm 0 (g180 p0 p1) (T180 p0 p1) (n180)
  | .e => ⟨400, by kernel_rfl⟩
  | .l0 _ => ⟨400, by kernel_rfl⟩
theorem q180 : ∀ r, bodyQ Tryz.prog Tryz.f180 (· = v180 r) (n180 r).1 (n180 r).2
  | .r0 r0 => bq (iI r0) (by kernel_rfl)
theorem w180 (p0 : List ByteArray) (p1 : ByteArray) {post : V → Prop} (h : WQ (T180 p0 p1) v180 post .e) : PC 180 [tstr.lst p0, .str p1] post :=
  PCalls.wq Tryz.func180 (s180 p0 p1) q180 h
theorem c180 (l : List ByteArray) (n : ByteArray) (h : l.length ≤ 4) : PC 180 [tstr.lst l, .str n] (· = iI (indexS l n)) := by
  refine w180 _ _ (WP.step ?_)
  simp only [T180, Go, Ends', v180, Tr.sure, SS]
  repeat' with_reducible first | intro _ | apply And.intro
  refine WP.findI (fun i => .l0 i) rfl l ByteArray.empty (fun o => same o n) (fun i hi => ?_) fun hI => ?_
  · have hr : inR .i64 ((i : Int) + 1) = true := inR64 (by omega) (by omega)
    refine WP.once ?_
    simp only [T180, Tr.sure, SS, hi]
    repeat' with_reducible first | intro _ | apply And.intro
    all_goals first | (simp [hr, same, tstr_zero, indexS, Go, Ends', v180, -List.getD_eq_getElem?_getD, *]; done) | (simp_all [hr, same, tstr_zero, indexS, Go, Ends', v180, -List.getD_eq_getElem?_getD]; done)
  · refine WP.step ?_
    simp only [T180, Go, Ends', v180, Tr.sure, SS]
    repeat' with_reducible first | intro _ | apply And.intro
    all_goals simp [hI, indexS, Go, Ends', v180, -List.getD_eq_getElem?_getD, *]
theorem indexS_ge (l : List ByteArray) (n : ByteArray) : (0 ≤ indexS l n) ↔ l.any (fun o => same o n) = true := by
  rw [← firstI_any _ l 0, indexS]
  cases firstI (fun o => same o n) 0 l <;> simp
inductive P124
  | e
inductive R124
  | r0 (r0 : Int)
noncomputable def T124 (p0 : ByteArray) (p1 : List ByteArray) : P124 → Tr P124 R124
  | .e => (.call 179 [.str p0] (.bool (nameOk p0)) true true (.br (!(nameOk p0)) (.out (.r0 6)) (.call 180 [tstr.lst p1, .str p0] (iI (indexS p1 p0)) true true (.br (decide ((indexS p1 p0) ≥ (0 : Int))) (.out (.r0 5)) (.out (.r0 0))))))
noncomputable def g124 (p0 : ByteArray) (p1 : List ByteArray) : P124 → List Item × St
  | .e => bd Tryz.f124 [.str p0, tstr.lst p1] 10
noncomputable def n124 : R124 → Exit × St
  | .r0 r0 => (.ret, ⟨mk 12 [(4, iI r0)], [], []⟩)
noncomputable def v124 : R124 → V
  | .r0 r0 => iI r0
theorem s124 (p0 : ByteArray) (p1 : List ByteArray) : Sm 0 (g124 p0 p1) (T124 p0 p1) (n124)
  | .e => ⟨400, by kernel_rfl⟩
theorem q124 : ∀ r, bodyQ Tryz.prog Tryz.f124 (· = v124 r) (n124 r).1 (n124 r).2
  | .r0 r0 => bq (iI r0) (by kernel_rfl)
theorem w124 (p0 : ByteArray) (p1 : List ByteArray) {post : V → Prop} (h : WQ (T124 p0 p1) v124 post .e) : PC 124 [.str p0, tstr.lst p1] post :=
  PCalls.wq Tryz.func124 (s124 p0 p1) q124 h
theorem c124 (n : ByteArray) (l : List ByteArray) (h : l.length ≤ 4) : PC 124 [.str n, tstr.lst l] (· = iI (newErr n l)) := by
  have hi := indexS_ge l n
  refine w124 _ _ (WP.step ?_)
  simp only [T124, Go, Ends', v124, Tr.sure, SS]
  repeat' with_reducible first | intro _ | apply And.intro
  all_goals first | exact c179 _ | exact c180 _ _ h | (simp [newErr, Go, Ends', v124, -List.getD_eq_getElem?_getD, *]; done) | (simp_all [newErr, Go, Ends', v124, -List.getD_eq_getElem?_getD]; done)
inductive P181
  | e
inductive R181
  | r0 (r0 : Int)
noncomputable def T181 (p0 : Span) (p1 : Int) (p2 : Int) : P181 → Tr P181 R181
  | .e => (.call 123 [iI p0.lo, iI p1, iI p2] (.bool (within p0.lo p1 p2)) true true (.br (!(within p0.lo p1 p2)) (.lit true (.out (.r0 7))) (.call 123 [iI p0.hi, iI p1, iI p2] (.bool (within p0.hi p1 p2)) true true (.br (!(within p0.hi p1 p2)) (.out (.r0 7)) (.br (decide (p0.hi < p0.lo)) (.out (.r0 2)) (.out (.r0 0)))))))
noncomputable def g181 (p0 : Span) (p1 : Int) (p2 : Int) : P181 → List Item × St
  | .e => bd Tryz.f181 [.agg [iI p0.lo, iI p0.hi], iI p1, iI p2] 23
noncomputable def n181 : R181 → Exit × St
  | .r0 r0 => (.ret, ⟨mk 26 [(6, iI r0)], [], []⟩)
noncomputable def v181 : R181 → V
  | .r0 r0 => iI r0
theorem s181 (p0 : Span) (p1 : Int) (p2 : Int) : Sm 0 (g181 p0 p1 p2) (T181 p0 p1 p2) (n181)
  | .e => ⟨400, by kernel_rfl⟩
theorem q181 : ∀ r, bodyQ Tryz.prog Tryz.f181 (· = v181 r) (n181 r).1 (n181 r).2
  | .r0 r0 => bq (iI r0) (by kernel_rfl)
theorem w181 (p0 : Span) (p1 : Int) (p2 : Int) {post : V → Prop} (h : WQ (T181 p0 p1 p2) v181 post .e) : PC 181 [.agg [iI p0.lo, iI p0.hi], iI p1, iI p2] post :=
  PCalls.wq Tryz.func181 (s181 p0 p1 p2) q181 h
theorem c181 (x : Span) (a b : Int) : PC 181 [.agg (tSpan.cells x), iI a, iI b] (· = iI (endsErr x a b)) := by
  refine w181 _ _ _ (WP.step ?_)
  simp only [T181, Go, Ends', v181, Tr.sure, SS]
  repeat' with_reducible first | intro _ | apply And.intro
  all_goals first | exact c123 _ _ _ | (simp [endsErr, Go, Ends', v181, -List.getD_eq_getElem?_getD, *]; done)
inductive P125
  | e
  | l0 (x0_5 : Int)
inductive R125
  | r0 (r0 : Int)
noncomputable def T125 (p0 : Shop) (p1 : Mould) : P125 → Tr P125 R125
  | .e => (.call 123 [iI p1.casts, iI 1, iI 4] (.bool (within p1.casts 1 4)) true true (.br (!(within p1.casts 1 4)) (.out (.r0 7)) (.br ((p1.lasts.length : Int) != p0.features) (.out (.r0 3)) (.go (.l0 0)))))
  | .l0 x0_5 => let c1 := p1.lasts.getD (x0_5).toNat tSpan.zero; let c2 := x0_5 < (p1.lasts.length : Int); let c3 := endsErr c1 0 6; (.br (decide c2) (.need (decide (0 ≤ x0_5) && decide c2) (.call 181 [.agg [iI (c1.lo), iI (c1.hi)], iI 0, iI 6] (iI c3) true true (.br (c3 != (0 : Int)) (.out (.r0 c3)) (.need (inR .i64 (x0_5 + (1 : Int))) (.go (.l0 (x0_5 + (1 : Int)))))))) (.out (.r0 0)))
noncomputable def g125 (p0 : Shop) (p1 : Mould) : P125 → List Item × St
  | .e => bd Tryz.f125 [.agg [iI p0.features, tMould.lst p0.moulds, tHead.lst p0.heads], .agg [.str p1.name, iI p1.casts, tSpan.lst p1.lasts]] 31
  | .l0 x0_5 => (cutOf Tryz.f125 0, ⟨mk 33 [(3, .ref 1 0 0), (4, iI 0), (5, iI x0_5)], [.gone, .cells [.str p1.name, iI p1.casts, tSpan.lst p1.lasts]], []⟩)
noncomputable def n125 : R125 → Exit × St
  | .r0 r0 => (.ret, ⟨mk 33 [(4, iI r0)], [], []⟩)
noncomputable def v125 : R125 → V
  | .r0 r0 => iI r0
theorem s125 (p0 : Shop) (p1 : Mould) : Sm 0 (g125 p0 p1) (T125 p0 p1) (n125)
  | .e => ⟨400, by kernel_rfl⟩
  | .l0 _ => ⟨400, by kernel_rfl⟩
theorem q125 : ∀ r, bodyQ Tryz.prog Tryz.f125 (· = v125 r) (n125 r).1 (n125 r).2
  | .r0 r0 => bq (iI r0) (by kernel_rfl)
theorem w125 (p0 : Shop) (p1 : Mould) {post : V → Prop} (h : WQ (T125 p0 p1) v125 post .e) : PC 125 [.agg [iI p0.features, tMould.lst p0.moulds, tHead.lst p0.heads], .agg [.str p1.name, iI p1.casts, tSpan.lst p1.lasts]] post :=
  PCalls.wq Tryz.func125 (s125 p0 p1) q125 h
theorem c125 (s : Shop) (m : Mould) (h : within s.features 1 4 = true) : PC 125 [.agg (tShop.cells s), .agg (tMould.cells m)] (· = iI (mouldErr s.features m)) := by
  rw [within_iff] at h
  refine w125 _ _ (WP.step ?_)
  simp only [T125, Go, Ends', v125, Tr.sure, SS]
  repeat' with_reducible first | intro _ | apply And.intro
  all_goals first | exact c123 _ _ _ | (simp [mouldErr, Go, Ends', v125, -List.getD_eq_getElem?_getD, *]; done) | skip
  have hl : m.lasts.length ≤ 4 := by omega
  refine WP.findE (fun i => .l0 i) rfl m.lasts zSpan (fun _ x => spanErr x) (fun i hi => ?_) fun hI => ?_
  · have hr : inR .i64 ((i : Int) + 1) = true := inR64 (by omega) (by omega)
    refine WP.once ?_
    simp only [T125, Tr.sure, SS, hi, z4]
    repeat' with_reducible first | intro _ | apply And.intro
    all_goals first | exact c181 _ _ _ | (simp [hr, spanErr, mouldErr, lastsErr, Go, Ends', v125, -List.getD_eq_getElem?_getD, *]; done) | (simp_all [hr, spanErr, mouldErr, lastsErr, Go, Ends', v125, -List.getD_eq_getElem?_getD]; done)
  · refine WP.step ?_
    simp only [T125, Go, Ends', v125, Tr.sure, SS]
    repeat' with_reducible first | intro _ | apply And.intro
    all_goals simp [hI, mouldErr, lastsErr, Go, Ends', v125, -List.getD_eq_getElem?_getD, *]
inductive P126
  | e
  | l0 (x0_5 : Int)
inductive R126
  | r0 (r0 : Int)
noncomputable def T126 (p0 : Shop) (p1 : Head) : P126 → Tr P126 R126
  | .e => (.br ((p1.shows.length : Int) != p0.features) (.out (.r0 3)) (.go (.l0 0)))
  | .l0 x0_5 => let c1 := p1.shows.getD (x0_5).toNat tint.zero; let c2 := x0_5 < (p1.shows.length : Int); (.br (decide c2) (.need (decide (0 ≤ x0_5) && decide c2) (.call 123 [iI c1, iI 0, iI 2] (.bool (within c1 0 2)) true true (.br (!(within c1 0 2)) (.out (.r0 7)) (.need (inR .i64 (x0_5 + (1 : Int))) (.go (.l0 (x0_5 + (1 : Int)))))))) (.out (.r0 0)))
noncomputable def g126 (p0 : Shop) (p1 : Head) : P126 → List Item × St
  | .e => bd Tryz.f126 [.agg [iI p0.features, tMould.lst p0.moulds, tHead.lst p0.heads], .agg [.str p1.name, tint.lst p1.shows]] 24
  | .l0 x0_5 => (cutOf Tryz.f126 0, ⟨mk 26 [(3, .ref 1 0 0), (4, iI 0), (5, iI x0_5)], [.gone, .cells [.str p1.name, tint.lst p1.shows]], []⟩)
noncomputable def n126 : R126 → Exit × St
  | .r0 r0 => (.ret, ⟨mk 26 [(4, iI r0)], [], []⟩)
noncomputable def v126 : R126 → V
  | .r0 r0 => iI r0
theorem s126 (p0 : Shop) (p1 : Head) : Sm 0 (g126 p0 p1) (T126 p0 p1) (n126)
  | .e => ⟨400, by kernel_rfl⟩
  | .l0 _ => ⟨400, by kernel_rfl⟩
theorem q126 : ∀ r, bodyQ Tryz.prog Tryz.f126 (· = v126 r) (n126 r).1 (n126 r).2
  | .r0 r0 => bq (iI r0) (by kernel_rfl)
theorem w126 (p0 : Shop) (p1 : Head) {post : V → Prop} (h : WQ (T126 p0 p1) v126 post .e) : PC 126 [.agg [iI p0.features, tMould.lst p0.moulds, tHead.lst p0.heads], .agg [.str p1.name, tint.lst p1.shows]] post :=
  PCalls.wq Tryz.func126 (s126 p0 p1) q126 h
theorem c126 (s : Shop) (m : Head) (h : within s.features 1 4 = true) : PC 126 [.agg (tShop.cells s), .agg (tHead.cells m)] (· = iI (headErr s.features m)) := by
  rw [within_iff] at h
  refine w126 _ _ (WP.step ?_)
  simp only [T126, Go, Ends', v126, Tr.sure, SS]
  repeat' with_reducible first | intro _ | apply And.intro
  all_goals first | (simp [headErr, Go, Ends', v126, -List.getD_eq_getElem?_getD, *]; done) | skip
  have hl : m.shows.length ≤ 4 := by omega
  refine WP.findI (fun i => .l0 i) rfl m.shows 0 (fun n => !within n 0 2) (fun i hi => ?_) fun hI => ?_
  · have hr : inR .i64 ((i : Int) + 1) = true := inR64 (by omega) (by omega)
    have ha : firstI (fun n => !within n 0 2) 0 m.shows = some i → _ := any_of_firstI
    refine WP.once ?_
    simp only [T126, Tr.sure, SS, hi, z1]
    repeat' with_reducible first | intro _ | apply And.intro
    all_goals first | exact c123 _ _ _ | (simp [hr, headErr, Go, Ends', v126, -List.getD_eq_getElem?_getD, *]; done) | (simp_all [hr, headErr, Go, Ends', v126, -List.getD_eq_getElem?_getD]; done)
  · have ha := any_of_none hI
    refine WP.step ?_
    simp only [T126, Go, Ends', v126, Tr.sure, SS]
    repeat' with_reducible first | intro _ | apply And.intro
    all_goals simp [ha, headErr, Go, Ends', v126, -List.getD_eq_getElem?_getD, *]
end
noncomputable section
theorem map_take_len {τ υ : Type} (f : τ → υ) (l : List τ) (i : Nat) (hi : i ≤ l.length) : ((l.map f).take i).reverse.length = i := by simp; omega
theorem c124r (n : ByteArray) (l : List ByteArray) (h : l.length ≤ 4) : PC 124 [.str n, .list 1 l.reverse.length (rowsRev tstr l.reverse)] (· = iI (newErr n l)) :=
  PCalls.arg (pre := [.str n]) (c124 n l h) (by have := VLe.rev tstr l.reverse; rwa [List.reverse_reverse] at this)
inductive P60
  | e
  | l0 (x0_6 : Int) (a0_1 : List ByteArray)
  | l1 (x1_8 : Int) (a1_2 : List ByteArray)
inductive R60
  | r0 (r0 : Int) (r1 : Int) (r2 : Int)
noncomputable def T60 (p0 : Shop) : P60 → Tr P60 R60
  | .e => (.call 123 [iI p0.features, iI 1, iI 4] (.bool (within p0.features 1 4)) true true (.br (!(within p0.features 1 4)) (.out (.r0 1 0 7)) (.br (decide ((p0.moulds.length : Int) > (2 : Int))) (.out (.r0 2 0 3)) (.wait 3 (.own 5 9 1 (.go (.l0 0 ([]))))))))
  | .l0 x0_6 a0_1 => let c1 := p0.moulds.getD (x0_6).toNat tMould.zero; let c2 := decide (0 ≤ x0_6) && decide (x0_6 < (p0.moulds.length : Int)); let c3 := (decide (a0_1.length = a0_1.length) && decide (a0_1.length + 1 ≤ 4294967296)) && decide (1 ≤ 1); let c4 := newErr (c1.name) a0_1.reverse; let c5 : Tr P60 R60 := .need (inR .i64 (x0_6 + (1 : Int))) (.go (.l0 (x0_6 + (1 : Int)) (c1.name :: a0_1))); (.br (decide (x0_6 < (p0.moulds.length : Int))) (.need c2 (.call 124 [.str (c1.name), .list 1 a0_1.length (rowsRev tstr a0_1)] (iI c4) ((decide (a0_1.length ≤ a0_1.length)) && true) true (.br (c4 == (0 : Int)) (.front [] [] ((c2 && true) && true) true (.call 125 [.agg [iI p0.features, tMould.lst p0.moulds, tHead.lst p0.heads], .agg [.str (c1.name), iI (c1.casts), tSpan.lst (c1.lasts)]] (iI ((fun s m => mouldErr s.features m) p0 c1)) true true (.br (((fun s m => mouldErr s.features m) p0 c1) != (0 : Int)) (.out (.r0 2 x0_6 ((fun s m => mouldErr s.features m) p0 c1))) (.need c2 (.need c3 (.scal (fun _ => true) c5)))))) (.br (c4 != (0 : Int)) (.out (.r0 2 x0_6 c4)) (.need c2 (.need c3 (.scal (fun _ => true) c5))))))) (.br (decide ((p0.heads.length : Int) > (4 : Int))) (.out (.r0 3 0 3)) (.wait 3 (.own 5 9 1 (.go (.l1 0 ([])))))))
  | .l1 x1_8 a1_2 => let c1 := p0.heads.getD (x1_8).toNat tHead.zero; let c2 := decide (0 ≤ x1_8) && decide (x1_8 < (p0.heads.length : Int)); let c3 := (decide (a1_2.length = a1_2.length) && decide (a1_2.length + 1 ≤ 4294967296)) && decide (1 ≤ 1); let c4 := newErr (c1.name) a1_2.reverse; let c5 : Tr P60 R60 := .need (inR .i64 (x1_8 + (1 : Int))) (.go (.l1 (x1_8 + (1 : Int)) (c1.name :: a1_2))); (.br (decide (x1_8 < (p0.heads.length : Int))) (.need c2 (.call 124 [.str (c1.name), .list 1 a1_2.length (rowsRev tstr a1_2)] (iI c4) ((decide (a1_2.length ≤ a1_2.length)) && true) true (.br (c4 == (0 : Int)) (.front [] [] ((c2 && true) && true) true (.call 126 [.agg [iI p0.features, tMould.lst p0.moulds, tHead.lst p0.heads], .agg [.str (c1.name), tint.lst (c1.shows)]] (iI ((fun s m => headErr s.features m) p0 c1)) true true (.br (((fun s m => headErr s.features m) p0 c1) != (0 : Int)) (.out (.r0 3 x1_8 ((fun s m => headErr s.features m) p0 c1))) (.need c2 (.need c3 (.scal (fun _ => true) c5)))))) (.br (c4 != (0 : Int)) (.out (.r0 3 x1_8 c4)) (.need c2 (.need c3 (.scal (fun _ => true) c5))))))) (.out (.r0 0 0 0)))
noncomputable def g60 (p0 : Shop) : P60 → List Item × St
  | .e => bd Tryz.f60 [.agg [iI p0.features, tMould.lst p0.moulds, tHead.lst p0.heads]] 95
  | .l0 x0_6 a0_1 => (cutOf Tryz.f60 0, ⟨mk 96 [(1, .ref 0 0 0), (2, iI 0), (3, iI 0), (4, iI 0), (5, .row 1 a0_1.length), (6, iI x0_6)], [.cells [iI p0.features, tMould.lst p0.moulds, tHead.lst p0.heads], .rows 9 1 a0_1.length (rowsRev tstr a0_1)], []⟩)
  | .l1 x1_8 a1_2 => (cutOf Tryz.f60 1, ⟨mk 96 [(1, .ref 0 0 0), (2, iI 0), (3, iI 0), (4, iI 0), (5, .row 2 a1_2.length), (8, iI x1_8)], [.cells [iI p0.features, tMould.lst p0.moulds, tHead.lst p0.heads], .gone, .rows 9 1 a1_2.length (rowsRev tstr a1_2)], []⟩)
noncomputable def n60 : R60 → Exit × St
  | .r0 r0 r1 r2 => (.ret, ⟨mk 96 [(2, iI r0), (3, iI r1), (4, iI r2)], [], []⟩)
noncomputable def v60 : R60 → V
  | .r0 r0 r1 r2 => .tuple [iI r0, iI r1, iI r2]
theorem s60 (p0 : Shop) : Sm 0 (g60 p0) (T60 p0) (n60)
  | .e => ⟨400, by kernel_rfl⟩
  | .l0 _ _ => ⟨400, by kernel_rfl⟩
  | .l1 _ _ => ⟨400, by kernel_rfl⟩
theorem q60 : ∀ r, bodyQ Tryz.prog Tryz.f60 (· = v60 r) (n60 r).1 (n60 r).2
  | .r0 r0 r1 r2 => bq (.tuple [iI r0, iI r1, iI r2]) (by kernel_rfl)
theorem w60 (p0 : Shop) {post : V → Prop} (h : WQ (T60 p0) v60 post .e) : PC 60 [.agg [iI p0.features, tMould.lst p0.moulds, tHead.lst p0.heads]] post :=
  PCalls.wq Tryz.func60 (s60 p0) q60 h
theorem c60 (s : Shop) : PC 60 [.agg (tShop.cells s)] (· = .tuple [iI (shopCheck s).1, iI (shopCheck s).2.1, iI (shopCheck s).2.2]) := by
  refine w60 _ (WP.step ?_)
  simp only [T60, Go, Ends', v60, Tr.sure, SS]
  repeat' with_reducible first | intro _ | apply And.intro
  all_goals first | exact c123 _ _ _ | (simp [shopCheck, Go, Ends', v60, -List.getD_eq_getElem?_getD, *]; done) | skip
  rename_i h1 h2
  have hm : s.moulds.length ≤ 2 := by omega
  refine WP.findE (fun i => .l0 i (((s.moulds.map (·.name)).take i).reverse)) rfl s.moulds zMould (mouldAt s) (fun i hi => ?_) fun hI => ?_
  · have hr : inR .i64 ((i : Int) + 1) = true := inR64 (by omega) (by omega)
    have hl := map_take_len (·.name) s.moulds i (by omega)
    have hl' : ((s.moulds.map (·.name)).take i).length ≤ 4 := by simp; omega
    have ht := rev_take' (·.name) zMould s.moulds i hi
    have hb : i + 1 ≤ 4294967296 := by omega
    refine WP.once ?_
    simp only [T60, Tr.sure, SS, hi, z2, List.reverse_reverse]
    repeat' with_reducible first | intro _ | apply And.intro
    all_goals first | exact c124r _ _ hl' | exact c125 _ _ h1 | (simp [hr, shopCheck, mouldAt, ht, hb, hl, Go, Ends', v60, -List.getD_eq_getElem?_getD, *]; done) | (simp_all [hr, shopCheck, mouldAt, ht, hb, hl, Go, Ends', v60, -List.getD_eq_getElem?_getD]; done) | (simp +contextual [hr, shopCheck, mouldAt, ht, hb, hl, Go, Ends', v60, -List.getD_eq_getElem?_getD, *]; done)
    all_goals simp +contextual [shopCheck, mouldAt, Go, Ends', v60, -List.getD_eq_getElem?_getD, *]
  · refine WP.step ?_
    simp only [T60, Go, Ends', v60, Tr.sure, SS, z2]
    repeat' with_reducible first | intro _ | apply And.intro
    all_goals first | (simp [shopCheck, hI, Go, Ends', v60, -List.getD_eq_getElem?_getD, *]; done) | skip
    rename_i h3
    have hm : s.heads.length ≤ 4 := by omega
    refine WP.findE (fun i => .l1 i (((s.heads.map (·.name)).take i).reverse)) rfl s.heads zHead (headAt s) (fun i hi => ?_) fun hI => ?_
    · have hr : inR .i64 ((i : Int) + 1) = true := inR64 (by omega) (by omega)
      have hl := map_take_len (·.name) s.heads i (by omega)
      have hl' : ((s.heads.map (·.name)).take i).length ≤ 4 := by simp; omega
      have ht := rev_take' (·.name) zHead s.heads i hi
      have hb : i + 1 ≤ 4294967296 := by omega
      refine WP.once ?_
      simp only [T60, Tr.sure, SS, hi, z3, List.reverse_reverse]
      repeat' with_reducible first | intro _ | apply And.intro
      all_goals first | exact c124r _ _ hl' | exact c126 _ _ h1 | (simp [hr, shopCheck, headAt, ht, hb, hl, Go, Ends', v60, -List.getD_eq_getElem?_getD, *]; done) | (simp_all [hr, shopCheck, headAt, ht, hb, hl, Go, Ends', v60, -List.getD_eq_getElem?_getD]; done) | (simp +contextual [hr, shopCheck, headAt, ht, hb, hl, Go, Ends', v60, -List.getD_eq_getElem?_getD, *]; done)
    · refine WP.step ?_
      simp only [T60, Go, Ends', v60, Tr.sure, SS]
      repeat' with_reducible first | intro _ | apply And.intro
      all_goals simp [shopCheck, hI, Go, Ends', v60, -List.getD_eq_getElem?_getD, *]
inductive P62
  | e
inductive R62
  | r0 (r0 : Int)
noncomputable def T62 (p0 : Shop) (p1 : Claim) : P62 → Tr P62 R62
  | .e => let c2 : Tr P62 R62 := .lit true (.out (.r0 7)); let c1 : Tr P62 R62 := .call 129 [.agg [iI p1.own, iI p1.kind, iI p1.a, iI p1.b, iI p1.mould, iI p1.feature, iI p1.number, iI p1.worth]] (.bool (spare p1)) true true (.br (!(spare p1)) (.out (.r0 2)) (.br (p1.kind == (0 : Int)) (.br (!(within p1.number 1 ((p0.moulds.getD (p1.mould).toNat tMould.zero).casts))) (.front [(13, 61, [iI p1.number, iI 1, iI ((p0.moulds.getD (p1.mould).toNat tMould.zero).casts)], .bool (within p1.number 1 ((p0.moulds.getD (p1.mould).toNat tMould.zero).casts)))] [(3, true), (16, true)] ((((p1.kind == (0 : Int)) == true) && ((decide (0 ≤ p1.mould) && decide (p1.mould < (p0.moulds.length : Int))) && (((!(within p1.number 1 ((p0.moulds.getD (p1.mould).toNat tMould.zero).casts))) == true) && true))) && true) true c2) (.br (lasting p1.kind) (.front [(13, 61, [iI p1.number, iI 1, iI ((p0.moulds.getD (p1.mould).toNat tMould.zero).casts)], .bool (within p1.number 1 ((p0.moulds.getD (p1.mould).toNat tMould.zero).casts))), (19, 130, [iI p1.kind], .bool (lasting p1.kind)), (23, 61, [iI p1.number, iI 1, iI 6], .bool (within p1.number 1 6))] [(3, true), (16, false), (20, true)] ((((p1.kind == (0 : Int)) == true) && ((decide (0 ≤ p1.mould) && decide (p1.mould < (p0.moulds.length : Int))) && (((!(within p1.number 1 ((p0.moulds.getD (p1.mould).toNat tMould.zero).casts))) == false) && (((lasting p1.kind) == true) && true)))) && true) true (.br (!(within p1.number 1 6)) (.out (.r0 7)) (.out (.r0 0)))) (.front [(13, 61, [iI p1.number, iI 1, iI ((p0.moulds.getD (p1.mould).toNat tMould.zero).casts)], .bool (within p1.number 1 ((p0.moulds.getD (p1.mould).toNat tMould.zero).casts))), (19, 130, [iI p1.kind], .bool (lasting p1.kind))] [(3, true), (16, false), (20, false)] ((((p1.kind == (0 : Int)) == true) && ((decide (0 ≤ p1.mould) && decide (p1.mould < (p0.moulds.length : Int))) && (((!(within p1.number 1 ((p0.moulds.getD (p1.mould).toNat tMould.zero).casts))) == false) && (((lasting p1.kind) == false) && true)))) && true) true (.lit false (.out (.r0 0)))))) (.br (lasting p1.kind) (.front [(19, 130, [iI p1.kind], .bool (lasting p1.kind)), (23, 61, [iI p1.number, iI 1, iI 6], .bool (within p1.number 1 6))] [(3, false), (20, true)] ((((p1.kind == (0 : Int)) == false) && (((lasting p1.kind) == true) && true)) && true) true (.br (!(within p1.number 1 6)) (.out (.r0 7)) (.out (.r0 0)))) (.front [(19, 130, [iI p1.kind], .bool (lasting p1.kind))] [(3, false), (20, false)] ((((p1.kind == (0 : Int)) == false) && (((lasting p1.kind) == false) && true)) && true) true (.lit false (.out (.r0 0))))))); (.call 61 [iI p1.own, iI 0, iI 1] (.bool (within p1.own 0 1)) true true (.br (!(within p1.own 0 1)) (.lit true c2) (.call 61 [iI p1.worth, iI 1, iI 100] (.bool (within p1.worth 1 100)) true true (.br (!(within p1.worth 1 100)) c2 (.call 61 [iI p1.kind, iI 0, iI 5] (.bool (within p1.kind 0 5)) true true (.br (!(within p1.kind 0 5)) (.out (.r0 7)) (.call 127 [.agg [iI p0.features, tMould.lst p0.moulds, tHead.lst p0.heads], .agg [iI p1.own, iI p1.kind, iI p1.a, iI p1.b, iI p1.mould, iI p1.feature, iI p1.number, iI p1.worth]] (.bool (named p0 p1)) true true (.br (!(named p0 p1)) (.out (.r0 4)) (.call 128 [iI p1.kind] (.bool (pair p1.kind)) true true (.br (pair p1.kind) (.br (p1.a == p1.b) (.lit true (.out (.r0 2))) c1) (.lit false c1)))))))))))
noncomputable def g62 (p0 : Shop) (p1 : Claim) : P62 → List Item × St
  | .e => bd Tryz.f62 [.agg [iI p0.features, tMould.lst p0.moulds, tHead.lst p0.heads], .agg [iI p1.own, iI p1.kind, iI p1.a, iI p1.b, iI p1.mould, iI p1.feature, iI p1.number, iI p1.worth]] 65
noncomputable def n62 : R62 → Exit × St
  | .r0 r0 => (.ret, ⟨mk 67 [(4, iI r0)], [], []⟩)
noncomputable def v62 : R62 → V
  | .r0 r0 => iI r0
theorem s62 (p0 : Shop) (p1 : Claim) : Sm 0 (g62 p0 p1) (T62 p0 p1) (n62)
  | .e => ⟨400, by kernel_rfl⟩
theorem q62 : ∀ r, bodyQ Tryz.prog Tryz.f62 (· = v62 r) (n62 r).1 (n62 r).2
  | .r0 r0 => bq (iI r0) (by kernel_rfl)
theorem w62 (p0 : Shop) (p1 : Claim) {post : V → Prop} (h : WQ (T62 p0 p1) v62 post .e) : PC 62 [.agg [iI p0.features, tMould.lst p0.moulds, tHead.lst p0.heads], .agg [iI p1.own, iI p1.kind, iI p1.a, iI p1.b, iI p1.mould, iI p1.feature, iI p1.number, iI p1.worth]] post :=
  PCalls.wq Tryz.func62 (s62 p0 p1) q62 h
theorem c62 (s : Shop) (x : Claim) (h1 : s.heads.length ≤ 4) (h2 : s.moulds.length ≤ 2) (h3 : within s.features 1 4 = true) : PC 62 [.agg (tShop.cells s), .agg (tClaim.cells x)] (· = iI (claimErr s x)) := by
  have hm : x.kind = 0 → named s x = true → 0 ≤ x.mould ∧ x.mould < (s.moulds.length : Int) := fun hk hn => by
    simp [named, hk, pair, lasting] at hn; exact index_iff.1 hn.2
  refine w62 _ _ (WP.step ?_)
  simp only [T62, Go, Ends', v62, Tr.sure, SS]
  repeat' with_reducible first | intro _ | apply And.intro
  all_goals first | exact c61 _ _ _ | exact c127 _ _ h1 h2 h3 | exact c128 _ | exact c129 _ | exact c130 _ | (simp [claimErr, Go, Ends', v62, -List.getD_eq_getElem?_getD, *]; done) | (simp_all [claimErr, Go, Ends', v62, -List.getD_eq_getElem?_getD]; done)
inductive P17
  | e
  | l0 (x0_8 : Int)
  | l1 (x1_7 : Int) (x1_9 : Int)
inductive R17
  | r0 (r0 : Int) (r1 : Int) (r2 : Int)
noncomputable def T17 (p0 : Case) : P17 → Tr P17 R17
  | .e => let c1 := shopCheck p0.shop; (.call 60 [.agg [iI p0.shop.features, tMould.lst p0.shop.moulds, tHead.lst p0.shop.heads]] (.tuple [iI (c1.1), iI (c1.2.1), iI (c1.2.2)]) true true (.br (c1.2.2 != (0 : Int)) (.out (.r0 1 0 (c1.2.2))) (.br ((p0.owners.length : Int) != (p0.shop.heads.length : Int)) (.out (.r0 2 0 3)) (.go (.l0 0)))))
  | .l0 x0_8 => let c1 := p0.owners.getD (x0_8).toNat tint.zero; let c2 := x0_8 < (p0.owners.length : Int); (.br (decide c2) (.need (decide (0 ≤ x0_8) && decide c2) (.call 61 [iI c1, iI 0, iI 1] (.bool (within c1 0 1)) true true (.br (!(within c1 0 1)) (.out (.r0 2 x0_8 7)) (.need (inR .i64 (x0_8 + (1 : Int))) (.go (.l0 (x0_8 + (1 : Int)))))))) (.br (decide ((p0.claims.length : Int) > (5 : Int))) (.out (.r0 3 0 3)) (.go (.l1 ((shopCheck p0.shop).2.2) 0))))
  | .l1 x1_7 x1_9 => let c1 := p0.claims.getD (x1_9).toNat tClaim.zero; let c2 := claimErr p0.shop c1; let c3 := x1_9 < (p0.claims.length : Int); (.br (decide c3) (.front [] [] (((decide (0 ≤ x1_9) && decide c3) && true) && true) true (.call 62 [.agg [iI p0.shop.features, tMould.lst p0.shop.moulds, tHead.lst p0.shop.heads], .agg [iI (c1.own), iI (c1.kind), iI (c1.a), iI (c1.b), iI (c1.mould), iI (c1.feature), iI (c1.number), iI (c1.worth)]] (iI c2) true true (.br (c2 != (0 : Int)) (.out (.r0 3 x1_9 c2)) (.need (inR .i64 (x1_9 + (1 : Int))) (.go (.l1 c2 (x1_9 + (1 : Int)))))))) (.out (.r0 0 0 0)))
noncomputable def g17 (p0 : Case) : P17 → List Item × St
  | .e => bd Tryz.f17 [.agg (cC p0)] 65
  | .l0 x0_8 => (cutOf Tryz.f17 0, ⟨mk 66 [(1, .ref 0 0 0), (2, iI 0), (3, iI 0), (4, iI 0), (7, iI ((shopCheck p0.shop).2.2)), (8, iI x0_8)], [.cells (cC p0)], []⟩)
  | .l1 x1_7 x1_9 => (cutOf Tryz.f17 1, ⟨mk 66 [(1, .ref 0 0 0), (2, iI 0), (3, iI 0), (4, iI 0), (7, iI x1_7), (9, iI x1_9)], [.cells (cC p0)], []⟩)
noncomputable def n17 : R17 → Exit × St
  | .r0 r0 r1 r2 => (.ret, ⟨mk 66 [(2, iI r0), (3, iI r1), (4, iI r2)], [], []⟩)
noncomputable def v17 : R17 → V
  | .r0 r0 r1 r2 => .tuple [iI r0, iI r1, iI r2]
theorem s17 (p0 : Case) : Sm 0 (g17 p0) (T17 p0) (n17)
  | .e => ⟨400, by kernel_rfl⟩
  | .l0 _ => ⟨400, by kernel_rfl⟩
  | .l1 _ _ => ⟨400, by kernel_rfl⟩
theorem q17 : ∀ r, bodyQ Tryz.prog Tryz.f17 (· = v17 r) (n17 r).1 (n17 r).2
  | .r0 r0 r1 r2 => bq (.tuple [iI r0, iI r1, iI r2]) (by kernel_rfl)
theorem w17 (p0 : Case) {post : V → Prop} (h : WQ (T17 p0) v17 post .e) : PC 17 [.agg (cC p0)] post :=
  PCalls.wq Tryz.func17 (s17 p0) q17 h
theorem c17 (c : Case) : PC 17 [.agg (tCase.cells c)] (· = .tuple [iI (caseCheck c).1, iI (caseCheck c).2.1, iI (caseCheck c).2.2]) := by
  refine w17 _ (WP.step ?_)
  simp only [T17, Go, Ends', v17, Tr.sure, SS]
  repeat' with_reducible first | intro _ | apply And.intro
  all_goals first | exact c60 _ | (simp [caseCheck, Go, Ends', v17, -List.getD_eq_getElem?_getD, *]; done) | skip
  rename_i h1 h2
  obtain ⟨⟨o1, o2⟩, o3, o4, -, -⟩ := okShop h1
  have o0 : within c.shop.features 1 4 = true := by rw [within_iff]; omega
  refine WP.findE (fun i => .l0 i) rfl c.owners 0 (fun _ n => if within n 0 1 = true then 0 else 7) (fun i hi => ?_) fun hI => ?_
  · have hr : inR .i64 ((i : Int) + 1) = true := inR64 (by omega) (by omega)
    refine WP.once ?_
    simp only [T17, Tr.sure, SS, hi, z1]
    repeat' with_reducible first | intro _ | apply And.intro
    all_goals first | exact c61 _ _ _ | (simp [hr, caseCheck, Go, Ends', v17, -List.getD_eq_getElem?_getD, *]; done) | (simp_all [hr, caseCheck, Go, Ends', v17, -List.getD_eq_getElem?_getD]; done)
  · refine WP.step ?_
    simp only [T17, Go, Ends', v17, Tr.sure, SS]
    repeat' with_reducible first | intro _ | apply And.intro
    all_goals first | (simp [caseCheck, hI, Go, Ends', v17, -List.getD_eq_getElem?_getD, *]; done) | skip
    rename_i h3
    refine WP.findE (fun i => .l1 0 i) (by rw [h1]; rfl) c.claims tClaim.zero (fun _ x => claimErr c.shop x) (fun i hi => ?_) fun hJ => ?_
    · have hr : inR .i64 ((i : Int) + 1) = true := inR64 (by omega) (by omega)
      refine WP.once ?_
      simp only [T17, Tr.sure, SS, hi]
      repeat' with_reducible first | intro _ | apply And.intro
      all_goals first | exact c62 _ _ o4 o3 o0 | (simp [hr, caseCheck, hI, Go, Ends', v17, -List.getD_eq_getElem?_getD, *]; done) | (simp +contextual [hr, caseCheck, hI, Go, Ends', v17, -List.getD_eq_getElem?_getD, *]; done)
    · refine WP.step ?_
      simp only [T17, Go, Ends', v17, Tr.sure, SS]
      repeat' with_reducible first | intro _ | apply And.intro
      all_goals simp [caseCheck, hI, hJ, Go, Ends', v17, -List.getD_eq_getElem?_getD, *]
end
end Go.Proofs.YtdamoemndifpmaaGreat
namespace Go.Proofs.YtdamoemndifpmaaGreat
open Ab Go
noncomputable section
inductive P102
  | e
  | l0 (x0_4 : Int) (a0_1 : List Cast)
  | l1 (x0_4 : Int) (x1_5 : Int) (a1_1 : List Cast)
inductive R102
  | r0 (r0 : List Cast)
noncomputable def T102 (p0 : Shop) : P102 → Tr P102 R102
  | .e => (.wait 4 (.own 3 84 2 (.go (.l0 0 ([])))))
  | .l0 x0_4 a0_1 => (.br (decide (x0_4 < (p0.moulds.length : Int))) (.go (.l1 x0_4 1 a0_1)) (.out (.r0 a0_1)))
  | .l1 x0_4 x1_5 a1_1 => (.need (decide (0 ≤ x0_4) && decide (x0_4 < (p0.moulds.length : Int))) (.br (decide (x1_5 ≤ (p0.moulds.getD (x0_4).toNat tMould.zero).casts)) (.need ((decide (a1_1.length = a1_1.length) && decide (a1_1.length + 1 ≤ 4294967296)) && decide (1 ≤ 1)) (.scal (fun _ => true) (.need (inR .i64 (x1_5 + (1 : Int))) (.go (.l1 x0_4 (x1_5 + (1 : Int)) ((⟨x0_4, x1_5⟩ : Cast) :: a1_1)))))) (.need (inR .i64 (x0_4 + (1 : Int))) (.go (.l0 (x0_4 + (1 : Int)) a1_1)))))
noncomputable def g102 (p0 : Shop) : P102 → List Item × St
  | .e => bd Tryz.f102 [.agg [iI p0.features, tMould.lst p0.moulds, tHead.lst p0.heads]] 29
  | .l0 x0_4 a0_1 => (cutOf Tryz.f102 0, ⟨mk 30 [(1, .ref 0 0 0), (2, .nils), (3, .row 1 a0_1.length), (4, iI x0_4)], [.cells [iI p0.features, tMould.lst p0.moulds, tHead.lst p0.heads], .rows 84 2 a0_1.length (rowsRev tCast a0_1)], []⟩)
  | .l1 x0_4 x1_5 a1_1 => (cutOf Tryz.f102 1, ⟨mk 30 [(1, .ref 0 0 0), (2, .nils), (3, .row 1 a1_1.length), (4, iI x0_4), (5, iI x1_5), (6, iI x0_4), (7, .ref 0 0 1), (8, tMould.lst p0.moulds), (9, iI (p0.moulds.length : Int)), (10, .bool (decide (x0_4 < (p0.moulds.length : Int))))], [.cells [iI p0.features, tMould.lst p0.moulds, tHead.lst p0.heads], .rows 84 2 a1_1.length (rowsRev tCast a1_1)], []⟩)
noncomputable def n102 : R102 → Exit × St
  | .r0 r0 => (.ret, ⟨mk 30 [(2, .row 1 r0.length)], [.gone, .rows 84 2 r0.length (rowsRev tCast r0)], []⟩)
noncomputable def v102 : R102 → V
  | .r0 r0 => tCast.lst r0.reverse
theorem s102 (p0 : Shop) : Sm 0 (g102 p0) (T102 p0) (n102)
  | .e => ⟨400, by kernel_rfl⟩
  | .l0 _ _ => ⟨400, by kernel_rfl⟩
  | .l1 _ _ _ => ⟨400, by kernel_rfl⟩
theorem q102 : ∀ r, bodyQ Tryz.prog Tryz.f102 (· = v102 r) (n102 r).1 (n102 r).2
  | .r0 r0 => ⟨.inr rfl, by simp [n102], (.row 1 r0.length), (tCast.lst r0.reverse), by kernel_rfl, (.weak (.row rfl (Nat.le_refl _)) (VLe.rev tCast r0)), rfl⟩
theorem w102 (p0 : Shop) {post : V → Prop} (h : WQ (T102 p0) v102 post .e) : PC 102 [.agg [iI p0.features, tMould.lst p0.moulds, tHead.lst p0.heads]] post :=
  PCalls.wq Tryz.func102 (s102 p0) q102 h
theorem c102 (s : Shop) (h : OkShop s) : PC 102 [.agg (tShop.cells s)] (· = tCast.lst (allCasts s)) := by
  have hm := h.nm
  refine w102 _ (WP.step ?_)
  simp only [T102, Go, Ends', v102, Tr.sure, SS]
  repeat' with_reducible first | intro _ | apply And.intro
  refine WP.run (fun i => .l0 i (((List.range i).flatMap (castsAt s)).reverse)) rfl s.moulds.length (fun i hi => ?_) ?_
  · have hr : inR .i64 ((i : Int) + 1) = true := inR64 (by omega) (by omega)
    have hc := (h.mould _ (getD_mem zMould s.moulds i hi)).1
    have hl : ((List.range i).flatMap (castsAt s)).length ≤ 8 := by
      have h1 := flat_le (l := List.range i) (f := castsAt s) (b := 4) fun j hj => by
        have := (h.mould _ (getD_mem zMould s.moulds j (by have := List.mem_range.1 hj; omega))).1
        simp only [castsAt, List.length_map, List.length_range]; omega
      simp only [List.length_range] at h1; omega
    refine WP.step ?_
    simp only [T102, Go, Ends', v102, Tr.sure, SS, hi]
    repeat' with_reducible first | intro _ | apply And.intro
    generalize hk : (s.moulds.getD i zMould).casts.toNat = k
    have hcat : castsAt s i = (List.range k).map fun (n : Nat) => ⟨(i : Int), (n : Int) + 1⟩ := by rw [← hk]; rfl
    refine WP.run (fun n => .l1 i ((n : Int) + 1) (((List.range n).map fun (n : Nat) => (⟨(i : Int), (n : Int) + 1⟩ : Cast)).reverse ++ ((List.range i).flatMap (castsAt s)).reverse)) rfl k (fun n hn => ?_) ?_
    · have hr' : inR .i64 ((n : Int) + 1 + 1) = true := inR64 (by omega) (by omega)
      have hn' : (n : Int) + 1 ≤ (s.moulds.getD i zMould).casts := by omega
      have hlen : (((List.range n).map fun (n : Nat) => (⟨(i : Int), (n : Int) + 1⟩ : Cast)).reverse ++ ((List.range i).flatMap (castsAt s)).reverse).length + 1 ≤ 4294967296 := by simp only [List.length_append, List.length_reverse, List.length_map, List.length_range]; omega
      refine WP.once ?_
      simp only [T102, Tr.sure, SS, hi, z2, hn']
      repeat' with_reducible first | intro _ | apply And.intro
      all_goals first | (simp [hr', hlen, List.range_succ, Go, Ends', v102, -List.getD_eq_getElem?_getD, *]; done) | (simp_all [hr', hlen, List.range_succ, Go, Ends', v102, -List.getD_eq_getElem?_getD]; done)
    · have hn' : ¬ (k : Int) + 1 ≤ (s.moulds.getD i zMould).casts := by omega
      have hfl : ((List.range (i + 1)).flatMap (castsAt s)).reverse = ((List.range k).map fun (n : Nat) => (⟨(i : Int), (n : Int) + 1⟩ : Cast)).reverse ++ ((List.range i).flatMap (castsAt s)).reverse := by
        rw [List.range_succ, List.flatMap_append, List.reverse_append, ← hcat]; simp
      refine WP.once ?_
      simp only [T102, Tr.sure, SS, hi, z2, hn']
      repeat' with_reducible first | intro _ | apply And.intro
      all_goals simp [hr, hfl, Go, Ends', v102, -List.getD_eq_getElem?_getD, *]
  · refine WP.step ?_
    simp only [T102, Go, Ends', v102, Tr.sure, SS]
    repeat' with_reducible first | intro _ | apply And.intro
    all_goals simp [allCasts, Go, Ends', v102, -List.getD_eq_getElem?_getD, *]
theorem sameC_iff {a b : Cast} : sameC a b = true ↔ a.mould = b.mould ∧ a.number = b.number := by simp [sameC]
theorem z6 {τ : Type} {E : Ty τ} : (tlist E).zero = [] := rfl
theorem VLe.app {τ : Type} (E : Ty τ) (l : List τ) (x : τ) {cells : List V} {w : Nat} (hc : cells = E.cells x) {r j : Nat} (hr : r < l.length + 1) : VLe (appC l.length (rowsOf E l) (litC w 1 cells) r j) (rowsOf E (l ++ [x]) r j) := by
  subst hc
  have : appC l.length (rowsOf E l) (litC w 1 (E.cells x)) r j = rowsOf E (l ++ [x]) r j := by
    unfold appC
    by_cases h : r < l.length
    · rw [if_pos h]; simp only [rowsOf, List.getD_eq_getElem?_getD, List.getElem?_append_left h]
    · rw [if_neg h]
      have e : r = l.length := by omega
      subst e
      simp [rowsOf, litC, List.getD_eq_getElem?_getD]
  rw [this]; exact VLe.refl _
end
noncomputable section
inductive P44
  | e
inductive R44
  | r0 (r0 : Bool)
noncomputable def T44 (p0 : Claim) (p1 : List Cast) (p2 : Int) : P44 → Tr P44 R44
  | .e => let c1 := decide (0 ≤ p0.a) && decide (p0.a < (p1.length : Int)); let c3 := decide (0 ≤ p0.b) && decide (p0.b < (p1.length : Int)); let c4 := p1.getD (p0.a).toNat tCast.zero; let c5 := c1 && (c3 && true); let c6 := p1.getD (p0.b).toNat tCast.zero; let c2 := c4.mould == c6.mould; (.br (p0.kind == (0 : Int)) (.front [] [] ((c1 && true) && true) true (.out (.r0 ((c4.mould == p0.mould) && ((c4.number == p0.number) && true))))) (.br (p0.kind == (1 : Int)) (.front [] [] (c5 && true) true (.out (.r0 c2))) (.br (p0.kind == (2 : Int)) (.front [] [] (c5 && true) true (.out (.r0 (c4.mould != c6.mould)))) (.br (p0.kind == (3 : Int)) (.br c2 (.front [] [(13, true)] ((c1 && (c3 && ((c2 == true) && c5))) && true) true (.out (.r0 (decide (c4.number < c6.number))))) (.front [] [(13, false)] ((c1 && (c3 && ((c2 == false) && true))) && true) true (.out (.r0 false)))) (.br (p0.kind == (4 : Int)) (.out (.r0 (decide (p2 ≥ p0.number)))) (.out (.r0 (decide (p2 ≤ p0.number)))))))))
noncomputable def g44 (p0 : Claim) (p1 : List Cast) (p2 : Int) : P44 → List Item × St
  | .e => bd Tryz.f44 [.agg [iI p0.own, iI p0.kind, iI p0.a, iI p0.b, iI p0.mould, iI p0.feature, iI p0.number, iI p0.worth], tCast.lst p1, iI p2] 89
noncomputable def n44 : R44 → Exit × St
  | .r0 r0 => (.ret, ⟨mk 92 [(6, .bool r0)], [], []⟩)
noncomputable def v44 : R44 → V
  | .r0 r0 => .bool r0
theorem s44 (p0 : Claim) (p1 : List Cast) (p2 : Int) : Sm 0 (g44 p0 p1 p2) (T44 p0 p1 p2) (n44)
  | .e => ⟨400, by kernel_rfl⟩
theorem q44 : ∀ r, bodyQ Tryz.prog Tryz.f44 (· = v44 r) (n44 r).1 (n44 r).2
  | .r0 r0 => bq (.bool r0) (by kernel_rfl)
theorem w44 (p0 : Claim) (p1 : List Cast) (p2 : Int) {post : V → Prop} (h : WQ (T44 p0 p1 p2) v44 post .e) : PC 44 [.agg [iI p0.own, iI p0.kind, iI p0.a, iI p0.b, iI p0.mould, iI p0.feature, iI p0.number, iI p0.worth], tCast.lst p1, iI p2] post :=
  PCalls.wq Tryz.func44 (s44 p0 p1 p2) q44 h
theorem c44 (x : Claim) (l : List Cast) (last : Int) (hk : 0 ≤ x.kind ∧ x.kind ≤ 5) (h0 : x.kind = 0 → 0 ≤ x.a ∧ x.a < l.length) (h1 : x.kind = 1 ∨ x.kind = 2 ∨ x.kind = 3 → (0 ≤ x.a ∧ x.a < l.length) ∧ (0 ≤ x.b ∧ x.b < l.length)) :
    PC 44 [.agg (tClaim.cells x), tCast.lst l, iI last] (· = .bool (so x l last)) := by
  rcases show x.kind = 0 ∨ x.kind = 1 ∨ x.kind = 2 ∨ x.kind = 3 ∨ x.kind = 4 ∨ x.kind = 5 by omega with h | h | h | h | h | h
  all_goals simp only [h, forall_const, true_or, or_true, reduceCtorEq, false_or, or_false, Int.reduceEq, false_imp_iff] at h0 h1
  all_goals
    refine w44 _ _ _ (WP.step ?_)
    simp only [T44, Go, Ends', v44, Tr.sure, SS, h, h0, h1, z5]
    repeat' with_reducible first | intro _ | apply And.intro
    all_goals first | (simp [h, h0, h1, so, soL, soC, soF, lasting, cast_beq, Go, Ends', v44, -List.getD_eq_getElem?_getD, *]; done) | (simp_all [h, h0, h1, so, soL, soC, soF, lasting, cast_beq, Go, Ends', v44, -List.getD_eq_getElem?_getD]; done) | skip
  all_goals simp_all [so, soC, soF, lasting, cast_beq]
inductive P45
  | e
  | l0 (x0_5 : Int)
inductive R45
  | r0 (r0 : Bool)
noncomputable def T45 (p0 : List Int) (p1 : Int) : P45 → Tr P45 R45
  | .e => (.go (.l0 0))
  | .l0 x0_5 => let c1 := x0_5 < (p0.length : Int); (.br (decide c1) (.need (decide (0 ≤ x0_5) && decide c1) (.br ((p0.getD (x0_5).toNat tint.zero) == p1) (.out (.r0 true)) (.need (inR .i64 (x0_5 + (1 : Int))) (.go (.l0 (x0_5 + (1 : Int))))))) (.out (.r0 false)))
noncomputable def g45 (p0 : List Int) (p1 : Int) : P45 → List Item × St
  | .e => bd Tryz.f45 [tint.lst p0, iI p1] 16
  | .l0 x0_5 => (cutOf Tryz.f45 0, ⟨mk 18 [(0, tint.lst p0), (1, iI p1), (4, .bool false), (5, iI x0_5)], [], []⟩)
noncomputable def n45 : R45 → Exit × St
  | .r0 r0 => (.ret, ⟨mk 18 [(4, .bool r0)], [], []⟩)
noncomputable def v45 : R45 → V
  | .r0 r0 => .bool r0
theorem s45 (p0 : List Int) (p1 : Int) : Sm 0 (g45 p0 p1) (T45 p0 p1) (n45)
  | .e => ⟨400, by kernel_rfl⟩
  | .l0 _ => ⟨400, by kernel_rfl⟩
theorem q45 : ∀ r, bodyQ Tryz.prog Tryz.f45 (· = v45 r) (n45 r).1 (n45 r).2
  | .r0 r0 => bq (.bool r0) (by kernel_rfl)
theorem w45 (p0 : List Int) (p1 : Int) {post : V → Prop} (h : WQ (T45 p0 p1) v45 post .e) : PC 45 [tint.lst p0, iI p1] post :=
  PCalls.wq Tryz.func45 (s45 p0 p1) q45 h
theorem e45 : ∀ xs w, (callFunc 45 xs).run Tryz.prog w = .ok (.enter 45 xs) w := PCalls.enters Tryz.func45 (c := Tryz.f45.body.getD .skip) (by kernel_rfl) (by kernel_rfl)
theorem c45 (l : List Int) (n : Int) : PC 45 [tint.lst l, iI n] (· = .bool (hasN l n)) := by
  refine PCalls.assume e45 0 (by simp) .list fun hl => ?_
  refine w45 _ _ (WP.step ?_)
  simp only [T45, Go, Ends', v45, Tr.sure, SS]
  repeat' with_reducible first | intro _ | apply And.intro
  refine WP.findI (fun i => .l0 i) rfl l 0 (· == n) (fun i hi => ?_) fun hI => ?_
  · have hr := inRi hi hl
    have ha : firstI (· == n) 0 l = some i → l.any (· == n) = true := any_of_firstI
    refine WP.once ?_
    simp only [T45, Tr.sure, SS, hi, z1]
    repeat' with_reducible first | intro _ | apply And.intro
    all_goals first | (simp [hr, hasN, Go, Ends', v45, -List.getD_eq_getElem?_getD, *]; done) | (simp_all [hr, hasN, Go, Ends', v45, -List.getD_eq_getElem?_getD]; done)
  · have ha := any_of_none hI
    refine WP.step ?_
    simp only [T45, Go, Ends', v45, Tr.sure, SS, Int.lt_irrefl]
    repeat' with_reducible first | intro _ | apply And.intro
    all_goals simp [hasN, ha, Go, Ends', v45, -List.getD_eq_getElem?_getD, *]
end
noncomputable section
theorem truths_ok {c : Case} {o : Int} (h : (truthsE c o).2 = 0) : OkCase c ∧ o = 0 ∧ (truthsE c o).1 = caseSets c := by
  unfold truthsE at h ⊢
  split at h
  · rename_i h1; exact absurd h h1
  · rename_i h1
    split at h
    · rename_i h2; exact absurd h h2
    · rename_i h2
      split at h
      · cases h
      · rename_i h3
        rw [if_neg h1, if_neg h2, if_neg h3]
        exact ⟨okCase (Decidable.not_not.1 h1), Decidable.not_not.1 h2, rfl⟩
end
noncomputable section
theorem truths_cases (c : Case) (o : Int) : (truthsE c o = (caseSets c, 0) ∧ OkCase c ∧ o = 0) ∨ ∃ e, truthsE c o = ([], e) ∧ e ≠ 0 := by
  by_cases h : (truthsE c o).2 = 0
  · obtain ⟨h1, h2, h3⟩ := truths_ok h
    exact .inl ⟨Prod.ext h3 h, h1, h2⟩
  · refine .inr ⟨(truthsE c o).2, ?_, h⟩
    revert h
    unfold truthsE
    split
    · intro _; rfl
    · split
      · intro _; rfl
      · split
        · intro _; rfl
        · intro h; exact absurd rfl h
end
noncomputable section
theorem sets_eq (x : Case) : (if (truthsE x 0).2 ≠ 0 then [] else caseSets x) = (truthsE x 0).1 := by
  unfold truthsE
  by_cases h : (caseCheck x).2.2 = 0
  · by_cases h2 : (caseSets x).length = 0
    · simp [h, h2]
    · simp [h, h2]
  · simp [h]
theorem c18s (x : Case) : PC 18 [.agg (tCase.cells x)] (· = .tuple [tint.lst (truthsE x 0).1, iI (truthsE x 0).2]) := by
  rw [← sets_eq]; exact c18 x
end
noncomputable section
def validR (c : Case) : Bool := (caseCheck c).2.2 == 0
def someR (c : Case) : Bool := validR c && decide ((truths c.shop).length > 0)
theorem last_ok {s : Shop} (h : OkShop s) {l : List Cast} (hl : l ∈ truths s) {m f : Nat} (hm : m < s.moulds.length) (hf : f < s.features.toNat) : (lastOf s l m f).lo ≤ (lastOf s l m f).hi := by
  have key : ∀ n, l ∈ growN s n → l = [] ∨ agrees s l = true := fun n => by
    cases n with
    | zero => intro h; simp [growN] at h; exact .inl h
    | succ n =>
      intro h
      simp only [growN, List.mem_flatMap, ext, List.mem_filter] at h
      obtain ⟨_, _, _, h⟩ := h
      exact .inr h
  rcases key _ hl with rfl | ha
  · have e : lastOf s [] m f = (s.moulds.getD m zMould).lasts.getD f zSpan := by
      simp [lastOf, lastTo, natF, span0]
    rw [e]
    have h1 := h.mould (s.moulds.getD m zMould) (getD_mem zMould s.moulds m hm)
    have h2 : f < (s.moulds.getD m zMould).lasts.length := by have := h1.2.1; omega
    exact (h1.2.2 _ (getD_mem zSpan _ f h2)).2.1
  · simp only [agrees, Bool.and_eq_true, Bool.not_eq_true'] at ha
    have hb := ha.2
    unfold bad at hb
    have h1 := List.any_eq_false.1 hb m (List.mem_range.2 hm)
    have h2 := List.any_eq_false.1 (Bool.eq_false_iff.2 h1) f (List.mem_range.2 hf)
    have h3 : ¬ (lastOf s l m f).hi < (lastOf s l m f).lo := fun q => h2 (decide_eq_true q)
    omega
theorem casesR_ne {c : Case} (h : OkCase c) {l : List Cast} (hl : l ∈ truths c.shop) : ∃ y, y ∈ casesR c l := by
  refine ⟨_, (mem_casesR h.five _).2 ⟨fun m f => (lastOf c.shop l m f).lo, fun p hp => ⟨Int.le_refl _, ?_⟩, rfl⟩⟩
  simp only [pairsOf, List.mem_flatMap, List.mem_map, List.mem_range] at hp
  obtain ⟨m, hm, f, hf, rfl⟩ := hp
  exact last_ok h.shop hl hm hf
theorem sets_truths {c : Case} (h : OkCase c) : (caseSets c).length = 0 ↔ (truths c.shop).length = 0 := by
  rw [List.length_eq_zero_iff, List.length_eq_zero_iff]
  constructor
  · intro h0
    refine List.eq_nil_iff_forall_not_mem.2 fun l hl => ?_
    obtain ⟨y, hy⟩ := casesR_ne h hl
    have := (mem_caseSets h.five).2 ⟨l, hl, hy⟩
    rw [h0] at this; cases this
  · intro h0
    refine List.eq_nil_iff_forall_not_mem.2 fun y hy => ?_
    obtain ⟨l, hl, -⟩ := (mem_caseSets h.five).1 hy
    rw [h0] at hl; cases hl
theorem some_iff {c : Case} : someR c = true ↔ (truthsE c 0).2 = 0 := by
  unfold someR validR truthsE
  by_cases h : (caseCheck c).2.2 = 0
  · have h1 := sets_truths (okCase h)
    by_cases h2 : (caseSets c).length = 0
    · have := h1.1 h2; simp [h, h2, this]
    · have h3 : ¬ (truths c.shop).length = 0 := fun e => h2 (h1.2 e)
      simp only [h, h2, beq_self_eq_true, Bool.true_and, ne_eq, not_true_eq_false, if_false, iff_true, decide_eq_true_eq]
      omega
  · simp [h]
theorem some_ok {c : Case} (h : someR c = true) : truthsE c 0 = (caseSets c, 0) ∧ OkCase c ∧ caseSets c ≠ [] := by
  have h1 := some_iff.1 h
  rcases truths_cases c 0 with ⟨h2, h3, -⟩ | ⟨e, h2, h3⟩
  · exact ⟨h2, h3, sets_ne h1⟩
  · rw [h2] at h1; exact absurd h1 h3
inductive P42
  | e
inductive R42
  | r0 (r0 : Bool)
noncomputable def T42 (x : Case) : P42 → Tr P42 R42
  | .e => let c1 := caseCheck x; (.call 17 [.agg (cC x)] (.tuple [iI (c1.1), iI (c1.2.1), iI (c1.2.2)]) true true (.out (.r0 (c1.2.2 == (0 : Int)))))
noncomputable def g42 (x : Case) : P42 → List Item × St
  | .e => bd Tryz.f42 [.agg (cC x)] 13
noncomputable def n42 : R42 → Exit × St
  | .r0 r0 => (.ret, ⟨mk 14 [(2, .bool r0)], [], []⟩)
noncomputable def v42 : R42 → V
  | .r0 r0 => .bool r0
theorem s42 (x : Case) : Sm 0 (g42 x) (T42 x) (n42)
  | .e => ⟨400, by kernel_rfl⟩
theorem q42 : ∀ r, bodyQ Tryz.prog Tryz.f42 (· = v42 r) (n42 r).1 (n42 r).2
  | .r0 r0 => bq (.bool r0) (by kernel_rfl)
theorem w42 (x : Case) {post : V → Prop} (h : WQ (T42 x) v42 post .e) : PC 42 [.agg (cC x)] post :=
  PCalls.wq Tryz.func42 (s42 x) q42 h
theorem c42 (x : Case) : PC 42 [.agg (tCase.cells x)] (· = .bool (validR x)) := by
  refine w42 _ (WP.step ?_)
  simp only [T42, Go, Ends', v42, Tr.sure, SS]
  repeat' with_reducible first | intro _ | apply And.intro
  all_goals first | exact (c17 x) | (simp [validR, Go, Ends', v42, -List.getD_eq_getElem?_getD, *]; done)
end
noncomputable section
theorem firstE_get {τ : Type} {of : Nat → τ → Int} (d : τ) : ∀ {l : List τ} {i : Nat}, firstE of i l = none → ∀ j, j < l.length → of (i + j) (l.getD j d) = 0
  | [], _, _, _, hj => by simp at hj
  | x :: xs, i, h, j, hj => by
    simp only [firstE] at h
    split at h
    · rename_i h0
      cases j with
      | zero => simpa using h0
      | succ j =>
        have := firstE_get d h j (by simpa using hj)
        rw [show i + 1 + j = i + (j + 1) by omega] at this
        simpa using this
    · cases h
theorem firstE_all {τ : Type} {of : Nat → τ → Int} (d : τ) : ∀ {l : List τ} {i : Nat}, (∀ j, j < l.length → of (i + j) (l.getD j d) = 0) → firstE of i l = none
  | [], _, _ => rfl
  | x :: xs, i, h => by
    simp only [firstE]
    have h0 := h 0 (by simp)
    rw [if_pos (by simpa using h0)]
    exact firstE_all d fun j hj => by
      have := h (j + 1) (by simpa using hj)
      rw [show i + 1 + j = i + (j + 1) by omega]
      simpa using this
theorem shop_parts {s : Shop} (h : (shopCheck s).2.2 = 0) : within s.features 1 4 = true ∧ ¬ (2 : Int) < s.moulds.length ∧ firstE (mouldAt s) 0 s.moulds = none ∧ ¬ (4 : Int) < s.heads.length ∧ firstE (headAt s) 0 s.heads = none := by
  unfold shopCheck at h
  split at h
  · cases h
  rename_i h1
  split at h
  · cases h
  rename_i h2
  split at h
  · rename_i he; exact absurd h (firstE_ne he)
  rename_i h3
  split at h
  · cases h
  rename_i h4
  split at h
  · rename_i he; exact absurd h (firstE_ne he)
  rename_i h5
  exact ⟨by simpa using h1, h2, h3, h4, h5⟩
theorem case_parts {c : Case} (h : (caseCheck c).2.2 = 0) : (shopCheck c.shop).2.2 = 0 ∧ (c.owners.length : Int) = c.shop.heads.length ∧ firstE (fun _ n => if within n 0 1 then 0 else 7) 0 c.owners = none ∧ ¬ (5 : Int) < c.claims.length ∧ firstE (fun _ x => claimErr c.shop x) 0 c.claims = none := by
  unfold caseCheck at h
  split at h
  · rename_i h1; exact absurd h h1
  rename_i h1
  split at h
  · cases h
  rename_i h2
  split at h
  · rename_i he; exact absurd h (firstE_ne he)
  rename_i h3
  split at h
  · cases h
  rename_i h4
  split at h
  · rename_i he; exact absurd h (firstE_ne he)
  rename_i h5
  exact ⟨by simpa using h1, by simpa using h2, h3, h4, h5⟩
theorem index_zero {n : Int} {many : Nat} (h : 0 ≤ n ∧ n < many) : indexErr n many = 0 := by
  unfold indexErr
  rw [if_pos]
  simp [within]; omega
theorem holds_eq {x : Case} (h : someR x = true) {i : Int} (hi : 0 ≤ i ∧ i < x.claims.length) : holdsR x i = (settled (caseSets x) i, 0) := by
  unfold holdsR
  rw [index_zero hi, (some_ok h).1]
  simp
end
noncomputable section
theorem settled_one {M : List Int} {i : Int} : settled M i = 1 ↔ ∀ s ∈ M, hasZ s i = true := by
  unfold settled
  rw [← List.countP_eq_length]
  split
  · rename_i h1; simp [h1]
  · rename_i h1; split <;> simp [h1]
theorem hasN_mem {l : List Int} {n : Int} : hasN l n = true ↔ n ∈ l := by
  unfold hasN
  rw [List.any_eq_true]
  constructor
  · rintro ⟨y, h1, h2⟩; rw [← eq_of_beq h2]; exact h1
  · intro h; exact ⟨n, h, by simp⟩
end
noncomputable section
theorem settled_two {M : List Int} (hne : M ≠ []) {i : Int} : settled M i = 2 ↔ ∀ s ∈ M, ¬ hasZ s i = true := by
  have l1 : M.length ≠ 0 := fun e => hne (List.length_eq_zero_iff.1 e)
  unfold settled
  rw [← List.countP_eq_zero]
  split
  · rename_i h1; rw [h1]; simp [l1]
  · split <;> simp [*]
end
end Go.Proofs.YtdamoemndifpmaaGreat
