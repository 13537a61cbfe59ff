import Derived.Test.YthknnpojfhohbaaGreatWalkA
import Derived.Test.YthknnpojfhohbaaGreatKitB
namespace Go.Proofs
open Go Go.Vc Go.RowKit Go.Lib
set_option maxRecDepth 100000
set_option linter.unusedVariables false
/-- The cells of a plate. -/
def plateC (F M : Value) (wet : List Int) (off sn : Bool) (left : Int) (K : Value) : List Value := F :: M :: (wet.map (fun x => Value.int .u64 x) ++ [.bool off, .bool sn, .int .i64 left, K])
section
variable {F M K V : Value} {wet : List Int} {off sn : Bool} {left : Int}
@[push_cast] theorem plateC_len (h : wet.length = 64) : (plateC F M wet off sn left K).length = 70 := by simp [plateC, h]
@[push_cast] theorem plateC_0 : (plateC F M wet off sn left K)[0]? = some F := rfl
@[push_cast] theorem plateC_1 : (plateC F M wet off sn left K)[1]? = some M := rfl
theorem plateC_tail (h : wet.length = 64) (j : Nat) : (plateC F M wet off sn left K)[66 + j]? = [Value.bool off, .bool sn, .int .i64 left, K][j]? := by
  unfold plateC
  rw [show 66 + j = (64 + j) + 1 + 1 from by omega, List.getElem?_cons_succ, List.getElem?_cons_succ, List.getElem?_append_right (by simp; omega)]
  congr 1
  simp; omega
@[push_cast] theorem plateC_66 (h : wet.length = 64) : (plateC F M wet off sn left K)[66]? = some (.bool off) := plateC_tail h 0
@[push_cast] theorem plateC_67 (h : wet.length = 64) : (plateC F M wet off sn left K)[67]? = some (.bool sn) := plateC_tail h 1
@[push_cast] theorem plateC_68 (h : wet.length = 64) : (plateC F M wet off sn left K)[68]? = some (.int .i64 left) := plateC_tail h 2
@[push_cast] theorem plateC_69 (h : wet.length = 64) : (plateC F M wet off sn left K)[69]? = some K := plateC_tail h 3
theorem plateC_w (h : wet.length = 64) {i : Nat} (hi : i < 64) : (plateC F M wet off sn left K)[2 + i]? = some (.int .u64 (wet[i]'(by omega))) := by
  unfold plateC
  rw [show 2 + i = i + 1 + 1 from by omega, List.getElem?_cons_succ, List.getElem?_cons_succ, List.getElem?_append_left (by simp; omega)]
  simp [h, hi]
@[push_cast] theorem plateC_s0 : (plateC F M wet off sn left K).set 0 V = plateC V M wet off sn left K := rfl
@[push_cast] theorem plateC_s1 : (plateC F M wet off sn left K).set 1 V = plateC F V wet off sn left K := rfl
theorem plateC_stail (h : wet.length = 64) (j : Nat) : (plateC F M wet off sn left K).set (66 + j) V = F :: M :: (wet.map (fun x => Value.int .u64 x) ++ [Value.bool off, .bool sn, .int .i64 left, K].set j V) := by
  unfold plateC
  rw [show 66 + j = (64 + j) + 1 + 1 from by omega, List.set_cons_succ, List.set_cons_succ, List.set_append_right _ _ (by simp; omega), show 64 + j - (wet.map (fun x => Value.int .u64 x)).length = j from by simp; omega]
@[push_cast] theorem plateC_s66 {b : Bool} (h : wet.length = 64) : (plateC F M wet off sn left K).set 66 (.bool b) = plateC F M wet b sn left K := plateC_stail h 0
@[push_cast] theorem plateC_s67 {b : Bool} (h : wet.length = 64) : (plateC F M wet off sn left K).set 67 (.bool b) = plateC F M wet off b left K := plateC_stail h 1
@[push_cast] theorem plateC_s68 {a : Int} (h : wet.length = 64) : (plateC F M wet off sn left K).set 68 (.int .i64 a) = plateC F M wet off sn a K := plateC_stail h 2
@[push_cast] theorem plateC_s69 (h : wet.length = 64) : (plateC F M wet off sn left K).set 69 V = plateC F M wet off sn left V := plateC_stail h 3
theorem plateC_sw {a : Int} {i : Nat} (h : wet.length = 64) (hi : i < 64) : (plateC F M wet off sn left K).set (2 + i) (.int .u64 a) = plateC F M (wet.set i a) off sn left K := by
  unfold plateC
  rw [show 2 + i = i + 1 + 1 from by omega, List.set_cons_succ, List.set_cons_succ, List.set_append_left _ _ (by simp; omega), List.map_set]
end
theorem und_ms : Tryz.prog.underlying 38 = some (.map 3 9) := by kernel_rfl
theorem und_int : Tryz.prog.underlying 3 = some (.int .i64) := by kernel_rfl
theorem zero_str : zeroOf Tryz.prog 9 = some (.string .empty) := by kernel_rfl
/-- What a plate is: its pages, what was laid since it was fixed, and its switches. -/
structure PlS where
  fixed : List ByteArray
  laid : Int → Option ByteArray
  wet : List Int
  off : Bool
  sn : Bool
  left : Int
  keep : Value
/-- A plate at p, its pages at f, what was laid at m. -/
structure PlateAt (w : World) (p f m : Nat) (s : PlS) : Prop where
  cell : w.heap[p]? = some (.cells (plateC (.slice (some ⟨f, 0, none⟩) s.fixed.length s.fixed.length) (.map (some m)) s.wet s.off s.sn s.left s.keep).toArray 86 (0, 0))
  wlen : s.wet.length = 64
  fix : w.heap[f]? = some (.cells (strV s.fixed).toArray 9 (0, 0))
  map : ∃ l clock, MapAt w m .i64 l clock ∧ (∀ k, getM l k = (s.laid k).map fun b => .string b) ∧ ∀ e ∈ l, 0 ≤ e.1 ∧ e.1 < s.fixed.length
  small : s.fixed.length ≤ 250
theorem PlateAt.fp {w : World} {p f m : Nat} {s : PlS} (h : PlateAt w p f m s) : f ≠ p := by
  rintro rfl
  have h1 := h.cell
  rw [h.fix] at h1
  injection h1 with h1
  injection h1 with _ h1 _
  exact absurd h1 (by decide)
theorem PlateAt.mp {w : World} {p f m : Nat} {s : PlS} (h : PlateAt w p f m s) : m ≠ p ∧ m ≠ f := by
  obtain ⟨l, c, hm, _⟩ := h.map
  refine ⟨?_, ?_⟩
  · rintro rfl
    have h1 := h.cell
    rw [hm.cell] at h1
    injection h1 with h1
    cases h1
  · rintro rfl
    have h1 := h.fix
    rw [hm.cell] at h1
    injection h1 with h1
    cases h1
theorem PlateAt.over {w w' : World} {p f m : Nat} {s : PlS} {S : Nat → Prop} (h : PlateAt w p f m s) (hk : Kp S w w') (h1 : ¬ S p) (h2 : ¬ S f) (h3 : ¬ S m) : PlateAt w' p f m s := by
  obtain ⟨hc, hw, hf, ⟨l, c, hm, hv⟩, hs⟩ := h
  exact ⟨hk.get hc h1, hw, hk.get hf h2, ⟨l, c, hm.over hk h3, hv⟩, hs⟩
theorem PlateAt.up {w w' : World} {p f m : Nat} {s : PlS} (h : PlateAt w p f m s) (hk : Up w w') : PlateAt w' p f m s := h.over hk id id id
theorem pnone_any (w : World) (p f m : Nat) (s : PlS) (h : PlateAt w p f m s) : CallM Tryz.prog 61 #[.pointer (some ⟨p, 0, none⟩)] w fun v w' => v = .bool false ∧ w' = w := by
  have hc := h.cell
  refine callM_V (args := [.pointer (some ⟨p, 0, none⟩)]) Tryz.func61 rfl Tryz.ntmps61 rfl (rs := [(.tmp 2)]) rfl ?_
  push_cast (disch := omega)
  repeat refine V_seq (x := .seq _ _) ?_
  first | refine VR [0] (by kernel_rfl) ?_ | refine VR1 [0] (by kernel_rfl) ?_
  push_cast (disch := omega)
  repeat refine And.intro (by omega) ?_
  repeat refine V_seq (x := .seq _ _) ?_
  first | refine VR [2] (by kernel_rfl) ?_ | refine VR1 [2] (by kernel_rfl) ?_
  push_cast (disch := omega) [hc]
  repeat refine And.intro (by omega) ?_
  first | refine V_seq (V_ret ?_) | refine V_ret ?_
  push_cast (disch := omega)
theorem pon_any (w : World) (p f m : Nat) (s : PlS) (h : PlateAt w p f m s) : CallM Tryz.prog 26 #[.pointer (some ⟨p, 0, none⟩)] w fun v w' => v = .bool (!s.off) ∧ w' = w := by
  have hc := h.cell
  have hw := h.wlen
  refine callM_V (args := [.pointer (some ⟨p, 0, none⟩)]) Tryz.func26 rfl Tryz.ntmps26 rfl (rs := [(.tmp 2)]) rfl ?_
  push_cast (disch := omega)
  repeat refine V_seq (x := .seq _ _) ?_
  first | refine VR [0] (by kernel_rfl) ?_ | refine VR1 [0] (by kernel_rfl) ?_
  push_cast (disch := omega)
  repeat refine And.intro (by omega) ?_
  repeat refine V_seq (x := .seq _ _) ?_
  first | refine VR [2] (by kernel_rfl) ?_ | refine VR1 [2] (by kernel_rfl) ?_
  push_cast (disch := omega) [hc]
  repeat refine And.intro (by omega) ?_
  refine callM_of (pnone_any w p f m s h) ?_
  rintro _ w1 ⟨rfl, rfl⟩
  push_cast (disch := omega)
  repeat refine And.intro (by omega) ?_
  push_cast (disch := omega) [hc]
  repeat refine And.intro (by omega) ?_
  first | refine V_seq (V_ret ?_) | refine V_ret ?_
  push_cast (disch := omega)
theorem ppages_any (w : World) (p f m : Nat) (s : PlS) (h : PlateAt w p f m s) : CallM Tryz.prog 41 #[.pointer (some ⟨p, 0, none⟩)] w fun v w' => v = .int .i64 s.fixed.length ∧ w' = w := by
  have hc := h.cell
  have hw := h.wlen
  refine callM_V (args := [.pointer (some ⟨p, 0, none⟩)]) Tryz.func41 rfl Tryz.ntmps41 rfl (rs := [(.tmp 2)]) rfl ?_
  push_cast (disch := omega)
  repeat refine V_seq (x := .seq _ _) ?_
  first | refine VR [0] (by kernel_rfl) ?_ | refine VR1 [0] (by kernel_rfl) ?_
  push_cast (disch := omega)
  repeat refine And.intro (by omega) ?_
  repeat refine V_seq (x := .seq _ _) ?_
  first | refine VR [0, 4] (by kernel_rfl) ?_ | refine VR1 [0, 4] (by kernel_rfl) ?_
  push_cast (disch := omega)
  repeat refine And.intro (by omega) ?_
  refine callM_of (pnone_any w p f m s h) ?_
  rintro _ w1 ⟨rfl, rfl⟩
  push_cast (disch := omega)
  repeat refine And.intro (by omega) ?_
  repeat refine V_seq (x := .seq _ _) ?_
  first | refine V_seq (V_iff rfl ?_) | refine V_iff rfl ?_
  first | refine V_seq (V_skip ?_) | refine V_skip ?_
  push_cast (disch := omega)
  repeat refine V_seq (x := .seq _ _) ?_
  first | refine VR [2] (by kernel_rfl) ?_ | refine VR1 [2] (by kernel_rfl) ?_
  push_cast (disch := omega) [hc]
  repeat refine And.intro (by omega) ?_
  first | refine V_seq (V_ret ?_) | refine V_ret ?_
  push_cast (disch := omega)
theorem pthere_any (w : World) (p f m : Nat) (s : PlS) (k : Int) (h : PlateAt w p f m s) : CallM Tryz.prog 63 #[.pointer (some ⟨p, 0, none⟩), .int .i64 k] w fun v w' => v = .bool (decide (0 ≤ k ∧ k < s.fixed.length)) ∧ w' = w := by
  have hc := h.cell
  have hw := h.wlen
  by_cases hk : 0 ≤ k
  · refine callM_V (args := [.pointer (some ⟨p, 0, none⟩), .int .i64 k]) Tryz.func63 rfl Tryz.ntmps63 rfl (rs := [(.tmp 4)]) rfl ?_
    push_cast (disch := omega)
    repeat refine V_seq (x := .seq _ _) ?_
    first | refine VR [0, 1] (by kernel_rfl) ?_ | refine VR1 [0, 1] (by kernel_rfl) ?_
    push_cast (disch := omega)
    repeat refine And.intro (by omega) ?_
    repeat refine V_seq (x := .seq _ _) ?_
    first | refine VR [4] (by kernel_rfl) ?_ | refine VR1 [4] (by kernel_rfl) ?_
    push_cast (disch := omega)
    repeat refine And.intro (by omega) ?_
    refine callM_of (pnone_any w p f m s h) ?_
    rintro _ w1 ⟨rfl, rfl⟩
    push_cast (disch := omega)
    repeat refine And.intro (by omega) ?_
    push_cast (disch := omega) [hc]
    repeat refine And.intro (by omega) ?_
    first | refine V_seq (V_ret ?_) | refine V_ret ?_
    push_cast (disch := omega)
    simp [hk]
  · refine callM_V (args := [.pointer (some ⟨p, 0, none⟩), .int .i64 k]) Tryz.func63 rfl Tryz.ntmps63 rfl (rs := [(.tmp 4)]) rfl ?_
    push_cast (disch := omega)
    repeat refine V_seq (x := .seq _ _) ?_
    first | refine VR [0, 1] (by kernel_rfl) ?_ | refine VR1 [0, 1] (by kernel_rfl) ?_
    push_cast (disch := omega)
    repeat refine And.intro (by omega) ?_
    repeat refine V_seq (x := .seq _ _) ?_
    first | refine VR [4] (by kernel_rfl) ?_ | refine VR1 [4] (by kernel_rfl) ?_
    push_cast (disch := omega)
    repeat refine And.intro (by omega) ?_
    refine callM_of (pnone_any w p f m s h) ?_
    rintro _ w1 ⟨rfl, rfl⟩
    push_cast (disch := omega)
    repeat refine And.intro (by omega) ?_
    first | refine V_seq (V_ret ?_) | refine V_ret ?_
    push_cast (disch := omega)
    simp; omega
/-- What was laid last. -/
def PlS.get (s : PlS) (k : Int) : ByteArray × Int := if s.off then (.empty, 7) else if 0 ≤ k ∧ k < s.fixed.length then ((s.laid k).getD (s.fixed.getD k.toNat .empty), 0) else (.empty, 1)
theorem pget_any (w : World) (p f m : Nat) (s : PlS) (k : Int) (h : PlateAt w p f m s) : CallM Tryz.prog 28 #[.pointer (some ⟨p, 0, none⟩), .int .i64 k] w fun v w' => v = .tuple #[.string (s.get k).1, .int .i64 (s.get k).2] ∧ w' = w := by
  have hc := h.cell
  have hw := h.wlen
  have hf := h.fix
  obtain ⟨l, clock, hm, hv, hr⟩ := h.map
  unfold PlS.get
  refine callM_V (args := [.pointer (some ⟨p, 0, none⟩), .int .i64 k]) Tryz.func28 rfl Tryz.ntmps28 rfl (rs := [(.tmp 4), (.tmp 5)]) rfl ?_
  push_cast (disch := omega)
  repeat refine V_seq (x := .seq _ _) ?_
  first | refine VR [0, 1] (by kernel_rfl) ?_ | refine VR1 [0, 1] (by kernel_rfl) ?_
  push_cast (disch := omega)
  repeat refine And.intro (by omega) ?_
  repeat refine V_seq (x := .seq _ _) ?_
  first | refine V_seq (V_block ?_) | refine V_block ?_
  repeat refine V_seq (x := .seq _ _) ?_
  first | refine VR [0, 1, 8] (by kernel_rfl) ?_ | refine VR1 [0, 1, 8] (by kernel_rfl) ?_
  push_cast (disch := omega)
  repeat refine And.intro (by omega) ?_
  refine callM_of (pnone_any w p f m s h) ?_
  rintro _ w1 ⟨rfl, rfl⟩
  push_cast (disch := omega)
  repeat refine And.intro (by omega) ?_
  repeat refine V_seq (x := .seq _ _) ?_
  first | refine V_seq (V_iff rfl ?_) | refine V_iff rfl ?_
  repeat refine V_seq (x := .seq _ _) ?_
  first | refine VR [0, 1, 11] (by kernel_rfl) ?_ | refine VR1 [0, 1, 11] (by kernel_rfl) ?_
  push_cast (disch := omega) [hc]
  repeat refine And.intro (by omega) ?_
  cases ho : s.off with
  | true =>
    repeat refine V_seq (x := .seq _ _) ?_
    first | refine V_seq (V_ift rfl ?_) | refine V_ift rfl ?_
    repeat refine V_seq (x := .seq _ _) ?_
    first | refine VR [4, 5] (by kernel_rfl) ?_ | refine VR1 [4, 5] (by kernel_rfl) ?_
    push_cast (disch := omega)
    repeat refine And.intro (by omega) ?_
    first | refine V_seq (V_ret ?_) | refine V_ret ?_
    push_cast (disch := omega)
    rfl
  | false =>
    repeat refine V_seq (x := .seq _ _) ?_
    first | refine V_seq (V_iff rfl ?_) | refine V_iff rfl ?_
    repeat refine V_seq (x := .seq _ _) ?_
    first | refine VR [0, 1, 16] (by kernel_rfl) ?_ | refine VR1 [0, 1, 16] (by kernel_rfl) ?_
    push_cast (disch := omega)
    repeat refine And.intro (by omega) ?_
    refine callM_of (pthere_any w1 p f m s k h) ?_
    rintro _ w2 ⟨rfl, rfl⟩
    push_cast (disch := omega)
    repeat refine And.intro (by omega) ?_
    repeat refine V_seq (x := .seq _ _) ?_
    first | refine V_seq (V_ifnd rfl (fun h1 => ?_) (fun h1 => ?_)) | refine V_ifnd rfl (fun h1 => ?_) (fun h1 => ?_)
    · repeat refine V_seq (x := .seq _ _) ?_
      first | refine VR [4, 5] (by kernel_rfl) ?_ | refine VR1 [4, 5] (by kernel_rfl) ?_
      push_cast (disch := omega)
      repeat refine And.intro (by omega) ?_
      first | refine V_seq (V_ret ?_) | refine V_ret ?_
      push_cast (disch := omega)
      rw [if_neg h1]
      rfl
    · first | refine V_seq (V_skip ?_) | refine V_skip ?_
      push_cast (disch := omega)
      rw [if_pos h1]
      repeat refine V_seq (x := .seq _ _) ?_
      first | refine VR [0, 1, 6, 7] (by kernel_rfl) ?_ | refine VR1 [0, 1, 6, 7] (by kernel_rfl) ?_
      push_cast (disch := omega) [hc]
      repeat refine And.intro (by omega) ?_
      refine lookM hm und_ms und_int zero_str ?_
      rw [hv]
      cases hl : s.laid k with
      | some x =>
        push_cast (disch := omega)
        repeat refine And.intro (by omega) ?_
        repeat refine V_seq (x := .seq _ _) ?_
        first | refine VR [0, 1, 6, 30] (by kernel_rfl) ?_ | refine VR1 [0, 1, 6, 30] (by kernel_rfl) ?_
        push_cast (disch := omega)
        repeat refine And.intro (by omega) ?_
        repeat refine V_seq (x := .seq _ _) ?_
        first | refine V_seq (V_ift rfl ?_) | refine V_ift rfl ?_
        repeat refine V_seq (x := .seq _ _) ?_
        first | refine VR [4, 5] (by kernel_rfl) ?_ | refine VR1 [4, 5] (by kernel_rfl) ?_
        push_cast (disch := omega)
        repeat refine And.intro (by omega) ?_
        first | refine V_seq (V_ret ?_) | refine V_ret ?_
        push_cast (disch := omega)
        rfl
      | none =>
        have hlt : k.toNat < s.fixed.length := by omega
        have hcell : (strV s.fixed)[k.toNat]? = some (.string s.fixed[k.toNat]) := strV_get hlt
        push_cast (disch := omega)
        repeat refine And.intro (by omega) ?_
        repeat refine V_seq (x := .seq _ _) ?_
        first | refine VR [0, 1, 6, 30] (by kernel_rfl) ?_ | refine VR1 [0, 1, 6, 30] (by kernel_rfl) ?_
        push_cast (disch := omega)
        repeat refine And.intro (by omega) ?_
        repeat refine V_seq (x := .seq _ _) ?_
        first | refine V_seq (V_iff rfl ?_) | refine V_iff rfl ?_
        first | refine V_seq (V_skip ?_) | refine V_skip ?_
        push_cast (disch := omega)
        repeat refine V_seq (x := .seq _ _) ?_
        first | refine VR [4, 5] (by kernel_rfl) ?_ | refine VR1 [4, 5] (by kernel_rfl) ?_
        push_cast (disch := omega) [hc, hf, hcell]
        repeat refine And.intro (by omega) ?_
        first | refine V_seq (V_ret ?_) | refine V_ret ?_
        push_cast (disch := omega)
        simp [hlt]
/-- No snag is set. -/
theorem psnags_no (w : World) (p f m : Nat) (s : PlS) (h : PlateAt w p f m s) (hs : s.sn = false) : CallM Tryz.prog 141 #[.pointer (some ⟨p, 0, none⟩)] w fun v w' => v = .bool false ∧ w' = w := by
  have hc := h.cell
  have hw := h.wlen
  rw [hs] at hc
  refine callM_V (args := [.pointer (some ⟨p, 0, none⟩)]) Tryz.func141 rfl Tryz.ntmps141 rfl (rs := [(.tmp 2)]) rfl ?_
  push_cast (disch := omega)
  repeat refine V_seq (x := .seq _ _) ?_
  first | refine VR [0] (by kernel_rfl) ?_ | refine VR1 [0] (by kernel_rfl) ?_
  push_cast (disch := omega)
  repeat refine And.intro (by omega) ?_
  repeat refine V_seq (x := .seq _ _) ?_
  first | refine VR [0, 7] (by kernel_rfl) ?_ | refine VR1 [0, 7] (by kernel_rfl) ?_
  push_cast (disch := omega) [hc]
  repeat refine And.intro (by omega) ?_
  repeat refine V_seq (x := .seq _ _) ?_
  first | refine V_seq (V_ift rfl ?_) | refine V_ift rfl ?_
  repeat refine V_seq (x := .seq _ _) ?_
  first | refine VR [2] (by kernel_rfl) ?_ | refine VR1 [2] (by kernel_rfl) ?_
  push_cast (disch := omega)
  repeat refine And.intro (by omega) ?_
  first | refine V_seq (V_ret ?_) | refine V_ret ?_
  push_cast (disch := omega)
def zeroC : List Value := List.replicate 64 (.int .u64 0)
theorem wr_mid : ∀ (new old pre post : List Value), old.length = new.length → wr (pre ++ (old ++ post)) pre.length new = pre ++ (new ++ post)
  | [], [], pre, post, _ => rfl
  | v :: new, o :: old, pre, post, h => by
    have e : (pre ++ (o :: old ++ post)).set pre.length v = (pre ++ [v]) ++ (old ++ post) := by
      rw [List.set_append_right _ _ (Nat.le_refl _)]; simp
    have h' := wr_mid new old (pre ++ [v]) post (by simpa using h)
    show wr ((pre ++ (o :: old ++ post)).set pre.length v) (pre.length + 1) new = _
    rw [e]
    rw [show (pre ++ [v]).length = pre.length + 1 from by simp] at h'
    rw [h']
    simp
  | [], o :: old, _, _, h => by simp at h
  | v :: new, [], _, _, h => by simp at h
theorem wr_zero (F M : Value) (wet : List Int) (off sn : Bool) (left : Int) (K : Value) (h : wet.length = 64) : wr (plateC F M wet off sn left K) 2 zeroC = plateC F M (List.replicate 64 0) off sn left K := by
  have := wr_mid zeroC (wet.map fun x => Value.int .u64 x) [F, M] [.bool off, .bool sn, .int .i64 left, K] (by simp [zeroC, h])
  exact this
@[push_cast] theorem build_wet {K : Value → Prop} : TakeP Tryz.prog (Instr.build 84 #[]) K = K (.agg zeroC.toArray) := takeP_pure (fun w => by kernel_rfl)
@[push_cast] theorem zeroC_len : zeroC.length = 64 := by simp [zeroC]
@[push_cast] theorem zeroC_all : zeroC.all one' = true := by simp [zeroC, one']
/-- Nothing is wet. -/
def PlS.dry (s : PlS) : PlS := { s with laid := fun _ => none, wet := List.replicate 64 0 }
theorem pdry_any (w : World) (p f m : Nat) (s : PlS) (h : PlateAt w p f m s) : CallM Tryz.prog 144 #[.pointer (some ⟨p, 0, none⟩)] w fun v w' => v = .tuple #[] ∧ ∃ m', PlateAt w' p f m' s.dry ∧ w.heap.size ≤ m' ∧ Ux p w w' := by
  have hc := h.cell
  have hw := h.wlen
  refine callM_V (args := [.pointer (some ⟨p, 0, none⟩)]) Tryz.func144 rfl Tryz.ntmps144 rfl (rs := []) rfl ?_
  push_cast (disch := omega)
  repeat refine V_seq (x := .seq _ _) ?_
  first | refine VR [] (by kernel_rfl) ?_ | refine VR1 [] (by kernel_rfl) ?_
  push_cast (disch := omega)
  repeat refine And.intro (by omega) ?_
  refine makeMapM (q := .i64) ?_
  rintro m' w1 hb hs hu hm'
  have hc1 := Up.get hu hc
  push_cast (disch := omega) [hc1]
  repeat refine And.intro (by omega) ?_
  refine fun w2 hs2 hx2 hg2 => ?_
  push_cast (disch := omega) [wr_zero _ _ _ _ _ _ _ hw]
  repeat refine And.intro (by omega) ?_
  push_cast (disch := omega) [hg2, wr_zero _ _ _ _ _ _ _ hw]
  repeat refine And.intro (by omega) ?_
  refine fun w3 hs3 hx3 hg3 => ?_
  push_cast (disch := omega)
  repeat refine And.intro (by omega) ?_
  have hlt := lt_of_get hc
  have hfp := h.fp
  refine ⟨m', ⟨hg3, by simp [PlS.dry], ?_, ?_, h.small⟩, by omega, ?_⟩
  · exact Kp.get hx3 (Kp.get hx2 (Up.get hu h.fix) hfp) hfp
  · exact ⟨[], 0, (hm'.over hx2 (by show m' ≠ p; omega)).over hx3 (by show m' ≠ p; omega), fun k => rfl, by simp⟩
  · exact ((hu.mono (fun _ _ e => e.elim)).step hx2 (fun _ _ e => e)).step hx3 (fun _ _ e => e)
end Go.Proofs
namespace Go.Proofs
open Go Go.Vc Go.RowKit Go.Lib
set_option maxRecDepth 100000
set_option linter.unusedVariables false
theorem sclone_any (s : ByteArray) (w : World) (h : s.size ≤ 1000000) : CallM Tryz.prog 64 #[.string s] w fun v w' => v = .string s ∧ Up w w' := by
  refine callM_V (args := [.string s]) Tryz.func64 rfl Tryz.ntmps64 rfl (rs := [(.tmp 2)]) rfl ?_
  push_cast (disch := omega)
  repeat refine V_seq (x := .seq _ _) ?_
  first | refine VR [0] (by kernel_rfl) ?_ | refine VR1 [0] (by kernel_rfl) ?_
  push_cast (disch := omega)
  repeat refine And.intro (by omega) ?_
  repeat refine V_seq (x := .seq _ _) ?_
  first | refine VR [2] (by kernel_rfl) ?_ | refine VR1 [2] (by kernel_rfl) ?_
  push_cast (disch := omega)
  repeat refine And.intro (by omega) ?_
  refine callM_kit (Tryz.stringslite_Clone s w (by omega)) ?_
  intro w' hw
  push_cast (disch := omega)
  repeat refine And.intro (by omega) ?_
  first | refine V_seq (V_ret ?_) | refine V_ret ?_
  push_cast (disch := omega)
  exact Up.of_below hw
/-- Page k laid. -/
def PlS.lay (s : PlS) (k : Int) (b : ByteArray) : PlS := { s with laid := fun j => if j = k then some b else s.laid j, wet := s.wet.set (k / 64).toNat (bitI .or .u64 (s.wet.getD (k / 64).toNat 0) (IntKind.u64.wrap (2 ^ min (k % 64).toNat IntKind.u64.bits))) }
theorem play_ok (w : World) (p f m : Nat) (s : PlS) (k : Int) (b : ByteArray) (h : PlateAt w p f m s) (hs : s.sn = false) (ho : s.off = false) (hk : 0 ≤ k ∧ k < s.fixed.length) (hb : b.size = 32) :
    CallM Tryz.prog 69 #[.pointer (some ⟨p, 0, none⟩), .int .i64 k, .string b] w fun v w' => v = .int .i64 0 ∧ PlateAt w' p f m (s.lay k b) ∧ Kp (fun i => i = p ∨ i = m) w w' := by
  have hc := h.cell
  have hw := h.wlen
  have hsm := h.small
  rw [ho] at hc
  obtain ⟨l, clock, hm, hv, hr⟩ := h.map
  refine callM_V (args := [.pointer (some ⟨p, 0, none⟩), .int .i64 k, .string b]) Tryz.func69 rfl Tryz.ntmps69 rfl (rs := [(.tmp 6)]) rfl ?_
  push_cast (disch := omega)
  repeat refine V_seq (x := .seq _ _) ?_
  first | refine VR [0, 1, 2] (by kernel_rfl) ?_ | refine VR1 [0, 1, 2] (by kernel_rfl) ?_
  push_cast (disch := omega)
  repeat refine And.intro (by omega) ?_
  repeat refine V_seq (x := .seq _ _) ?_
  first | refine V_seq (V_block ?_) | refine V_block ?_
  repeat refine V_seq (x := .seq _ _) ?_
  first | refine VR [0, 1, 2, 8] (by kernel_rfl) ?_ | refine VR1 [0, 1, 2, 8] (by kernel_rfl) ?_
  push_cast (disch := omega)
  repeat refine And.intro (by omega) ?_
  refine callM_of (pnone_any w p f m s h) ?_
  rintro _ w1 ⟨rfl, rfl⟩
  push_cast (disch := omega)
  repeat refine And.intro (by omega) ?_
  repeat refine V_seq (x := .seq _ _) ?_
  first | refine V_seq (V_iff rfl ?_) | refine V_iff rfl ?_
  repeat refine V_seq (x := .seq _ _) ?_
  first | refine VR [0, 1, 2, 11] (by kernel_rfl) ?_ | refine VR1 [0, 1, 2, 11] (by kernel_rfl) ?_
  push_cast (disch := omega) [hc]
  repeat refine And.intro (by omega) ?_
  repeat refine V_seq (x := .seq _ _) ?_
  first | refine V_seq (V_iff rfl ?_) | refine V_iff rfl ?_
  repeat refine V_seq (x := .seq _ _) ?_
  first | refine VR [0, 1, 2, 16] (by kernel_rfl) ?_ | refine VR1 [0, 1, 2, 16] (by kernel_rfl) ?_
  push_cast (disch := omega)
  repeat refine And.intro (by omega) ?_
  refine callM_of (pthere_any w1 p f m s k h) ?_
  rintro _ w2 ⟨rfl, rfl⟩
  push_cast (disch := omega)
  repeat refine And.intro (by omega) ?_
  rw [decide_eq_true hk]
  push_cast (disch := omega)
  repeat refine And.intro (by omega) ?_
  repeat refine V_seq (x := .seq _ _) ?_
  first | refine V_seq (V_iff rfl ?_) | refine V_iff rfl ?_
  first | refine V_seq (V_skip ?_) | refine V_skip ?_
  push_cast (disch := omega)
  repeat refine V_seq (x := .seq _ _) ?_
  first | refine VR [0, 1, 2, 7] (by kernel_rfl) ?_ | refine VR1 [0, 1, 2, 7] (by kernel_rfl) ?_
  push_cast (disch := omega)
  repeat refine And.intro (by omega) ?_
  refine callM_of (psnags_no w2 p f m s h hs) ?_
  rintro _ w3 ⟨rfl, rfl⟩
  push_cast (disch := omega)
  repeat refine And.intro (by omega) ?_
  repeat refine V_seq (x := .seq _ _) ?_
  first | refine VD [0, 1, 7] [(true, 0), (true, 1), (true, 2), (true, 3), (true, 4), (true, 5), (false, 6), (false, 7)] (by kernel_rfl) (N := [3]) (by kernel_rfl) Tryz.mixed (fun _ _ _ h => h) ?_ | refine VD1 [0, 1, 7] [(true, 0), (true, 1), (true, 2), (true, 3), (true, 4), (true, 5), (false, 6), (false, 7)] (by kernel_rfl) (N := [3]) (by kernel_rfl) Tryz.mixed (fun _ _ _ h => h) ?_
  intro w4 hh hu4
  push_cast (disch := omega) [hh, hc]
  repeat refine And.intro (by omega) ?_
  refine callM_of (sclone_any b w4 (by omega)) ?_
  rintro _ w5 ⟨rfl, hu5⟩
  refine And.intro (up_ok (hu5)) ?_
  push_cast (disch := omega)
  repeat refine And.intro (by omega) ?_
  have hu35 : Up w3 w5 := hu4.trans hu5
  refine updM (hm.over hu35 id) und_ms und_int ?_
  rintro w6 clock' hs6 hx6 hm6
  refine And.intro (ob_no (by kernel_rfl)) ?_
  push_cast (disch := omega)
  repeat refine And.intro (by omega) ?_
  have hmp := h.mp
  have hfp := h.fp
  have hc6 := Kp.get hx6 (Up.get hu35 hc) hmp.1.symm
  have hi : (k / 64).toNat < 64 := by omega
  have hw1 := plateC_w (F := .slice (some ⟨f, 0, none⟩) s.fixed.length s.fixed.length) (M := .map (some m)) (off := false) (sn := s.sn) (left := s.left) (K := s.keep) hw hi
  repeat refine V_seq (x := .seq _ _) ?_
  first | refine VD [0, 7] [(true, 0), (true, 1), (true, 2), (true, 3), (true, 4), (true, 5), (true, 6), (true, 7), (true, 8), (true, 9), (true, 10), (true, 11), (true, 12), (true, 13), (true, 14), (false, 15)] (by kernel_rfl) (N := [2, 6, 8, 9, 10, 11]) (by kernel_rfl) Tryz.mixed (fun _ _ _ h => h) ?_ | refine VD1 [0, 7] [(true, 0), (true, 1), (true, 2), (true, 3), (true, 4), (true, 5), (true, 6), (true, 7), (true, 8), (true, 9), (true, 10), (true, 11), (true, 12), (true, 13), (true, 14), (false, 15)] (by kernel_rfl) (N := [2, 6, 8, 9, 10, 11]) (by kernel_rfl) Tryz.mixed (fun _ _ _ h => h) ?_
  intro w7 hh7 hu7
  push_cast (disch := omega) [hh7, hc6, hw1]
  repeat refine And.intro (by omega) ?_
  rw [plateC_sw hw hi]
  refine fun w8 hs8 hx8 hg8 => ?_
  push_cast (disch := omega)
  repeat refine And.intro (by omega) ?_
  refine And.intro (ob_no (by kernel_rfl)) ?_
  push_cast (disch := omega)
  repeat refine And.intro (by omega) ?_
  repeat refine V_seq (x := .seq _ _) ?_
  first | refine VR [0, 50] (by kernel_rfl) ?_ | refine VR1 [0, 50] (by kernel_rfl) ?_
  push_cast (disch := omega)
  repeat refine And.intro (by omega) ?_
  repeat refine V_seq (x := .seq _ _) ?_
  first | refine V_seq (V_iff rfl ?_) | refine V_iff rfl ?_
  first | refine V_seq (V_skip ?_) | refine V_skip ?_
  push_cast (disch := omega)
  repeat refine V_seq (x := .seq _ _) ?_
  first | refine VR [6] (by kernel_rfl) ?_ | refine VR1 [6] (by kernel_rfl) ?_
  push_cast (disch := omega)
  repeat refine And.intro (by omega) ?_
  first | refine V_seq (V_ret ?_) | refine V_ret ?_
  push_cast (disch := omega)
  have e1 : s.wet.getD (k / 64).toNat 0 = s.wet[(k / 64).toNat] := by rw [List.getD_eq_getElem?_getD, List.getElem?_eq_getElem (by omega)]; rfl
  refine ⟨⟨?_, by simp [PlS.lay, hw], ?_, ?_, hsm⟩, ?_⟩
  · simp only [PlS.lay]
    rw [ho, e1]
    exact hg8
  · exact Kp.get hx8 (Up.get hu7 (Kp.get hx6 (Up.get hu35 h.fix) hmp.2.symm)) hfp
  · refine ⟨_, clock', (hm6.over hu7 id).over hx8 hmp.1, ?_, ?_⟩
    · intro j
      rw [getM_put, hv]
      simp only [PlS.lay]
      by_cases hj : j = k
      · rw [if_pos hj, if_pos hj]; rfl
      · rw [if_neg hj, if_neg hj]
    · intro e he
      rcases mem_put he with he | ⟨e', he', h3⟩
      · rw [he]; exact hk
      · rw [← h3]; exact hr e' he'
  · exact (((hu35.mono (fun _ _ e => e.elim)).step hx6 (fun i _ e => .inr e)).step hu7 (fun _ _ e => e.elim)).step hx8 (fun i _ e => .inl e)
end Go.Proofs
namespace Go.Proofs
open Go Go.Vc Go.RowKit Go.Lib
set_option maxRecDepth 100000
set_option linter.unusedVariables false
/-- All that was laid is fixed. -/
def PlS.fix (s : PlS) : PlS := { s.dry with fixed := (List.range s.fixed.length).map fun i : Nat => (s.laid (i : Int)).getD (s.fixed.getD i .empty) }
theorem pfix_ok (w : World) (p f m : Nat) (s : PlS) (h : PlateAt w p f m s) (hs : s.sn = false) (ho : s.off = false) :
    CallM Tryz.prog 72 #[.pointer (some ⟨p, 0, none⟩)] w fun v w' => v = .int .i64 0 ∧ ∃ m', PlateAt w' p f m' s.fix ∧ w.heap.size ≤ m' ∧ Kp (fun i => i = p ∨ i = f) w w' := by
  have hc := h.cell
  have hw := h.wlen
  have hsm := h.small
  have hfp := h.fp
  have hmp := h.mp
  have hlt := lt_of_get hc
  have hltf := lt_of_get h.fix
  rw [ho] at hc
  obtain ⟨l, clock, hm, hv, hr⟩ := h.map
  have hltm := lt_of_get hm.cell
  refine callM_V (args := [.pointer (some ⟨p, 0, none⟩)]) Tryz.func72 rfl Tryz.ntmps72 rfl (rs := [(.tmp 2)]) rfl ?_
  push_cast (disch := omega)
  repeat refine V_seq (x := .seq _ _) ?_
  first | refine VR [0] (by kernel_rfl) ?_ | refine VR1 [0] (by kernel_rfl) ?_
  push_cast (disch := omega)
  repeat refine And.intro (by omega) ?_
  repeat refine V_seq (x := .seq _ _) ?_
  first | refine V_seq (V_block ?_) | refine V_block ?_
  repeat refine V_seq (x := .seq _ _) ?_
  first | refine VR [0, 5] (by kernel_rfl) ?_ | refine VR1 [0, 5] (by kernel_rfl) ?_
  push_cast (disch := omega)
  repeat refine And.intro (by omega) ?_
  refine callM_of (pnone_any w p f m s h) ?_
  rintro _ w1 ⟨rfl, rfl⟩
  push_cast (disch := omega)
  repeat refine And.intro (by omega) ?_
  repeat refine V_seq (x := .seq _ _) ?_
  first | refine V_seq (V_iff rfl ?_) | refine V_iff rfl ?_
  repeat refine V_seq (x := .seq _ _) ?_
  first | refine VR [0, 8] (by kernel_rfl) ?_ | refine VR1 [0, 8] (by kernel_rfl) ?_
  push_cast (disch := omega) [hc]
  repeat refine And.intro (by omega) ?_
  repeat refine V_seq (x := .seq _ _) ?_
  first | refine V_seq (V_iff rfl ?_) | refine V_iff rfl ?_
  repeat refine V_seq (x := .seq _ _) ?_
  first | refine VR [0, 13] (by kernel_rfl) ?_ | refine VR1 [0, 13] (by kernel_rfl) ?_
  push_cast (disch := omega)
  repeat refine And.intro (by omega) ?_
  refine callM_of (psnags_no w1 p f m s h hs) ?_
  rintro _ w2 ⟨rfl, rfl⟩
  push_cast (disch := omega)
  repeat refine And.intro (by omega) ?_
  repeat refine V_seq (x := .seq _ _) ?_
  first | refine V_seq (V_iff rfl ?_) | refine V_iff rfl ?_
  first | refine V_seq (V_skip ?_) | refine V_skip ?_
  push_cast (disch := omega)
  repeat refine V_seq (x := .seq _ _) ?_
  first | refine VR [0, 26] (by kernel_rfl) ?_ | refine VR1 [0, 26] (by kernel_rfl) ?_
  push_cast (disch := omega) [hc]
  repeat refine And.intro (by omega) ?_
  refine rangeM hm und_ms ?_
  rintro it w3 hb3 hs3 hu3 hg3
  push_cast (disch := omega)
  repeat refine And.intro (by omega) ?_
  repeat refine V_seq (x := .seq _ _) ?_
  first | refine V_seq (V_block ?_) | refine V_block ?_
  repeat refine V_seq (x := .seq _ _) ?_
  first | refine V_seq (V_loopE (ι := List Nat × Nat × List ByteArray) [0, 26] (fun ⟨seen, c0, F⟩ => [(0, .pointer (some ⟨p, 0, none⟩)), (26, .pointer (some ⟨it, 0, none⟩))]) (fun ⟨seen, c0, F⟩ => fun w' => (F.length = s.fixed.length ∧ clock ≤ c0) ∧ w'.heap[it]? = some (.mapIter (some m) clock seen.toArray c0) ∧ w'.heap[f]? = some (.cells (strV F).toArray 9 (0, 0)) ∧ Kp (fun i => i = f ∨ i = it) w3 w' ∧ ∀ i, i < s.fixed.length → F[i]? = some (if ∃ e ∈ l, e.2.2 ∈ seen ∧ e.1 = i then (s.laid i).getD .empty else s.fixed.getD i .empty)) (fun ⟨seen, c0, F⟩ => leftN l seen) (([], clock, s.fixed)) (by first | (push_cast; rfl) | (push_cast; done)) (⟨⟨rfl, Nat.le_refl _⟩, hg3, Up.get hu3 h.fix, Kp.refl _ _, fun i hi => by simp [hi]⟩) ?_) | refine V_loopE (ι := List Nat × Nat × List ByteArray) [0, 26] (fun ⟨seen, c0, F⟩ => [(0, .pointer (some ⟨p, 0, none⟩)), (26, .pointer (some ⟨it, 0, none⟩))]) (fun ⟨seen, c0, F⟩ => fun w' => (F.length = s.fixed.length ∧ clock ≤ c0) ∧ w'.heap[it]? = some (.mapIter (some m) clock seen.toArray c0) ∧ w'.heap[f]? = some (.cells (strV F).toArray 9 (0, 0)) ∧ Kp (fun i => i = f ∨ i = it) w3 w' ∧ ∀ i, i < s.fixed.length → F[i]? = some (if ∃ e ∈ l, e.2.2 ∈ seen ∧ e.1 = i then (s.laid i).getD .empty else s.fixed.getD i .empty)) (fun ⟨seen, c0, F⟩ => leftN l seen) (([], clock, s.fixed)) (by first | (push_cast; rfl) | (push_cast; done)) (⟨⟨rfl, Nat.le_refl _⟩, hg3, Up.get hu3 h.fix, Kp.refl _ _, fun i hi => by simp [hi]⟩) ?_
  rintro ⟨seen, c0, F⟩ wl hI
  obtain ⟨⟨hF, hcl⟩, hit, hff, hk, hval⟩ := hI
  have hml : MapAt wl m .i64 l clock := (hm.over hu3 id).over hk (by rintro (e | e) <;> omega)
  repeat refine V_seq (x := .seq _ _) ?_
  first | refine VR [0, 26, 28] (by kernel_rfl) ?_ | refine VR1 [0, 26, 28] (by kernel_rfl) ?_
  push_cast (disch := omega)
  repeat refine And.intro (by omega) ?_
  have hc3 := Up.get hu3 hc
  have hcl3 : wl.heap[p]? = _ := Kp.get hk hc3 (by rintro (e | e) <;> omega)
  refine nextM hml hit hm.old hcl ?_ ?_
  · intro hall
    push_cast (disch := omega)
    repeat refine And.intro (by omega) ?_
    repeat refine V_seq (x := .seq _ _) ?_
    first | refine V_seq (V_iff rfl ?_) | refine V_iff rfl ?_
    first | refine V_seq (V_exit ?_) | refine V_exit ?_
    push_cast (disch := omega)
    have hFe : F = (List.range s.fixed.length).map fun i : Nat => (s.laid (i : Int)).getD (s.fixed.getD i .empty) := by
      apply List.ext_getElem?
      intro i
      rcases Nat.lt_or_ge i s.fixed.length with hi | hi
      · rw [hval i hi, List.getElem?_map, List.getElem?_range hi]
        simp only [Option.map_some]
        congr 1
        cases hl : s.laid i with
        | none =>
          rw [if_neg]
          · rfl
          · rintro ⟨e, he, _, h3⟩
            have h1 := getM_mem hm.keys he
            rw [hv, h3, hl] at h1
            cases h1
        | some b =>
          rw [if_pos]
          · rfl
          · have h1 := hv (i : Int)
            rw [hl] at h1
            obtain ⟨e, he, h2, _⟩ := getM_some h1
            exact ⟨e, he, hall e he, h2⟩
      · rw [List.getElem?_eq_none (by omega), List.getElem?_eq_none (by simpa using hi)]
    have hp1 : PlateAt wl p f m { s with fixed := F } := ⟨by simp only; rw [hF, ho]; exact hcl3, hw, hff, ⟨l, clock, hml, hv, by simp only; rw [hF]; exact hr⟩, by simp only; omega⟩
    repeat refine V_seq (x := .seq _ _) ?_
    first | refine VR [] (by kernel_rfl) ?_ | refine VR1 [] (by kernel_rfl) ?_
    push_cast (disch := omega)
    repeat refine And.intro (by omega) ?_
    refine callM_of (pdry_any wl p f m _ hp1) ?_
    rintro _ w5 ⟨rfl, m', hp5, hm5, hx5⟩
    push_cast (disch := omega)
    repeat refine And.intro (by omega) ?_
    repeat refine V_seq (x := .seq _ _) ?_
    first | refine VR [2] (by kernel_rfl) ?_ | refine VR1 [2] (by kernel_rfl) ?_
    push_cast (disch := omega)
    repeat refine And.intro (by omega) ?_
    first | refine V_seq (V_ret ?_) | refine V_ret ?_
    push_cast (disch := omega)
    have hk2 : Kp (fun i => i = p ∨ i = f) w2 wl := (hu3.mono (fun _ _ e => e.elim)).step hk (fun i hi e => by rcases e with e | e; exact .inr e; omega)
    refine ⟨m', ?_, by have := hk2.size; omega, hk2.step hx5 (fun i _ e => .inl e)⟩
    have e5 : PlS.dry { s with fixed := F } = s.fix := by
      unfold PlS.fix PlS.dry
      rw [hFe]
    rw [← e5]
    exact hp5
  · intro e he hne w4 hs4 hx4 hg4
    have hml4 : MapAt w4 m .i64 l clock := hml.over hx4 (by show m ≠ it; omega)
    obtain ⟨b, hb1, hb2⟩ : ∃ b, e.2.1 = .string b ∧ s.laid e.1 = some b := by
      have h1 := getM_mem hm.keys he
      rw [hv] at h1
      obtain ⟨b, h2, h3⟩ := Option.map_eq_some_iff.1 h1
      exact ⟨b, h3.symm, h2⟩
    have hke := hr e he
    push_cast (disch := omega)
    repeat refine And.intro (by omega) ?_
    repeat refine V_seq (x := .seq _ _) ?_
    first | refine V_seq (V_ift rfl ?_) | refine V_ift rfl ?_
    first | refine V_seq (V_skip ?_) | refine V_skip ?_
    push_cast (disch := omega)
    repeat refine V_seq (x := .seq _ _) ?_
    first | refine V_seq (V_block ?_) | refine V_block ?_
    repeat refine V_seq (x := .seq _ _) ?_
    first | refine VR [0, 3, 4, 26] (by kernel_rfl) ?_ | refine VR1 [0, 3, 4, 26] (by kernel_rfl) ?_
    push_cast (disch := omega)
    repeat refine And.intro (by omega) ?_
    refine entryM hml4 hg4 he ?_
    push_cast (disch := omega)
    repeat refine And.intro (by omega) ?_
    rw [hb1]
    have hc4 := Kp.get hx4 hcl3 (by show p ≠ it; omega)
    have hf4 := Kp.get hx4 hff (by show f ≠ it; omega)
    have hFl : (strV F).length = F.length := strV_len F
    repeat refine V_seq (x := .seq _ _) ?_
    first | refine VR [0, 26] (by kernel_rfl) ?_ | refine VR1 [0, 26] (by kernel_rfl) ?_
    push_cast (disch := omega) [hc4, hf4]
    repeat refine And.intro (by omega) ?_
    refine fun w5 hs5 hx5 hg5 => ?_
    push_cast (disch := omega)
    repeat refine And.intro (by omega) ?_
    refine ⟨(seen ++ [e.2.2], clock, F.set e.1.toNat b), rfl, ?_, leftN_less he hne⟩
    dsimp only
    refine ⟨⟨by simp [hF], Nat.le_refl _⟩, Kp.get hx5 hg4 (by show it ≠ f; omega), ?_, ?_, fun i hi => ?_⟩
    · rw [show strV (F.set e.1.toNat b) = (strV F).set e.1.toNat (.string b) from List.map_set]
      exact hg5
    · exact (hk.step hx4 (fun i _ e => .inr e)).step hx5 (fun i _ e => .inl e)
    · by_cases hik : e.1.toNat = i
      · rw [List.getElem?_set, if_pos hik, if_pos (by omega), if_pos ⟨e, he, by simp, by omega⟩, show ((i : Nat) : Int) = e.1 from by omega, hb2]
        rfl
      · rw [List.getElem?_set_ne hik, hval i hi]
        congr 1
        have : (∃ e', e' ∈ l ∧ e'.2.2 ∈ seen ++ [e.2.2] ∧ e'.1 = (i : Int)) ↔ (∃ e', e' ∈ l ∧ e'.2.2 ∈ seen ∧ e'.1 = (i : Int)) := by
          constructor
          · rintro ⟨e', h1, h2, h3⟩
            rcases List.mem_append.1 h2 with h2 | h2
            · exact ⟨e', h1, h2, h3⟩
            · have : e' = e := born_uniq hm.born h1 he (by simpa using h2)
              subst this
              omega
          · rintro ⟨e', h1, h2, h3⟩
            exact ⟨e', h1, List.mem_append_left _ h2, h3⟩
        simp only [this]
end Go.Proofs
namespace Go.Proofs
open Go Go.Vc Go.RowKit Go.Lib
set_option maxRecDepth 100000
set_option linter.unusedVariables false
/-- A new plate of n pages. -/
def PlS.new (n : Nat) : PlS := ⟨List.replicate n (zerosB 32), fun _ => none, List.replicate 64 0, false, false, 0, .slice none 0 0⟩
theorem pnew_any (n : Int) (w : World) (h : 0 ≤ n ∧ n ≤ 250) : CallM Tryz.prog 12 #[.int .i64 n] w fun v w' => ∃ p f m, v = .pointer (some ⟨p, 0, none⟩) ∧ PlateAt w' p f m (.new n.toNat) ∧ (w.heap.size ≤ p ∧ w.heap.size ≤ f ∧ w.heap.size ≤ m) ∧ Up w w' := by
  refine callM_V (args := [.int .i64 n]) Tryz.func12 rfl Tryz.ntmps12 rfl (rs := [(.tmp 2)]) rfl ?_
  push_cast (disch := omega)
  repeat refine V_seq (x := .seq _ _) ?_
  first | refine VR [0] (by kernel_rfl) ?_ | refine VR1 [0] (by kernel_rfl) ?_
  push_cast (disch := omega)
  repeat refine And.intro (by omega) ?_
  repeat refine V_seq (x := .seq _ _) ?_
  first | refine VR [3] (by kernel_rfl) ?_ | refine VR1 [3] (by kernel_rfl) ?_
  push_cast (disch := omega)
  repeat refine And.intro (by omega) ?_
  rw [show min (max n 0) 250 = ((n.toNat : Nat) : Int) from by omega]
  refine makeM slT_strs.under ⟨_, rfl, rfl, rfl, Nat.le_of_ble_eq_true rfl⟩ rfl (by omega) ?_
  rintro f w1 hb1 hs1 hu1 hg1
  push_cast (disch := omega)
  repeat refine And.intro (by omega) ?_
  refine makeMapM (q := .i64) ?_
  rintro m w2 hb2 hs2 hu2 hm2
  push_cast (disch := omega)
  repeat refine And.intro (by omega) ?_
  refine fun p w3 hb3 hs3 hu3 hg3 => ?_
  push_cast (disch := omega)
  repeat refine And.intro (by omega) ?_
  have hc3 : w3.heap[p]? = some (.cells (plateC (.slice (some ⟨f, 0, none⟩) n.toNat n.toNat) (.map (some m)) (List.replicate 64 0) false false 0 (.slice none 0 0)).toArray 86 (0, 0)) := hg3
  clear hg3
  have hf3 := Up.get hu3 (Up.get hu2 hg1)
  have hm3 := hm2.over hu3 id
  have hU3 : Up w w3 := (hu1.trans hu2).trans hu3
  repeat refine V_seq (x := .seq _ _) ?_
  first | refine VR [3, 16, 17] (by kernel_rfl) ?_ | refine VR1 [3, 16, 17] (by kernel_rfl) ?_
  push_cast (disch := omega) [hc3]
  repeat refine And.intro (by omega) ?_
  repeat refine V_seq (x := .seq _ _) ?_
  first | refine V_seq (V_block ?_) | refine V_block ?_
  repeat refine V_seq (x := .seq _ _) ?_
  first | refine V_seq (V_loopE (ι := Nat) [3, 16, 17] (fun i => [(3, .pointer (some ⟨p, 0, none⟩)), (16, .int .i64 n.toNat), (17, .int .i64 i)]) (fun i => fun w' => i ≤ n.toNat ∧ w'.heap[p]? = some (.cells (plateC (.slice (some ⟨f, 0, none⟩) n.toNat n.toNat) (.map (some m)) (List.replicate 64 0) false false 0 (.slice none 0 0)).toArray 86 (0, 0)) ∧ w'.heap[f]? = some (.cells (strV (List.replicate i (zerosB 32) ++ List.replicate (n.toNat - i) ⟨#[]⟩)).toArray 9 (0, 0)) ∧ MapAt w' m .i64 [] 0 ∧ Up w w') (fun i => n.toNat - i) (0) (by first | (push_cast; rfl) | (push_cast; done)) (⟨Nat.zero_le _, hc3, by simpa [strV] using hf3, hm3, hU3⟩) ?_) | refine V_loopE (ι := Nat) [3, 16, 17] (fun i => [(3, .pointer (some ⟨p, 0, none⟩)), (16, .int .i64 n.toNat), (17, .int .i64 i)]) (fun i => fun w' => i ≤ n.toNat ∧ w'.heap[p]? = some (.cells (plateC (.slice (some ⟨f, 0, none⟩) n.toNat n.toNat) (.map (some m)) (List.replicate 64 0) false false 0 (.slice none 0 0)).toArray 86 (0, 0)) ∧ w'.heap[f]? = some (.cells (strV (List.replicate i (zerosB 32) ++ List.replicate (n.toNat - i) ⟨#[]⟩)).toArray 9 (0, 0)) ∧ MapAt w' m .i64 [] 0 ∧ Up w w') (fun i => n.toNat - i) (0) (by first | (push_cast; rfl) | (push_cast; done)) (⟨Nat.zero_le _, hc3, by simpa [strV] using hf3, hm3, hU3⟩) ?_
  rintro i wl hI
  obtain ⟨hi, hc, hf, hm, hU⟩ := hI
  repeat refine V_seq (x := .seq _ _) ?_
  first | refine VR [3, 16, 17, 18] (by kernel_rfl) ?_ | refine VR1 [3, 16, 17, 18] (by kernel_rfl) ?_
  push_cast (disch := omega)
  repeat refine And.intro (by omega) ?_
  repeat refine V_seq (x := .seq _ _) ?_
  first | refine V_seq (V_ifd rfl (fun h1 => ?_) (fun h1 => ?_)) | refine V_ifd rfl (fun h1 => ?_) (fun h1 => ?_)
  · first | refine V_seq (V_skip ?_) | refine V_skip ?_
    push_cast (disch := omega)
    repeat refine V_seq (x := .seq _ _) ?_
    first | refine V_seq (V_block ?_) | refine V_block ?_
    repeat refine V_seq (x := .seq _ _) ?_
    first | refine VR [3, 4, 16, 17] (by kernel_rfl) ?_ | refine VR1 [3, 4, 16, 17] (by kernel_rfl) ?_
    push_cast (disch := omega)
    repeat refine And.intro (by omega) ?_
    repeat refine V_seq (x := .seq _ _) ?_
    first | refine VD [3, 16, 17] [(true, 0), (true, 1), (true, 2), (true, 3), (true, 4), (false, 5), (true, 6), (false, 7)] (by kernel_rfl) (N := [3]) (by kernel_rfl) Tryz.mixed (fun _ _ _ h => h) ?_ | refine VD1 [3, 16, 17] [(true, 0), (true, 1), (true, 2), (true, 3), (true, 4), (false, 5), (true, 6), (false, 7)] (by kernel_rfl) (N := [3]) (by kernel_rfl) Tryz.mixed (fun _ _ _ h => h) ?_
    intro w4 hh4 hu4
    push_cast (disch := omega) [hh4, hc, hf]
    repeat refine And.intro (by omega) ?_
    refine callM_of (repeat_any 32 w4 (by omega)) ?_
    rintro _ w5 ⟨rfl, hu5⟩
    refine And.intro (up_ok (hu5)) ?_
    push_cast (disch := omega)
    repeat refine And.intro (by omega) ?_
    have hu45 : Up wl w5 := hu4.trans hu5
    have hf5 := Up.get hu45 hf
    have hFl : (strV (List.replicate i (zerosB 32) ++ List.replicate (n.toNat - i) (⟨#[]⟩ : ByteArray))).length = n.toNat := by simp [strV]; omega
    push_cast (disch := omega) [hf5]
    repeat refine And.intro (by omega) ?_
    refine fun w6 hs6 hx6 hg6 => ?_
    push_cast (disch := omega)
    repeat refine And.intro (by omega) ?_
    refine And.intro (ob_no (by kernel_rfl)) ?_
    push_cast (disch := omega)
    repeat refine And.intro (by omega) ?_
    repeat refine V_seq (x := .seq _ _) ?_
    first | refine VR [3, 16, 17] (by kernel_rfl) ?_ | refine VR1 [3, 16, 17] (by kernel_rfl) ?_
    push_cast (disch := omega)
    repeat refine And.intro (by omega) ?_
    refine ⟨i + 1, ?_, ?_, (by dsimp only; omega)⟩ <;> dsimp only
    · push_cast
    · have hpf : p ≠ f := by omega
      refine ⟨by omega, Kp.get hx6 (Up.get hu45 hc) (by show p ≠ f; omega), ?_, (hm.over hu45 id).over hx6 (by show m ≠ f; omega), Up.write (hU.trans hu45) hx6 (by omega)⟩
      have e : (strV (List.replicate i (zerosB 32) ++ List.replicate (n.toNat - i) (⟨#[]⟩ : ByteArray))).set i (.string (zerosB 32)) = strV (List.replicate (i + 1) (zerosB 32) ++ List.replicate (n.toNat - (i + 1)) (⟨#[]⟩ : ByteArray)) := by
        rw [show n.toNat - i = (n.toNat - (i + 1)) + 1 from by omega, List.replicate_succ, List.replicate_succ' (n := i)]
        unfold strV
        rw [← List.map_set, List.set_append_right _ _ (by simp)]
        simp
      rw [← e]
      exact hg6
  · first | refine V_seq (V_exit ?_) | refine V_exit ?_
    push_cast (disch := omega)
    obtain rfl : i = n.toNat := by omega
    repeat refine V_seq (x := .seq _ _) ?_
    first | refine VR [2] (by kernel_rfl) ?_ | refine VR1 [2] (by kernel_rfl) ?_
    push_cast (disch := omega)
    repeat refine And.intro (by omega) ?_
    first | refine V_seq (V_ret ?_) | refine V_ret ?_
    push_cast (disch := omega)
    refine ⟨p, f, m, rfl, ⟨by simpa [PlS.new] using hc, by simp [PlS.new], by simpa [PlS.new] using hf, ⟨[], 0, hm, fun k => rfl, by simp⟩, by simp [PlS.new]; omega⟩, by omega, hU⟩
end Go.Proofs
namespace Go.Proofs
open Go Go.Vc Go.RowKit Go.Lib
set_option maxRecDepth 100000
set_option linter.unusedVariables false
/-- The parts on some pages; or the error of the first that can't be read. -/
def PlS.readL (s : PlS) : List Int → List ByteArray × Int
  | [] => ([], 0)
  | k :: r => if (s.get k).2 = 0 then (if (readB (s.get k).1).2 = 0 then (if (s.readL r).2 = 0 then ((readB (s.get k).1).1 :: (s.readL r).1, 0) else ([], (s.readL r).2)) else ([], 6)) else ([], (s.get k).2)
def catB : List ByteArray → List UInt8
  | [] => []
  | b :: r => b.data.toList ++ catB r
theorem catB_app (l r : List ByteArray) : catB (l ++ r) = catB l ++ catB r := by
  induction l with
  | nil => rfl
  | cons b l ih => rw [List.cons_append, catB, catB, ih, List.append_assoc]
theorem readB_size (b : ByteArray) : (readB b).1.size ≤ 27 := by
  unfold readB
  split
  · rename_i h0
    split
    · split
      · have := bAt_range (pageO b).1 0
        rw [ByteArray.size_extract]; omega
      · exact Nat.zero_le _
    · exact Nat.zero_le _
  · exact Nat.zero_le _
/-- Every page has its size. -/
structure PlS.ok (s : PlS) : Prop where
  fixed : ∀ b ∈ s.fixed, b.size = 32
  laid : ∀ k b, s.laid k = some b → b.size = 32
theorem PlS.ok.get {s : PlS} (h : s.ok) (k : Int) : (s.get k).1.size ≤ 32 := by
  unfold PlS.get
  split
  · exact Nat.zero_le _
  · split
    · cases hl : s.laid k with
      | some b => have := h.laid k b hl; simp only [Option.getD_some]; omega
      | none =>
        simp only [Option.getD_none]
        rw [List.getD_eq_getElem?_getD]
        cases hg : s.fixed[k.toNat]? with
        | none => exact Nat.zero_le _
        | some b => have := h.fixed b (List.mem_of_getElem? hg); simp only [Option.getD_some]; omega
    · exact Nat.zero_le _
theorem readL_split (s : PlS) : ∀ (l r : List Int), (s.readL l).2 = 0 → s.readL (l ++ r) = if (s.readL r).2 = 0 then ((s.readL l).1 ++ (s.readL r).1, 0) else ([], (s.readL r).2)
  | [], r, _ => by
    simp only [List.nil_append, PlS.readL]
    split
    · rename_i h; rw [← h]
    · rename_i h
      generalize hx : s.readL r = x at *
      cases r with
      | nil => rw [PlS.readL] at hx; subst hx; exact absurd rfl h
      | cons k r =>
        rw [PlS.readL] at hx
        split at hx
        · split at hx
          · split at hx
            · subst hx; exact absurd rfl h
            · subst hx; rfl
          · subst hx; rfl
        · subst hx; rfl
  | k :: l, r, h => by
    simp only [List.cons_append, PlS.readL] at h ⊢
    by_cases h1 : (s.get k).2 = 0
    · by_cases h2 : (readB (s.get k).1).2 = 0
      · rw [if_pos h1, if_pos h2] at h ⊢
        by_cases h3 : (s.readL l).2 = 0
        · rw [if_pos h1, if_pos h2, if_pos h3]
          rw [readL_split s l r h3]
          by_cases h4 : (s.readL r).2 = 0
          · rw [if_pos h4, if_pos rfl, if_pos h4]; rfl
          · rw [if_neg h4]
            simp only [if_neg h4]
        · rw [if_neg h3] at h
          exact absurd h h3
      · rw [if_pos h1, if_neg h2] at h; exact absurd h (by decide)
    · rw [if_neg h1] at h; exact absurd h h1
end Go.Proofs
namespace Go.Proofs
open Go Go.Vc Go.RowKit Go.Lib
set_option maxRecDepth 100000
set_option linter.unusedVariables false
theorem bread_any (w : World) (p f m : Nat) (s : PlS) (pv : Value) (pages : List Int) (h : PlateAt w p f m s) (hok : s.ok) (hp : SlR w 1 pv pages.length (intV pages)) (hl : pages.length ≤ 1000) :
    CallM Tryz.prog 43 #[.pointer (some ⟨p, 0, none⟩), pv] w fun v w' => (∃ v2, v = .tuple #[.string ⟨(catB (s.readL pages).1).toArray⟩, v2, .int .i64 (s.readL pages).2] ∧ w'.ownsRow w.heap.size 9 1 v2 (s.readL pages).1.length (strV (s.readL pages).1)) ∧ Up w w' := by
  obtain ⟨pa, pc, rfl⟩ : ∃ a c, pv = .slice a pages.length c := by obtain ⟨_, a, c, h, _⟩ := hp; exact ⟨a, c, h⟩
  refine callM_V (args := [.pointer (some ⟨p, 0, none⟩), .slice pa pages.length pc]) Tryz.func43 rfl Tryz.ntmps43 rfl (rs := [(.tmp 4), (.tmp 5), (.tmp 6)]) rfl ?_
  push_cast (disch := omega)
  repeat refine V_seq (x := .seq _ _) ?_
  first | refine VR [0, 1] (by kernel_rfl) ?_ | refine VR1 [0, 1] (by kernel_rfl) ?_
  push_cast (disch := omega)
  repeat refine And.intro (by omega) ?_
  repeat refine V_seq (x := .seq _ _) ?_
  first | refine VR [0, 1, 7] (by kernel_rfl) ?_ | refine VR1 [0, 1, 7] (by kernel_rfl) ?_
  push_cast (disch := omega)
  repeat refine And.intro (by omega) ?_
  refine fun b w1 hb hs hu hg => ?_
  push_cast (disch := omega)
  repeat refine And.intro (by omega) ?_
  have hB1 : BldAt w1 b (.pointer none) (.slice none 0 0) [] := ⟨hg, World.ownsRowF_nil _ _ _ _, (by intro e; cases e), .inl rfl⟩
  repeat refine V_seq (x := .seq _ _) ?_
  first | refine VR [0, 1, 7, 8] (by kernel_rfl) ?_ | refine VR1 [0, 1, 7, 8] (by kernel_rfl) ?_
  push_cast (disch := omega)
  repeat refine And.intro (by omega) ?_
  repeat refine V_seq (x := .seq _ _) ?_
  first | refine VR [0, 7, 8, 14, 15, 16] (by kernel_rfl) ?_ | refine VR1 [0, 7, 8, 14, 15, 16] (by kernel_rfl) ?_
  push_cast (disch := omega)
  repeat refine And.intro (by omega) ?_
  repeat refine V_seq (x := .seq _ _) ?_
  first | refine V_seq (V_block ?_) | refine V_block ?_
  repeat refine V_seq (x := .seq _ _) ?_
  first | refine V_seq (V_loopE (ι := Nat × Value) [0, 7, 8, 14, 15, 16] (fun ⟨i, v2⟩ => [(0, .pointer (some ⟨p, 0, none⟩)), (7, .pointer (some ⟨b, 0, none⟩)), (8, v2), (14, .slice pa pages.length pc), (15, .int .i64 pages.length), (16, .int .i64 i)]) (fun ⟨i, v2⟩ => fun w' => (i ≤ pages.length ∧ (s.readL (pages.take i)).1.length = i ∧ (catB (s.readL (pages.take i)).1).length ≤ 27 * i) ∧ (s.readL (pages.take i)).2 = 0 ∧ ∃ q bv, BldAt w' b q bv (byteCells (catB (s.readL (pages.take i)).1)) ∧ (catB (s.readL (pages.take i)).1 = [] → bv = .slice none 0 0) ∧ w'.ownsRow w.heap.size 9 1 v2 (s.readL (pages.take i)).1.length (strV (s.readL (pages.take i)).1) ∧ Mine w w' b bv ∧ v2.ownBlock ≠ some b ∧ (∀ g, v2.ownBlock = some g → bv.ownBlock ≠ some g)) (fun ⟨i, v2⟩ => pages.length - i) ((0, .slice none 0 0)) (by first | (push_cast; rfl) | (push_cast; done)) (⟨⟨Nat.zero_le _, rfl, Nat.zero_le _⟩, rfl, _, _, hB1, fun _ => rfl, World.ownsRow_nil _ _ _ _, ⟨hu, by omega, fun g e => by cases e⟩, (by intro e; cases e), fun g e => by cases e⟩) ?_) | refine V_loopE (ι := Nat × Value) [0, 7, 8, 14, 15, 16] (fun ⟨i, v2⟩ => [(0, .pointer (some ⟨p, 0, none⟩)), (7, .pointer (some ⟨b, 0, none⟩)), (8, v2), (14, .slice pa pages.length pc), (15, .int .i64 pages.length), (16, .int .i64 i)]) (fun ⟨i, v2⟩ => fun w' => (i ≤ pages.length ∧ (s.readL (pages.take i)).1.length = i ∧ (catB (s.readL (pages.take i)).1).length ≤ 27 * i) ∧ (s.readL (pages.take i)).2 = 0 ∧ ∃ q bv, BldAt w' b q bv (byteCells (catB (s.readL (pages.take i)).1)) ∧ (catB (s.readL (pages.take i)).1 = [] → bv = .slice none 0 0) ∧ w'.ownsRow w.heap.size 9 1 v2 (s.readL (pages.take i)).1.length (strV (s.readL (pages.take i)).1) ∧ Mine w w' b bv ∧ v2.ownBlock ≠ some b ∧ (∀ g, v2.ownBlock = some g → bv.ownBlock ≠ some g)) (fun ⟨i, v2⟩ => pages.length - i) ((0, .slice none 0 0)) (by first | (push_cast; rfl) | (push_cast; done)) (⟨⟨Nat.zero_le _, rfl, Nat.zero_le _⟩, rfl, _, _, hB1, fun _ => rfl, World.ownsRow_nil _ _ _ _, ⟨hu, by omega, fun g e => by cases e⟩, (by intro e; cases e), fun g e => by cases e⟩) ?_
  rintro ⟨i, v2⟩ wl hI
  obtain ⟨⟨hi, hdl, hcl⟩, hz, q, bv, hB, hBn, hv2, hM, ha1, ha2⟩ := hI
  repeat refine V_seq (x := .seq _ _) ?_
  first | refine VR [0, 7, 8, 14, 15, 16, 17] (by kernel_rfl) ?_ | refine VR1 [0, 7, 8, 14, 15, 16, 17] (by kernel_rfl) ?_
  push_cast (disch := omega)
  repeat refine And.intro (by omega) ?_
  repeat refine V_seq (x := .seq _ _) ?_
  first | refine V_seq (V_ifd rfl (fun hc => ?_) (fun hc => ?_)) | refine V_ifd rfl (fun hc => ?_) (fun hc => ?_)
  · first | refine V_seq (V_skip ?_) | refine V_skip ?_
    push_cast (disch := omega)
    have hlt : i < pages.length := by omega
    obtain ⟨b0, o0, c0, cs, T, fr, hpv, hb0, hle, htk⟩ := hp.some (by omega)
    injection hpv with hpa _ hpc
    subst hpa hpc
    have hcell := cell_of_take htk (intV_get hlt)
    have hb0' := Up.get hM.up hb0
    have htk1 : pages.take (i + 1) = pages.take i ++ [pages[i]] := List.take_succ_eq_append_getElem hlt
    have hdr : pages = pages.take i ++ pages[i] :: pages.drop (i + 1) := by rw [← List.drop_eq_getElem_cons hlt, List.take_append_drop]
    have hpw := h.up hM.up
    repeat refine V_seq (x := .seq _ _) ?_
    first | refine V_seq (V_block ?_) | refine V_block ?_
    repeat refine V_seq (x := .seq _ _) ?_
    first | refine VR [0, 7, 8, 10, 14, 15, 16] (by kernel_rfl) ?_ | refine VR1 [0, 7, 8, 10, 14, 15, 16] (by kernel_rfl) ?_
    push_cast (disch := omega) [hb0', hcell]
    repeat refine And.intro (by omega) ?_
    repeat refine V_seq (x := .seq _ _) ?_
    first | refine VR [0, 7, 8, 11, 12, 14, 15, 16] (by kernel_rfl) ?_ | refine VR1 [0, 7, 8, 11, 12, 14, 15, 16] (by kernel_rfl) ?_
    push_cast (disch := omega)
    repeat refine And.intro (by omega) ?_
    refine callM_of (pget_any wl p f m s _ hpw) ?_
    rintro _ w4 ⟨rfl, rfl⟩
    push_cast (disch := omega)
    repeat refine And.intro (by omega) ?_
    have hgs := hok.get pages[i]
    repeat refine V_seq (x := .seq _ _) ?_
    first | refine VR [0, 7, 8, 11, 12, 14, 15, 16, 27] (by kernel_rfl) ?_ | refine VR1 [0, 7, 8, 11, 12, 14, 15, 16, 27] (by kernel_rfl) ?_
    push_cast (disch := omega)
    repeat refine And.intro (by omega) ?_
    have hsp := readL_split s (pages.take i) (pages[i] :: pages.drop (i + 1)) hz
    rw [← hdr] at hsp
    repeat refine V_seq (x := .seq _ _) ?_
    first | refine V_seq (V_ifnd rfl (fun h1 => ?_) (fun h1 => ?_)) | refine V_ifnd rfl (fun h1 => ?_) (fun h1 => ?_)
    · repeat refine V_seq (x := .seq _ _) ?_
      first | refine VR [4, 5, 6] (by kernel_rfl) ?_ | refine VR1 [4, 5, 6] (by kernel_rfl) ?_
      push_cast (disch := omega)
      repeat refine And.intro (by omega) ?_
      first | refine V_seq (V_ret ?_) | refine V_ret ?_
      push_cast (disch := omega)
      have hR : s.readL pages = ([], (s.get pages[i]).2) := by rw [hsp]; simp [PlS.readL, h1]
      rw [hR]
      exact ⟨⟨_, rfl, World.ownsRow_nil _ _ _ _⟩, hM.up⟩
    · first | refine V_seq (V_skip ?_) | refine V_skip ?_
      push_cast (disch := omega)
      repeat refine V_seq (x := .seq _ _) ?_
      first | refine VR [0, 7, 8, 12, 13, 14, 15, 16] (by kernel_rfl) ?_ | refine VR1 [0, 7, 8, 12, 13, 14, 15, 16] (by kernel_rfl) ?_
      push_cast (disch := omega)
      repeat refine And.intro (by omega) ?_
      refine callM_of (read_leaf _ w4 (by omega)) ?_
      rintro _ w5 ⟨rfl, hu5⟩
      push_cast (disch := omega)
      repeat refine And.intro (by omega) ?_
      repeat refine V_seq (x := .seq _ _) ?_
      first | refine VR [0, 7, 8, 13, 14, 15, 16, 35] (by kernel_rfl) ?_ | refine VR1 [0, 7, 8, 13, 14, 15, 16, 35] (by kernel_rfl) ?_
      push_cast (disch := omega)
      repeat refine And.intro (by omega) ?_
      repeat refine V_seq (x := .seq _ _) ?_
      first | refine V_seq (V_ifnd rfl (fun h2 => ?_) (fun h2 => ?_)) | refine V_ifnd rfl (fun h2 => ?_) (fun h2 => ?_)
      · repeat refine V_seq (x := .seq _ _) ?_
        first | refine VR [4, 5, 6] (by kernel_rfl) ?_ | refine VR1 [4, 5, 6] (by kernel_rfl) ?_
        push_cast (disch := omega)
        repeat refine And.intro (by omega) ?_
        first | refine V_seq (V_ret ?_) | refine V_ret ?_
        push_cast (disch := omega)
        have hR : s.readL pages = ([], 6) := by rw [hsp]; simp [PlS.readL, h1, h2]
        rw [hR]
        exact ⟨⟨_, rfl, World.ownsRow_nil _ _ _ _⟩, hM.up.trans hu5⟩
      · first | refine V_seq (V_skip ?_) | refine V_skip ?_
        push_cast (disch := omega)
        have hrs := readB_size (s.get pages[i]).1
        have hT : s.readL (pages.take (i + 1)) = ((s.readL (pages.take i)).1 ++ [(readB (s.get pages[i]).1).1], 0) := by
          rw [htk1, readL_split s _ _ hz]; simp [PlS.readL, h1, h2]
        generalize (readB (s.get pages[i]).1).1 = x at *
        have hB5 : BldAt w5 b q bv (byteCells (catB (s.readL (pages.take i)).1)) := ⟨Up.get hu5 hB.cell, hB.row.over hu5 (fun _ _ e => e), hB.apart, hB.head⟩
        have hM5 : Mine w w5 b bv := ⟨hM.up.trans hu5, hM.new, hM.own⟩
        repeat refine V_seq (x := .seq _ _) ?_
        first | refine VR [0, 7, 8, 13, 14, 15, 16] (by kernel_rfl) ?_ | refine VR1 [0, 7, 8, 13, 14, 15, 16] (by kernel_rfl) ?_
        push_cast (disch := omega)
        repeat refine And.intro (by omega) ?_
        refine callM_of (bws_any w5 b q bv _ x hB5 (by rw [byteCells_length]; omega)) ?_
        rintro _ w6 ⟨rfl, bv6, hB6, hn6, hk6, hg6⟩
        push_cast (disch := omega)
        repeat refine And.intro (by omega) ?_
        have hM6 := hM5.step hk6 hg6
        have hv5 := hv2.over hu5 (fun _ _ e => e)
        have hv6 := hv5.over hk6 (fun g hgg e => by rcases e with e | e; exact ha1 (by rw [hgg, e]); exact ha2 g hgg e)
        have hlt5 : ∀ g, v2.ownBlock = some g → g < w5.heap.size := fun g hg => (hv5.lt g hg).2
        repeat refine V_seq (x := .seq _ _) ?_
        first | refine VR [0, 7, 8, 14, 15, 16] (by kernel_rfl) ?_ | refine VR1 [0, 7, 8, 14, 15, 16] (by kernel_rfl) ?_
        push_cast (disch := omega)
        repeat refine And.intro (by omega) ?_
        refine fun b7 w7 hb7 hs7 hu7 hg7 => ?_
        push_cast (disch := omega)
        repeat refine And.intro (by omega) ?_
        refine appM slT_strs (hv6.over hu7 (fun _ _ e => e)) hg7 (by simp) (by simp [one']) (by omega) (by decide) (by have := hM6.up.size; have := hu7.size; omega) ?_
        rintro v8 w8 ho8 hk8 hg8
        have hlb : b < w5.heap.size := lt_of_get hB5.cell
        have h68 : Kp (fun i => v2.ownBlock = some i) w6 w8 := (hu7.mono (fun _ _ e => e.elim)).step hk8 (fun _ _ e => e)
        have hne6 : ∀ g, v2.ownBlock = some g → bv6.ownBlock ≠ some g := fun g hg => hg6.ne (hlt5 g hg) (ha2 g hg)
        have hB8 : BldAt w8 b (.pointer (some ⟨b, 0, none⟩)) bv6 (byteCells (catB (s.readL (pages.take i)).1) ++ strCells x) :=
          ⟨h68.get hB6.cell ha1, hB6.row.over h68 (fun g hg e => hne6 g e hg), hB6.apart, hB6.head⟩
        push_cast (disch := omega)
        repeat refine And.intro (by omega) ?_
        repeat refine V_seq (x := .seq _ _) ?_
        first | refine VR [0, 7, 8, 14, 15, 16] (by kernel_rfl) ?_ | refine VR1 [0, 7, 8, 14, 15, 16] (by kernel_rfl) ?_
        push_cast (disch := omega)
        repeat refine And.intro (by omega) ?_
        refine ⟨(i + 1, v8), ?_, ?_, (by dsimp only; omega)⟩ <;> dsimp only
        · push_cast
        · have hcx : (catB [x]).length = x.size := by simp [catB]
          have hcl2 : (catB ((s.readL (pages.take i)).1 ++ [x])).length ≤ 27 * (i + 1) := by rw [catB_app, List.length_append, hcx]; omega
          rw [hT]
          refine ⟨⟨by omega, by simp [hdl], hcl2⟩, rfl, .pointer (some ⟨b, 0, none⟩), bv6, ?_, ?_, ?_, ⟨hM6.up.turn h68 (fun j hj => (hv6.lt j hj).1), hM6.new, hM6.own⟩, ?_, ?_⟩
          · rw [show byteCells (catB ((s.readL (pages.take i)).1 ++ [x])) = byteCells (catB (s.readL (pages.take i)).1) ++ strCells x from by simp [catB_app, catB, byteCells, strCells]]
            exact hB8
          · intro hnil
            rw [catB_app] at hnil
            obtain ⟨hn1, hn2⟩ := List.append_eq_nil_iff.1 hnil
            refine hn6.2 ⟨hBn hn1, ?_⟩
            rw [hn2] at hcx
            exact hcx.symm
          · simpa [strV] using ho8
          · intro e
            rcases hg8 with e8 | e8
            · exact ha1 (by rw [← e8]; exact e)
            · rw [e8] at e; injection e with e; have := hk6.size; have := hu7.size; omega
          · intro g hgg e
            rcases hg8 with e8 | e8
            · exact hne6 g (by rw [← e8]; exact hgg) e
            · rw [e8] at hgg; injection hgg with hgg
              have := (hB6.row.lt g e).2
              have := hu7.size
              omega
  · first | refine V_seq (V_exit ?_) | refine V_exit ?_
    push_cast (disch := omega)
    obtain rfl : i = pages.length := by omega
    rw [List.take_length] at *
    repeat refine V_seq (x := .seq _ _) ?_
    first | refine VR [4, 5, 6] (by kernel_rfl) ?_ | refine VR1 [4, 5, 6] (by kernel_rfl) ?_
    push_cast (disch := omega)
    repeat refine And.intro (by omega) ?_
    refine callM_of (bstr_any wl b q bv _ hB hBn) ?_
    rintro _ w5 ⟨rfl, hB5, hk5⟩
    push_cast (disch := omega)
    repeat refine And.intro (by omega) ?_
    first | refine V_seq (V_ret ?_) | refine V_ret ?_
    push_cast (disch := omega)
    exact ⟨⟨v2, by rw [hz], hv2.over hk5 (fun g hgg e => ha2 g hgg e)⟩, hM.up.turn hk5 hM.own⟩
end Go.Proofs
/- Things under keys, as a list in the keys' order: plain lists. -/
namespace Go.Proofs
open Go Go.Vc Go.RowKit Go.Lib
set_option linter.unusedVariables false
abbrev KV := List (Int × Nat × List Int)
def getK (kv : KV) (k : Int) : Option (Nat × List Int) := (kv.find? fun x => x.1 == k).map (·.2)
def delK (kv : KV) (k : Int) : KV := kv.filter fun x => x.1 != k
def putK : KV → Int → Nat × List Int → KV
  | [], k, v => [(k, v)]
  | x :: r, k, v => if k < x.1 then (k, v) :: x :: r else if k = x.1 then (k, v) :: r else x :: putK r k v
def SortedK (kv : KV) : Prop := kv.Pairwise fun x y => x.1 < y.1
theorem getK_cons (x : Int × Nat × List Int) (r : KV) (j : Int) : getK (x :: r) j = if x.1 = j then some x.2 else getK r j := by
  unfold getK
  rw [List.find?_cons]
  by_cases h : x.1 = j
  · have : (x.1 == j) = true := by simpa using h
    rw [this, if_pos h]; rfl
  · have : (x.1 == j) = false := by simpa using h
    rw [this, if_neg h]
theorem getK_put (kv : KV) (k : Int) (v : Nat × List Int) (j : Int) : getK (putK kv k v) j = if j = k then some v else getK kv j := by
  induction kv with
  | nil =>
    rw [putK, getK_cons]
    by_cases h : j = k
    · rw [if_pos h, if_pos h.symm]
    · rw [if_neg h, if_neg (fun e => h e.symm)]
  | cons x r ih =>
    rw [putK]
    split
    · rw [getK_cons]
      by_cases h : j = k
      · rw [if_pos h, if_pos h.symm]
      · rw [if_neg h, if_neg (fun e => h e.symm)]
    · split
      · rename_i h1 h2
        rw [getK_cons, getK_cons]
        by_cases h : j = k
        · rw [if_pos h, if_pos h.symm]
        · rw [if_neg h, if_neg (fun e => h e.symm), if_neg (fun e => h (e.symm.trans h2.symm))]
      · rename_i h1 h2
        rw [getK_cons, getK_cons, ih]
        by_cases h : x.1 = j
        · rw [if_pos h, if_pos h, if_neg (fun e => h2 (e.symm.trans h.symm))]
        · rw [if_neg h, if_neg h]
theorem mem_putK {kv : KV} {k : Int} {v : Nat × List Int} {y : Int × Nat × List Int} (h : y ∈ putK kv k v) : y = (k, v) ∨ y ∈ kv := by
  induction kv with
  | nil => rw [putK] at h; exact .inl (by simpa using h)
  | cons x r ih =>
    rw [putK] at h
    split at h
    · rcases List.mem_cons.1 h with h | h
      · exact .inl h
      · exact .inr h
    · split at h
      · rcases List.mem_cons.1 h with h | h
        · exact .inl h
        · exact .inr (List.mem_cons_of_mem _ h)
      · rcases List.mem_cons.1 h with h | h
        · exact .inr (by rw [h]; exact List.mem_cons_self)
        · rcases ih h with h | h
          · exact .inl h
          · exact .inr (List.mem_cons_of_mem _ h)
theorem putK_sorted {kv : KV} (h : SortedK kv) (k : Int) (v : Nat × List Int) : SortedK (putK kv k v) := by
  induction kv with
  | nil => exact List.pairwise_singleton _ _
  | cons x r ih =>
    obtain ⟨h1, h2⟩ := List.pairwise_cons.1 h
    rw [putK]
    split
    · rename_i hk
      refine List.pairwise_cons.2 ⟨fun y hy => ?_, h⟩
      rcases List.mem_cons.1 hy with rfl | hy
      · exact hk
      · exact Int.lt_trans hk (h1 y hy)
    · split
      · rename_i hk1 hk
        refine List.pairwise_cons.2 ⟨fun y hy => ?_, h2⟩
        show k < y.1
        rw [hk]; exact h1 y hy
      · rename_i hk1 hk2
        refine List.pairwise_cons.2 ⟨fun y hy => ?_, ih h2⟩
        rcases mem_putK hy with rfl | hy
        · show x.1 < k
          omega
        · exact h1 y hy
theorem getK_del (kv : KV) (k j : Int) : getK (delK kv k) j = if j = k then none else getK kv j := by
  induction kv with
  | nil => simp [delK, getK]
  | cons x r ih =>
    unfold delK at ih ⊢
    rw [List.filter_cons]
    by_cases h : x.1 = k
    · rw [if_neg (by simpa using h), ih, getK_cons]
      by_cases hj : j = k
      · rw [if_pos hj, if_pos hj]
      · rw [if_neg hj, if_neg hj, if_neg (fun e => hj (e.symm.trans h))]
    · rw [if_pos (by simpa using h), getK_cons, getK_cons, ih]
      by_cases hj : x.1 = j
      · rw [if_pos hj, if_pos hj, if_neg (fun e => h (hj.trans e))]
      · rw [if_neg hj, if_neg hj]
theorem delK_sorted {kv : KV} (h : SortedK kv) (k : Int) : SortedK (delK kv k) := h.filter _
theorem getK_of_mem {kv : KV} (h : SortedK kv) {x : Int × Nat × List Int} (hx : x ∈ kv) : getK kv x.1 = some x.2 := by
  induction kv with
  | nil => cases hx
  | cons y r ih =>
    obtain ⟨h1, h2⟩ := List.pairwise_cons.1 h
    rw [getK_cons]
    rcases List.mem_cons.1 hx with rfl | hx
    · rw [if_pos rfl]
    · rw [if_neg (fun e => by have := h1 x hx; omega), ih h2 hx]
theorem mem_of_getK {kv : KV} {k : Int} {v : Nat × List Int} (h : getK kv k = some v) : (k, v) ∈ kv := by
  unfold getK at h
  obtain ⟨x, hx, rfl⟩ := Option.map_eq_some_iff.1 h
  have h1 := List.mem_of_find?_eq_some hx
  have h2 : x.1 = k := by simpa using List.find?_some hx
  rw [← h2]; exact h1
def keysK (kv : KV) : List Int := kv.map (·.1)
theorem keysK_sorted {kv : KV} (h : SortedK kv) : (keysK kv).Pairwise (· < ·) := List.pairwise_map.2 h
theorem keysK_nodup {kv : KV} (h : SortedK kv) : (keysK kv).Nodup := (keysK_sorted h).imp (fun h => by omega)
theorem mem_keysK {kv : KV} {k : Int} (h : SortedK kv) : k ∈ keysK kv ↔ (getK kv k).isSome = true := by
  constructor
  · intro hk
    obtain ⟨x, hx, rfl⟩ := List.mem_map.1 hk
    rw [getK_of_mem h hx]; rfl
  · intro hk
    obtain ⟨v, hv⟩ := Option.isSome_iff_exists.1 hk
    exact List.mem_map.2 ⟨_, mem_of_getK hv, rfl⟩
theorem putK_length (kv : KV) (k : Int) (v : Nat × List Int) : (putK kv k v).length ≤ kv.length + 1 := by
  induction kv with
  | nil => simp [putK]
  | cons x r ih =>
    rw [putK]
    split
    · simp
    · split
      · simp
      · simp only [List.length_cons]; omega
/-- The pages of all things. -/
def pagesK (kv : KV) : List Int := kv.flatMap fun x => x.2.2
theorem flat_getK {kv : KV} (h : SortedK kv) : (keysK kv).flatMap (fun k => ((getK kv k).map (·.2)).getD []) = pagesK kv := by
  unfold keysK pagesK
  rw [List.flatMap_map]
  have : ∀ r : KV, (∀ x ∈ r, x ∈ kv) → (r.flatMap fun x => ((getK kv x.1).map (·.2)).getD []) = r.flatMap fun x => x.2.2 := by
    intro r
    induction r with
    | nil => intro _; rfl
    | cons x r ih =>
      intro hr
      rw [List.flatMap_cons, List.flatMap_cons, getK_of_mem h (hr x List.mem_cons_self), ih (fun y hy => hr y (List.mem_cons_of_mem _ hy))]
      rfl
  exact this kv fun _ h => h
end Go.Proofs
namespace Go.Proofs
open Go Go.Vc Go.RowKit Go.Lib
set_option maxRecDepth 100000
set_option linter.unusedVariables false
/-- A slice that is read whose cells are of one type's block. -/
def SlOf (w : World) (e size : Nat) (v : Value) (n : Nat) (xs : List Value) : Prop :=
  xs.length = n * size ∧ ∃ a c, v = .slice a n c ∧ ((a = none ∧ n = 0 ∧ c = 0) ∨ ∃ b o cs, a = some ⟨b, o, none⟩ ∧ w.heap[b]? = some (.cells cs e (0, 0)) ∧ (cs.toList.drop o).take (n * size) = xs ∧ o + n * size ≤ cs.size)
theorem SlOf.r {w : World} {e size n : Nat} {v : Value} {xs : List Value} (h : SlOf w e size v n xs) : SlR w size v n xs := by
  obtain ⟨h1, a, c, rfl, h2⟩ := h
  refine ⟨h1, a, c, rfl, ?_⟩
  rcases h2 with h2 | ⟨b, o, cs, rfl, hb, rest⟩
  · exact .inl h2
  · exact .inr ⟨b, o, cs, e, (0, 0), rfl, hb, rest⟩
theorem SlOf.nil (w : World) (e size : Nat) : SlOf w e size (.slice none 0 0) 0 [] := ⟨by simp, none, 0, rfl, .inl ⟨rfl, rfl, rfl⟩⟩
theorem SlOf.of_own {w : World} {base e size n : Nat} {v : Value} {xs : List Value} (h : w.ownsRow base e size v n xs) : SlOf w e size v n xs := by
  refine ⟨h.1, ?_⟩
  rcases h.2 with ⟨rfl, rfl⟩ | ⟨g, cap, cur, rfl, _, hg, hn, _, hs, ht⟩
  · exact ⟨none, 0, rfl, .inl ⟨rfl, rfl, rfl⟩⟩
  · exact ⟨_, _, rfl, .inr ⟨g, 0, cur, rfl, hg, by rw [List.drop_zero]; exact ht, by rw [hs, Nat.zero_add]; exact Nat.mul_le_mul_right _ hn⟩⟩
theorem SlOf.over {w w' : World} {e size n : Nat} {v : Value} {xs : List Value} {S : Nat → Prop} (h : SlOf w e size v n xs) (hk : Kp S w w') (hn : ∀ g, v.ownBlock = some g → ¬ S g) : SlOf w' e size v n xs := by
  obtain ⟨h1, a, c, rfl, h2⟩ := h
  refine ⟨h1, a, c, rfl, ?_⟩
  rcases h2 with h2 | ⟨b, o, cs, rfl, hb, rest⟩
  · exact .inl h2
  · exact .inr ⟨b, o, cs, rfl, hk.get hb (hn b rfl), rest⟩
theorem SlOf.up {w w' : World} {e size n : Nat} {v : Value} {xs : List Value} (h : SlOf w e size v n xs) (hk : Up w w') : SlOf w' e size v n xs := h.over hk (fun _ _ e => e)
/-- It lies on a block of its element type alone. -/
theorem SlOf.block {w : World} {e size n : Nat} {v : Value} {xs : List Value} (h : SlOf w e size v n xs) {g : Nat} (hg : v.ownBlock = some g) : ∃ cs, w.heap[g]? = some (.cells cs e (0, 0)) := by
  obtain ⟨h1, a, c, rfl, h2⟩ := h
  rcases h2 with ⟨rfl, _⟩ | ⟨b, o, cs, rfl, hb, rest⟩
  · cases hg
  · cases hg; exact ⟨cs, hb⟩
theorem SlOf.ne {w : World} {e size n : Nat} {v : Value} {xs : List Value} (h : SlOf w e size v n xs) {g k : Nat} (hg : v.ownBlock = some g) {cs : Array Value} {T : Nat} {fr : Nat × Nat} (hk : w.heap[k]? = some (.cells cs T fr)) (ht : T ≠ e) : g ≠ k := by
  rintro rfl
  obtain ⟨cs', h'⟩ := h.block hg
  rw [h'] at hk
  injection hk with hk
  injection hk with _ hk _
  exact ht hk.symm
theorem SlOf.nem {w : World} {e size n : Nat} {v : Value} {xs : List Value} (h : SlOf w e size v n xs) {g k : Nat} (hg : v.ownBlock = some g) {es : Array MapEntry} {c : Nat} (hk : w.heap[k]? = some (.map es c)) : g ≠ k := by
  rintro rfl
  obtain ⟨cs', h'⟩ := h.block hg
  rw [h'] at hk
  injection hk with hk
  cases hk
abbrev Ints (w : World) (v : Value) (l : List Int) : Prop := SlOf w 3 1 v l.length (intV l)
/-- A binder's own state: commits, the table's pages, the things (how many bytes, on which pages). -/
structure BnS where
  gen : Int
  table : List Int
  kv : KV
  off : Bool
def okV (w : World) (v : Value) (x : Nat × List Int) : Prop := ∃ pv, v = .agg #[.int .i64 (x.1 : Nat), pv] ∧ Ints w pv x.2
def optR {α β : Type} (R : α → β → Prop) : Option α → Option β → Prop
  | some a, some b => R a b
  | none, none => True
  | _, _ => False
/-- The things of a map. -/
structure ThAt (w : World) (M : Nat) (kv : KV) : Prop where
  map : ∃ l clock, MapAt w M .i64 l clock ∧ ∀ k, optR (okV w) (getM l k) (getK kv k)
  sorted : SortedK kv
/-- A binder at B over a plate at p. -/
structure BnAt (w : World) (B p M : Nat) (tv : Value) (s : BnS) : Prop where
  cell : w.heap[B]? = some (.cells #[.pointer (some ⟨p, 0, none⟩), .int .i64 s.gen, tv, .map (some M), .bool s.off] 90 (0, 0))
  table : Ints w tv s.table
  things : ThAt w M s.kv
theorem okV.over {w w' : World} {v : Value} {x : Nat × List Int} {S : Nat → Prop} (h : okV w v x) (hk : Kp S w w') (hS : ∀ g cs, w.heap[g]? = some (.cells cs 3 (0, 0)) → ¬ S g) : okV w' v x := by
  obtain ⟨pv, h1, h2⟩ := h
  exact ⟨pv, h1, h2.over hk (fun g hg => by obtain ⟨cs, h⟩ := h2.block hg; exact hS g cs h)⟩
theorem optR.imp {α β : Type} {R R' : α → β → Prop} {a : Option α} {b : Option β} (h : optR R a b) (hi : ∀ a b, R a b → R' a b) : optR R' a b := by
  cases a <;> cases b <;> first | exact h | exact hi _ _ h
theorem ThAt.over {w w' : World} {M : Nat} {kv : KV} {S : Nat → Prop} (h : ThAt w M kv) (hk : Kp S w w') (hM : ¬ S M) (hS : ∀ g cs, w.heap[g]? = some (.cells cs 3 (0, 0)) → ¬ S g) : ThAt w' M kv := by
  obtain ⟨⟨l, c, hm, hv⟩, hs⟩ := h
  exact ⟨⟨l, c, hm.over hk hM, fun k => (hv k).imp fun a b h => h.over hk hS⟩, hs⟩
theorem ThAt.up {w w' : World} {M : Nat} {kv : KV} (h : ThAt w M kv) (hu : Up w w') : ThAt w' M kv := h.over hu id (fun _ _ _ e => e)
theorem BnAt.over {w w' : World} {B p M : Nat} {tv : Value} {s : BnS} {S : Nat → Prop} (h : BnAt w B p M tv s) (hk : Kp S w w') (hB : ¬ S B) (hM : ¬ S M) (hS : ∀ g cs, w.heap[g]? = some (.cells cs 3 (0, 0)) → ¬ S g) : BnAt w' B p M tv s :=
  ⟨hk.get h.cell hB, h.table.over hk (fun g hg => by obtain ⟨cs, h'⟩ := h.table.block hg; exact hS g cs h'), h.things.over hk hM hS⟩
theorem BnAt.up {w w' : World} {B p M : Nat} {tv : Value} {s : BnS} (h : BnAt w B p M tv s) (hu : Up w w') : BnAt w' B p M tv s := h.over hu id id (fun _ _ _ e => e)
theorem bnone_any (w : World) (B p M : Nat) (tv : Value) (s : BnS) (h : BnAt w B p M tv s) : CallM Tryz.prog 48 #[.pointer (some ⟨B, 0, none⟩)] w fun v w' => v = .bool false ∧ w' = w := by
  have hc := h.cell
  refine callM_V (args := [.pointer (some ⟨B, 0, none⟩)]) Tryz.func48 rfl Tryz.ntmps48 rfl (rs := [(.tmp 2)]) rfl ?_
  push_cast (disch := omega)
  repeat refine V_seq (x := .seq _ _) ?_
  first | refine VR [0] (by kernel_rfl) ?_ | refine VR1 [0] (by kernel_rfl) ?_
  push_cast (disch := omega)
  repeat refine And.intro (by omega) ?_
  repeat refine V_seq (x := .seq _ _) ?_
  first | refine VR [2] (by kernel_rfl) ?_ | refine VR1 [2] (by kernel_rfl) ?_
  push_cast (disch := omega) [hc]
  repeat refine And.intro (by omega) ?_
  first | refine V_seq (V_ret ?_) | refine V_ret ?_
  push_cast (disch := omega)
theorem bgen_any (w : World) (B p M : Nat) (tv : Value) (s : BnS) (h : BnAt w B p M tv s) : CallM Tryz.prog 16 #[.pointer (some ⟨B, 0, none⟩)] w fun v w' => v = .int .i64 s.gen ∧ w' = w := by
  have hc := h.cell
  refine callM_V (args := [.pointer (some ⟨B, 0, none⟩)]) Tryz.func16 rfl Tryz.ntmps16 rfl (rs := [(.tmp 2)]) rfl ?_
  push_cast (disch := omega)
  repeat refine V_seq (x := .seq _ _) ?_
  first | refine VR [0] (by kernel_rfl) ?_ | refine VR1 [0] (by kernel_rfl) ?_
  push_cast (disch := omega)
  repeat refine And.intro (by omega) ?_
  repeat refine V_seq (x := .seq _ _) ?_
  first | refine VR [0, 4] (by kernel_rfl) ?_ | refine VR1 [0, 4] (by kernel_rfl) ?_
  push_cast (disch := omega)
  repeat refine And.intro (by omega) ?_
  refine callM_of (bnone_any w B p M tv s h) ?_
  rintro _ w1 ⟨rfl, rfl⟩
  push_cast (disch := omega)
  repeat refine And.intro (by omega) ?_
  repeat refine V_seq (x := .seq _ _) ?_
  first | refine V_seq (V_iff rfl ?_) | refine V_iff rfl ?_
  first | refine V_seq (V_skip ?_) | refine V_skip ?_
  push_cast (disch := omega)
  repeat refine V_seq (x := .seq _ _) ?_
  first | refine VR [2] (by kernel_rfl) ?_ | refine VR1 [2] (by kernel_rfl) ?_
  push_cast (disch := omega) [hc]
  repeat refine And.intro (by omega) ?_
  first | refine V_seq (V_ret ?_) | refine V_ret ?_
  push_cast (disch := omega)
/-- The keys of the map's entries are the things' keys. -/
theorem keys_perm {l : List Ent} {kv : KV} {w : World} (hn : (l.map (·.1)).Nodup) (hs : SortedK kv) (h : ∀ k, optR (okV w) (getM l k) (getK kv k)) : (l.map (·.1)).Perm (keysK kv) := by
  refine (List.perm_ext_iff_of_nodup hn (keysK_nodup hs)).2 fun k => ?_
  rw [mem_keysK hs]
  have hk := h k
  constructor
  · intro hm
    obtain ⟨e, he, rfl⟩ := List.mem_map.1 hm
    rw [getM_mem hn he] at hk
    cases hg : getK kv e.1 with
    | none => rw [hg] at hk; exact hk.elim
    | some x => rfl
  · intro hm
    obtain ⟨x, hx⟩ := Option.isSome_iff_exists.1 hm
    rw [hx] at hk
    cases hg : getM l k with
    | none => rw [hg] at hk; exact hk.elim
    | some v =>
      obtain ⟨e, he, h1, _⟩ := getM_some hg
      exact List.mem_map.2 ⟨e, he, h1⟩
/-- What an entry holds. -/
theorem ent_val {l : List Ent} {kv : KV} {w : World} (hn : (l.map (·.1)).Nodup) (h : ∀ k, optR (okV w) (getM l k) (getK kv k)) {e : Ent} (he : e ∈ l) : ∃ x, getK kv e.1 = some x ∧ okV w e.2.1 x := by
  have hk := h e.1
  rw [getM_mem hn he] at hk
  cases hg : getK kv e.1 with
  | none => rw [hg] at hk; exact hk.elim
  | some x => rw [hg] at hk; exact ⟨x, rfl, hk⟩
end Go.Proofs
namespace Go.Proofs
open Go Go.Vc Go.RowKit Go.Lib
set_option maxRecDepth 100000
set_option linter.unusedVariables false
/-- slices.Clone of whole numbers: a copy on new ground. -/
theorem iclone_any (w : World) (v : Value) (l : List Int) (h : SlR w 1 v l.length (intV l)) (hl : l.length ≤ 1000000) : CallM Tryz.prog 57 #[v] w fun r w' => w'.ownsRow w.heap.size 3 1 r l.length (intV l) ∧ Up w w' := by
  obtain ⟨hlen, a, c, rfl, h2⟩ := h
  rcases h2 with ⟨rfl, h0, rfl⟩ | ⟨b, o, cs, T, fr, rfl, hb, htk, hle⟩
  · have : l = [] := List.eq_nil_of_length_eq_zero h0
    subst this
    refine callM_kit (Tryz.slices_Clone_int_nil _ _ w) ?_
    rintro w' rfl
    exact ⟨World.ownsRow_nil _ _ _ _, Kp.refl _ _⟩
  · have hk := Tryz.slices_Clone_int b o l.length c l w (Nat.le_refl _) (by omega) (fun j hj => by
      rw [Vc.cell_of_heap hb, cell_of_take htk (intV_get hj)]
      simp [hj])
    refine Calls.mono hk fun e w' he => ?_
    obtain ⟨v', rfl, ho, _, hbel⟩ := he
    rw [List.take_length] at ho
    exact ⟨ho, Up.of_below hbel⟩
end Go.Proofs
namespace Go.Proofs
open Go Go.Vc Go.RowKit Go.Lib Go.Sort
set_option maxRecDepth 100000
set_option linter.unusedVariables false
def sortI (l : List Int) : List Int := l.mergeSort fun x y => decide (x ≤ y)
theorem sortI_len (l : List Int) : (sortI l).length = l.length := by simp [sortI]
/-- slices.Sort of whole numbers that are the caller's own. -/
theorem isort_any (w : World) (base : Nat) (v : Value) (l : List Int) (h : w.ownsRow base 3 1 v l.length (intV l)) (hl : l.length ≤ 1000000) : CallM Tryz.prog 58 #[v] w fun r w' => r = .tuple #[] ∧ w'.ownsRow base 3 1 v l.length (intV (sortI l)) ∧ Kp (fun i => v.ownBlock = some i) w w' := by
  rcases h.2 with ⟨rfl, h0⟩ | ⟨g, cap, cur, rfl, hbg, hg, hn, hcm, hs, ht⟩
  · have : l = [] := List.eq_nil_of_length_eq_zero h0
    subst this
    refine Calls.mono (Tryz.slices_Sort_int_none _ _ w) fun e w' he => ?_
    obtain ⟨rfl, rfl⟩ := he
    exact ⟨rfl, by simpa [sortI] using h, Kp.refl _ _⟩
  · refine callM_kit (Tryz.slices_Sort_int g 0 cap l w ?_ (lt_of_get hg) (by omega)) ?_
    · intro j hj
      have hj' : j < l.length := by simpa using hj
      refine ⟨?_, by simp [World.frozen?, hg]⟩
      rw [Vc.cell_of_heap hg, cell_of_take (o := 0) (m := l.length * 1) (by rw [List.drop_zero]; exact ht) (intV_get hj')]
      simp [hj']
    · rintro w' ⟨n, os, rfl⟩
      obtain ⟨h1, h2⟩ := putRow_kp (zs := sortI l) (enc := Value.int .i64) (n := n) (os := os) hg
      refine ⟨rfl, ⟨by simp [intV, sortI_len], .inr ⟨g, cap, _, rfl, hbg, h2, hn, hcm, by simpa [putCells] using hs, ?_⟩⟩, h1.mono (fun i _ e => by rw [e]; rfl)⟩
      have := putCells_take (Value.int .i64) (sortI l) cur (by rw [sortI_len]; omega)
      rw [sortI_len] at this
      rw [Nat.mul_one]
      exact this
end Go.Proofs
