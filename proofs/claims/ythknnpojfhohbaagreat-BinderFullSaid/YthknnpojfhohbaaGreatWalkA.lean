import Derived.Test.YthknnpojfhohbaaGreatTypes
import Derived.Test.YthknnpojfhohbaaGreatKitB
import Derived.Test.YthknnpojfhohbaaGreatShelfA
import Derived.Lib.Walk
import Derived.Laws.Externs
import Derived.Lib.UnsafeStr
import Derived.Shelf.Strings.BuilderF
namespace Go.Proofs
open Go Go.Vc
set_option maxRecDepth 100000

def needOf (n : Int) : Int := if n < 1 then 0 else (n - 1) / 27 + 1
theorem need_any (n : Int) (w : World) (h : -1000000 ≤ n ∧ n ≤ 1000000) : CallM Tryz.prog 127 #[.int .i64 n] w fun v w' => v = .int .i64 (needOf n) ∧ w' = w := by
  refine callM_V (args := [.int .i64 n]) Tryz.func127 rfl Tryz.ntmps127 rfl (rs := [(.tmp 2)]) rfl ?_
  push_cast (disch := omega)
  repeat refine V_seq (x := .seq _ _) ?_
  first | refine VR [0] (by kernel_rfl) ?_ | refine VR1 [0] (by kernel_rfl) ?_
  push_cast (disch := omega)
  repeat refine And.intro (by omega) ?_
  repeat refine V_seq (x := .seq _ _) ?_
  first | refine VR [0, 4] (by kernel_rfl) ?_ | refine VR1 [0, 4] (by kernel_rfl) ?_
  push_cast (disch := omega)
  repeat refine And.intro (by omega) ?_
  repeat refine V_seq (x := .seq _ _) ?_
  first | refine V_seq (V_ifd rfl (fun h1 => ?_) (fun h1 => ?_)) | refine V_ifd rfl (fun h1 => ?_) (fun h1 => ?_)
  · repeat refine V_seq (x := .seq _ _) ?_
    first | refine VR [2] (by kernel_rfl) ?_ | refine VR1 [2] (by kernel_rfl) ?_
    push_cast (disch := omega)
    repeat refine And.intro (by omega) ?_
    first | refine V_seq (V_ret ?_) | refine V_ret ?_
    push_cast (disch := omega)
    simp [needOf, h1]
  · first | refine V_seq (V_skip ?_) | refine V_skip ?_
    push_cast (disch := omega)
    repeat refine V_seq (x := .seq _ _) ?_
    first | refine VR [2] (by kernel_rfl) ?_ | refine VR1 [2] (by kernel_rfl) ?_
    push_cast (disch := omega)
    repeat refine And.intro (by omega) ?_
    first | refine V_seq (V_ret ?_) | refine V_ret ?_
    push_cast (disch := omega)
    trace_state
    simp [needOf, h1]
end Go.Proofs
namespace Go.Proofs
open Go Go.Vc
set_option maxRecDepth 100000
/-- The two halves behind some bytes. -/
def tally2 : List UInt8 → Int × Int → Int × Int
  | [], s => s
  | c :: r, (x, y) => tally2 r ((x + c.toNat) % 65521, (y + (x + c.toNat) % 65521) % 65521)
theorem tally2_lt : ∀ (l : List UInt8) (s : Int × Int), 0 ≤ s.1 ∧ s.1 ≤ 65535 → 0 ≤ s.2 ∧ s.2 ≤ 65535 → 0 ≤ (tally2 l s).1 ∧ (tally2 l s).1 ≤ 65535 ∧ 0 ≤ (tally2 l s).2 ∧ (tally2 l s).2 ≤ 65535
  | [], s, h1, h2 => ⟨h1.1, h1.2, h2.1, h2.2⟩
  | c :: r, (x, y), h1, h2 => tally2_lt r _ (by have := c.toNat_lt; simp only; omega) (by simp only; omega)
theorem tally2_take (l : List UInt8) (s : Int × Int) (i : Nat) (h : i < l.length) : tally2 (l.take (i + 1)) s = (((tally2 (l.take i) s).1 + l[i].toNat) % 65521, ((tally2 (l.take i) s).2 + ((tally2 (l.take i) s).1 + l[i].toNat) % 65521) % 65521) := by
  induction l generalizing s i with
  | nil => cases h
  | cons c r ih =>
    obtain ⟨x, y⟩ := s
    cases i with
    | zero => simp [tally2]
    | succ i =>
      simp only [List.take_succ_cons, tally2, List.getElem_cons_succ]
      exact ih _ i (by simpa using h)
theorem add_any (t : Int) (b : ByteArray) (w : World) (h : 0 ≤ t ∧ t ≤ 4294967295) (hb : b.size ≤ 1000000) : CallM Tryz.prog 204 #[.int .u32 t, .string b] w fun v w' => v = .int .u32 ((tally2 b.data.toList (t % 65536, t / 65536)).2 * 65536 + (tally2 b.data.toList (t % 65536, t / 65536)).1) ∧ w' = w := by
  refine callM_V (args := [.int .u32 t, .string b]) Tryz.func204 rfl Tryz.ntmps204 rfl (rs := [(.tmp 4)]) rfl ?_
  push_cast (disch := omega)
  repeat refine V_seq (x := .seq _ _) ?_
  first | refine VR [0, 1] (by kernel_rfl) ?_ | refine VR1 [0, 1] (by kernel_rfl) ?_
  push_cast (disch := omega)
  repeat refine And.intro (by omega) ?_
  repeat refine V_seq (x := .seq _ _) ?_
  first | refine VR [1, 5, 6] (by kernel_rfl) ?_ | refine VR1 [1, 5, 6] (by kernel_rfl) ?_
  push_cast (disch := omega)
  repeat refine And.intro (by omega) ?_
  repeat refine V_seq (x := .seq _ _) ?_
  first | refine VR [1, 5, 6, 13, 14] (by kernel_rfl) ?_ | refine VR1 [1, 5, 6, 13, 14] (by kernel_rfl) ?_
  push_cast (disch := omega)
  repeat refine And.intro (by omega) ?_
  rw [mask16 t h]
  repeat refine V_seq (x := .seq _ _) ?_
  first | refine V_seq (V_block ?_) | refine V_block ?_
  repeat refine V_seq (x := .seq _ _) ?_
  first | refine V_seq (V_loopE (ι := Nat) [1, 5, 6, 13, 14] (fun i => [(1, .string b), (5, .int .u32 (tally2 (b.data.toList.take i) (t % 65536, t / 65536)).1), (6, .int .u32 (tally2 (b.data.toList.take i) (t % 65536, t / 65536)).2), (13, .int .i64 b.size), (14, .int .i64 i)]) (fun i => fun w' => i ≤ b.size ∧ w' = w) (fun i => b.size - i) (0) (by first | (push_cast; rfl) | (push_cast; done)) (⟨Nat.zero_le _, rfl⟩) ?_) | refine V_loopE (ι := Nat) [1, 5, 6, 13, 14] (fun i => [(1, .string b), (5, .int .u32 (tally2 (b.data.toList.take i) (t % 65536, t / 65536)).1), (6, .int .u32 (tally2 (b.data.toList.take i) (t % 65536, t / 65536)).2), (13, .int .i64 b.size), (14, .int .i64 i)]) (fun i => fun w' => i ≤ b.size ∧ w' = w) (fun i => b.size - i) (0) (by first | (push_cast; rfl) | (push_cast; done)) (⟨Nat.zero_le _, rfl⟩) ?_
  rintro i wl hI
  obtain ⟨hi, rfl⟩ := hI
  have hlt := tally2_lt (b.data.toList.take i) (t % 65536, t / 65536) (by simp only; omega) (by simp only; omega)
  repeat refine V_seq (x := .seq _ _) ?_
  first | refine VR [1, 5, 6, 13, 14, 15] (by kernel_rfl) ?_ | refine VR1 [1, 5, 6, 13, 14, 15] (by kernel_rfl) ?_
  push_cast (disch := omega)
  repeat refine And.intro (by omega) ?_
  repeat refine V_seq (x := .seq _ _) ?_
  first | refine V_seq (V_ifd rfl (fun hc => ?_) (fun hc => ?_)) | refine V_ifd rfl (fun hc => ?_) (fun hc => ?_)
  · first | refine V_seq (V_skip ?_) | refine V_skip ?_
    push_cast (disch := omega)
    have hl : i < b.data.toList.length := by simpa using hc
    have hts := tally2_take b.data.toList (t % 65536, t / 65536) i hl
    have hbb := bAt_range b i
    have hbn := bAt_nat b i hl
    repeat refine V_seq (x := .seq _ _) ?_
    first | refine V_seq (V_block ?_) | refine V_block ?_
    generalize tally2 (b.data.toList.take i) (t % 65536, t / 65536) = s at *
    obtain ⟨x, y⟩ := s
    dsimp only at hlt hts ⊢
    rw [← hbn] at hts
    repeat refine V_seq (x := .seq _ _) ?_
    first | refine VR [1, 5, 6, 7, 13, 14] (by kernel_rfl) ?_ | refine VR1 [1, 5, 6, 7, 13, 14] (by kernel_rfl) ?_
    push_cast (disch := omega)
    repeat refine And.intro (by omega) ?_
    repeat refine V_seq (x := .seq _ _) ?_
    first | refine VR [1, 5, 6, 13, 14] (by kernel_rfl) ?_ | refine VR1 [1, 5, 6, 13, 14] (by kernel_rfl) ?_
    push_cast (disch := omega)
    repeat refine And.intro (by omega) ?_
    repeat refine V_seq (x := .seq _ _) ?_
    first | refine VR [1, 5, 6, 13, 14] (by kernel_rfl) ?_ | refine VR1 [1, 5, 6, 13, 14] (by kernel_rfl) ?_
    push_cast (disch := omega)
    repeat refine And.intro (by omega) ?_
    repeat refine V_seq (x := .seq _ _) ?_
    first | refine VR [1, 5, 6, 13, 14] (by kernel_rfl) ?_ | refine VR1 [1, 5, 6, 13, 14] (by kernel_rfl) ?_
    push_cast (disch := omega)
    repeat refine And.intro (by omega) ?_
    refine ⟨i + 1, ?_, ?_, (by dsimp only; omega)⟩ <;> dsimp only
    · rw [hts]; push_cast
    · exact ⟨by omega, rfl⟩
  · first | refine V_seq (V_exit ?_) | refine V_exit ?_
    push_cast (disch := omega)
    have e : b.data.toList.take i = b.data.toList := List.take_of_length_le (by simp at hc ⊢; omega)
    rw [e] at hlt ⊢
    repeat refine V_seq (x := .seq _ _) ?_
    first | refine VR [4] (by kernel_rfl) ?_ | refine VR1 [4] (by kernel_rfl) ?_
    push_cast (disch := omega)
    repeat refine And.intro (by omega) ?_
    rw [join16 _ _ (by omega) (by omega)]
    first | refine V_seq (V_ret ?_) | refine V_ret ?_
    push_cast (disch := omega)
/-- The four bytes of a number. -/
def four (t : Int) : List UInt8 := [UInt8.ofNat (t % 256).toNat, UInt8.ofNat (t / 256 % 256).toNat, UInt8.ofNat (t / 65536 % 256).toNat, UInt8.ofNat (t / 16777216 % 256).toNat]
def fourB (t : Int) : ByteArray := ⟨(four t).toArray⟩
theorem bytes_any (t : Int) (w : World) (h : 0 ≤ t ∧ t ≤ 4294967295) : CallM Tryz.prog 193 #[.int .u32 t] w fun v w' => v = .string (fourB t) ∧ Up w w' := by
  refine callM_V (args := [.int .u32 t]) Tryz.func193 rfl Tryz.ntmps193 rfl (rs := [(.tmp 2)]) rfl ?_
  push_cast (disch := omega)
  repeat refine V_seq (x := .seq _ _) ?_
  first | refine VR [0] (by kernel_rfl) ?_ | refine VR1 [0] (by kernel_rfl) ?_
  push_cast (disch := omega)
  repeat refine And.intro (by omega) ?_
  repeat refine V_seq (x := .seq _ _) ?_
  first | refine VR [0, 3] (by kernel_rfl) ?_ | refine VR1 [0, 3] (by kernel_rfl) ?_
  push_cast (disch := omega)
  repeat refine And.intro (by omega) ?_
  refine fun b w1 hb hs hu hg => ?_
  push_cast (disch := omega)
  repeat refine And.intro (by omega) ?_
  repeat refine V_seq (x := .seq _ _) ?_
  first | refine VR [0, 3, 5] (by kernel_rfl) ?_ | refine VR1 [0, 3, 5] (by kernel_rfl) ?_
  push_cast (disch := omega)
  repeat refine And.intro (by omega) ?_
  repeat refine V_seq (x := .seq _ _) ?_
  first | refine V_seq (V_block ?_) | refine V_block ?_
  repeat refine V_seq (x := .seq _ _) ?_
  first | refine V_seq (V_roll (VL_round ?_)) | refine V_roll (VL_round ?_)
  repeat refine V_seq (x := .seq _ _) ?_
  first | refine VR [0, 3, 5, 6] (by kernel_rfl) ?_ | refine VR1 [0, 3, 5, 6] (by kernel_rfl) ?_
  push_cast (disch := omega)
  repeat refine And.intro (by omega) ?_
  repeat refine V_seq (x := .seq _ _) ?_
  first | refine V_seq (V_ift rfl ?_) | refine V_ift rfl ?_
  first | refine V_seq (V_skip ?_) | refine V_skip ?_
  push_cast (disch := omega)
  repeat refine V_seq (x := .seq _ _) ?_
  first | refine V_seq (V_block ?_) | refine V_block ?_
  repeat refine V_seq (x := .seq _ _) ?_
  first | refine VR [0, 3, 4, 5] (by kernel_rfl) ?_ | refine VR1 [0, 3, 4, 5] (by kernel_rfl) ?_
  push_cast (disch := omega)
  repeat refine And.intro (by omega) ?_
  repeat refine V_seq (x := .seq _ _) ?_
  first | refine VR [0, 3, 5] (by kernel_rfl) ?_ | refine VR1 [0, 3, 5] (by kernel_rfl) ?_
  push_cast (disch := omega) [hg]
  repeat refine And.intro (by omega) ?_
  refine fun w2 hs2 hx2 hg2 => ?_
  push_cast (disch := omega)
  repeat refine And.intro (by omega) ?_
  repeat refine V_seq (x := .seq _ _) ?_
  first | refine VR [0, 3, 5] (by kernel_rfl) ?_ | refine VR1 [0, 3, 5] (by kernel_rfl) ?_
  push_cast (disch := omega)
  repeat refine And.intro (by omega) ?_
  refine VL_round ?_
  repeat refine V_seq (x := .seq _ _) ?_
  first | refine VR [0, 3, 5, 6] (by kernel_rfl) ?_ | refine VR1 [0, 3, 5, 6] (by kernel_rfl) ?_
  push_cast (disch := omega)
  repeat refine And.intro (by omega) ?_
  repeat refine V_seq (x := .seq _ _) ?_
  first | refine V_seq (V_ift rfl ?_) | refine V_ift rfl ?_
  first | refine V_seq (V_skip ?_) | refine V_skip ?_
  push_cast (disch := omega)
  repeat refine V_seq (x := .seq _ _) ?_
  first | refine V_seq (V_block ?_) | refine V_block ?_
  repeat refine V_seq (x := .seq _ _) ?_
  first | refine VR [0, 3, 4, 5] (by kernel_rfl) ?_ | refine VR1 [0, 3, 4, 5] (by kernel_rfl) ?_
  push_cast (disch := omega)
  repeat refine And.intro (by omega) ?_
  repeat refine V_seq (x := .seq _ _) ?_
  first | refine VR [0, 3, 5] (by kernel_rfl) ?_ | refine VR1 [0, 3, 5] (by kernel_rfl) ?_
  push_cast (disch := omega) [hg2]
  repeat refine And.intro (by omega) ?_
  refine fun w3 hs3 hx3 hg3 => ?_
  push_cast (disch := omega)
  repeat refine And.intro (by omega) ?_
  repeat refine V_seq (x := .seq _ _) ?_
  first | refine VR [0, 3, 5] (by kernel_rfl) ?_ | refine VR1 [0, 3, 5] (by kernel_rfl) ?_
  push_cast (disch := omega)
  repeat refine And.intro (by omega) ?_
  refine VL_round ?_
  repeat refine V_seq (x := .seq _ _) ?_
  first | refine VR [0, 3, 5, 6] (by kernel_rfl) ?_ | refine VR1 [0, 3, 5, 6] (by kernel_rfl) ?_
  push_cast (disch := omega)
  repeat refine And.intro (by omega) ?_
  repeat refine V_seq (x := .seq _ _) ?_
  first | refine V_seq (V_ift rfl ?_) | refine V_ift rfl ?_
  first | refine V_seq (V_skip ?_) | refine V_skip ?_
  push_cast (disch := omega)
  repeat refine V_seq (x := .seq _ _) ?_
  first | refine V_seq (V_block ?_) | refine V_block ?_
  repeat refine V_seq (x := .seq _ _) ?_
  first | refine VR [0, 3, 4, 5] (by kernel_rfl) ?_ | refine VR1 [0, 3, 4, 5] (by kernel_rfl) ?_
  push_cast (disch := omega)
  repeat refine And.intro (by omega) ?_
  repeat refine V_seq (x := .seq _ _) ?_
  first | refine VR [0, 3, 5] (by kernel_rfl) ?_ | refine VR1 [0, 3, 5] (by kernel_rfl) ?_
  push_cast (disch := omega) [hg3]
  repeat refine And.intro (by omega) ?_
  refine fun w4 hs4 hx4 hg4 => ?_
  push_cast (disch := omega)
  repeat refine And.intro (by omega) ?_
  repeat refine V_seq (x := .seq _ _) ?_
  first | refine VR [0, 3, 5] (by kernel_rfl) ?_ | refine VR1 [0, 3, 5] (by kernel_rfl) ?_
  push_cast (disch := omega)
  repeat refine And.intro (by omega) ?_
  refine VL_round ?_
  repeat refine V_seq (x := .seq _ _) ?_
  first | refine VR [0, 3, 5, 6] (by kernel_rfl) ?_ | refine VR1 [0, 3, 5, 6] (by kernel_rfl) ?_
  push_cast (disch := omega)
  repeat refine And.intro (by omega) ?_
  repeat refine V_seq (x := .seq _ _) ?_
  first | refine V_seq (V_ift rfl ?_) | refine V_ift rfl ?_
  first | refine V_seq (V_skip ?_) | refine V_skip ?_
  push_cast (disch := omega)
  repeat refine V_seq (x := .seq _ _) ?_
  first | refine V_seq (V_block ?_) | refine V_block ?_
  repeat refine V_seq (x := .seq _ _) ?_
  first | refine VR [0, 3, 4, 5] (by kernel_rfl) ?_ | refine VR1 [0, 3, 4, 5] (by kernel_rfl) ?_
  push_cast (disch := omega)
  repeat refine And.intro (by omega) ?_
  repeat refine V_seq (x := .seq _ _) ?_
  first | refine VR [0, 3, 5] (by kernel_rfl) ?_ | refine VR1 [0, 3, 5] (by kernel_rfl) ?_
  push_cast (disch := omega) [hg4]
  repeat refine And.intro (by omega) ?_
  refine fun w5 hs5 hx5 hg5 => ?_
  push_cast (disch := omega)
  repeat refine And.intro (by omega) ?_
  repeat refine V_seq (x := .seq _ _) ?_
  first | refine VR [0, 3, 5] (by kernel_rfl) ?_ | refine VR1 [0, 3, 5] (by kernel_rfl) ?_
  push_cast (disch := omega)
  repeat refine And.intro (by omega) ?_
  refine VL_round ?_
  repeat refine V_seq (x := .seq _ _) ?_
  first | refine VR [0, 3, 5, 6] (by kernel_rfl) ?_ | refine VR1 [0, 3, 5, 6] (by kernel_rfl) ?_
  push_cast (disch := omega)
  repeat refine And.intro (by omega) ?_
  repeat refine V_seq (x := .seq _ _) ?_
  first | refine V_seq (V_iff rfl ?_) | refine V_iff rfl ?_
  first | refine V_seq (V_exit ?_) | refine V_exit ?_
  push_cast (disch := omega)
  repeat refine V_seq (x := .seq _ _) ?_
  first | refine VR [2] (by kernel_rfl) ?_ | refine VR1 [2] (by kernel_rfl) ?_
  push_cast (disch := omega) [hg5]
  repeat refine And.intro (by omega) ?_
  refine strOfM (e := 5) (s := fourB t) (by kernel_rfl) (by kernel_rfl) (by kernel_rfl) hg5 (by simp) ?_ ?_
  · simp only [bytesOf, fourB, four, u8_mod, List.map_cons, List.map_nil, List.drop_zero]
    rw [byteN (by omega), byteN (by omega), byteN (by omega), byteN (by omega), show t / 16777216 % 256 = t / 16777216 from by omega]
    rfl
  push_cast
  first | refine V_seq (V_ret ?_) | refine V_ret ?_
  push_cast (disch := omega)
  exact ((((hu.write hx2 (by omega)).write hx3 (by omega)).write hx4 (by omega)).write hx5 (by omega))
@[push_cast] theorem fourB_size (t : Int) : (fourB t).size = 4 := rfl
def tallyOf (b : ByteArray) : Int := (tally2 b.data.toList (44257, 0)).2 * 65536 + (tally2 b.data.toList (44257, 0)).1
theorem tallyOf_range (b : ByteArray) : 0 ≤ tallyOf b ∧ tallyOf b ≤ 4294967295 := by
  have := tally2_lt b.data.toList (44257, 0) (by simp only; omega) (by simp only; omega)
  unfold tallyOf
  omega
theorem of_any (b : ByteArray) (w : World) (hb : b.size ≤ 1000000) : CallM Tryz.prog 194 #[.string b] w fun v w' => v = .int .u32 (tallyOf b) ∧ w' = w := by
  refine callM_V (args := [.string b]) Tryz.func194 rfl Tryz.ntmps194 rfl (rs := [(.tmp 2)]) rfl ?_
  push_cast (disch := omega)
  repeat refine V_seq (x := .seq _ _) ?_
  first | refine VR [0] (by kernel_rfl) ?_ | refine VR1 [0] (by kernel_rfl) ?_
  push_cast (disch := omega)
  repeat refine And.intro (by omega) ?_
  repeat refine V_seq (x := .seq _ _) ?_
  first | refine VR [2] (by kernel_rfl) ?_ | refine VR1 [2] (by kernel_rfl) ?_
  push_cast (disch := omega)
  repeat refine And.intro (by omega) ?_
  refine callM_of (add_any 44257 b w (by omega) hb) ?_
  rintro _ w2 ⟨rfl, rfl⟩
  push_cast (disch := omega)
  repeat refine And.intro (by omega) ?_
  first | refine V_seq (V_ret ?_) | refine V_ret ?_
  push_cast (disch := omega)
  rfl
def sealB (b : ByteArray) : ByteArray := b ++ fourB (tallyOf b)
theorem seal_any (b : ByteArray) (w : World) (hb : b.size ≤ 1000000) : CallM Tryz.prog 197 #[.string b] w fun v w' => v = .string (sealB b) ∧ Up w w' := by
  refine callM_V (args := [.string b]) Tryz.func197 rfl Tryz.ntmps197 rfl (rs := [(.tmp 2)]) rfl ?_
  push_cast (disch := omega)
  repeat refine V_seq (x := .seq _ _) ?_
  first | refine VR [0] (by kernel_rfl) ?_ | refine VR1 [0] (by kernel_rfl) ?_
  push_cast (disch := omega)
  repeat refine And.intro (by omega) ?_
  repeat refine V_seq (x := .seq _ _) ?_
  first | refine VR [2] (by kernel_rfl) ?_ | refine VR1 [2] (by kernel_rfl) ?_
  push_cast (disch := omega)
  repeat refine And.intro (by omega) ?_
  refine callM_of (of_any b w hb) ?_
  rintro _ w2 ⟨rfl, rfl⟩
  push_cast (disch := omega)
  repeat refine And.intro (by omega) ?_
  refine callM_of (bytes_any _ w2 (tallyOf_range b)) ?_
  rintro _ w3 ⟨rfl, hu⟩
  push_cast (disch := omega)
  repeat refine And.intro (by omega) ?_
  first | refine V_seq (V_ret ?_) | refine V_ret ?_
  push_cast (disch := omega)
  exact ⟨rfl, hu⟩
/-- What was sealed, if it was. -/
def openB (b : ByteArray) : ByteArray × Int := if b.size < 4 then (.empty, 8) else if fourB (tallyOf (b.extract 0 (b.size - 4))) = b.extract (b.size - 4) b.size then (b.extract 0 (b.size - 4), 0) else (.empty, 6)
theorem topen_any (b : ByteArray) (w : World) (hb : b.size ≤ 1000000) : CallM Tryz.prog 165 #[.string b] w fun v w' => v = .tuple #[.string (openB b).1, .int .i64 (openB b).2] ∧ Up w w' := by
  refine callM_V (args := [.string b]) Tryz.func165 rfl Tryz.ntmps165 rfl (rs := [(.tmp 2), (.tmp 3)]) rfl ?_
  push_cast (disch := omega)
  repeat refine V_seq (x := .seq _ _) ?_
  first | refine VR [0] (by kernel_rfl) ?_ | refine VR1 [0] (by kernel_rfl) ?_
  push_cast (disch := omega)
  repeat refine And.intro (by omega) ?_
  repeat refine V_seq (x := .seq _ _) ?_
  first | refine VR [0, 4] (by kernel_rfl) ?_ | refine VR1 [0, 4] (by kernel_rfl) ?_
  push_cast (disch := omega)
  repeat refine And.intro (by omega) ?_
  repeat refine V_seq (x := .seq _ _) ?_
  first | refine V_seq (V_block ?_) | refine V_block ?_
  repeat refine V_seq (x := .seq _ _) ?_
  first | refine VR [0, 4, 8] (by kernel_rfl) ?_ | refine VR1 [0, 4, 8] (by kernel_rfl) ?_
  push_cast (disch := omega)
  repeat refine And.intro (by omega) ?_
  repeat refine V_seq (x := .seq _ _) ?_
  first | refine V_seq (V_ifd rfl (fun h1 => ?_) (fun h1 => ?_)) | refine V_ifd rfl (fun h1 => ?_) (fun h1 => ?_)
  · repeat refine V_seq (x := .seq _ _) ?_
    first | refine VR [2, 3] (by kernel_rfl) ?_ | refine VR1 [2, 3] (by kernel_rfl) ?_
    push_cast (disch := omega)
    repeat refine And.intro (by omega) ?_
    first | refine V_seq (V_ret ?_) | refine V_ret ?_
    push_cast (disch := omega)
    rw [openB, if_pos (by omega)]
    exact ⟨rfl, Kp.refl _ _⟩
  · repeat refine V_seq (x := .seq _ _) ?_
    first | refine VD [0, 4, 11] [(true, 0), (true, 1), (true, 2), (true, 5), (true, 6), (true, 7), (false, 3), (false, 4), (true, 8), (true, 9)] (by kernel_rfl) (N := [8]) (by kernel_rfl) Tryz.mixed (fun _ _ _ h => h) ?_ | refine VD1 [0, 4, 11] [(true, 0), (true, 1), (true, 2), (true, 5), (true, 6), (true, 7), (false, 3), (false, 4), (true, 8), (true, 9)] (by kernel_rfl) (N := [8]) (by kernel_rfl) Tryz.mixed (fun _ _ _ h => h) ?_
    intro w1 hh hu
    push_cast (disch := omega) [hh]
    repeat refine And.intro (by omega) ?_
    have e : ((b.size : Int) - 4).toNat = b.size - 4 := by omega
    rw [e]
    refine callM_of (of_any (b.extract 0 (b.size - 4)) w1 (by rw [ByteArray.size_extract]; omega)) ?_
    rintro _ w2 ⟨rfl, rfl⟩
    refine And.intro (up_ok (Kp.refl _ _)) ?_
    push_cast (disch := omega)
    repeat refine And.intro (by omega) ?_
    refine callM_of (bytes_any _ w2 (tallyOf_range _)) ?_
    rintro _ w3 ⟨rfl, hu3⟩
    refine And.intro (up_ok (hu3)) ?_
    push_cast (disch := omega)
    repeat refine And.intro (by omega) ?_
    repeat refine V_seq (x := .seq _ _) ?_
    first | refine V_seq (V_ifnd rfl (fun h2 => ?_) (fun h2 => ?_)) | refine V_ifnd rfl (fun h2 => ?_) (fun h2 => ?_)
    · repeat refine V_seq (x := .seq _ _) ?_
      first | refine VR [2, 3] (by kernel_rfl) ?_ | refine VR1 [2, 3] (by kernel_rfl) ?_
      push_cast (disch := omega)
      repeat refine And.intro (by omega) ?_
      first | refine V_seq (V_ret ?_) | refine V_ret ?_
      push_cast (disch := omega)
      rw [openB, if_neg (by omega), if_neg h2]
      exact ⟨rfl, hu.trans hu3⟩
    · first | refine V_seq (V_skip ?_) | refine V_skip ?_
      push_cast (disch := omega)
      repeat refine V_seq (x := .seq _ _) ?_
      first | refine VR [2, 3] (by kernel_rfl) ?_ | refine VR1 [2, 3] (by kernel_rfl) ?_
      push_cast (disch := omega)
      repeat refine And.intro (by omega) ?_
      rw [e]
      first | refine V_seq (V_ret ?_) | refine V_ret ?_
      push_cast (disch := omega)
      rw [openB, if_neg (by omega), if_pos h2]
      exact ⟨rfl, hu.trans hu3⟩
end Go.Proofs
namespace Go.Proofs
open Go Go.Vc
set_option maxRecDepth 100000
set_option linter.unusedVariables false
/-- The bytes of a number, the least first. -/
def numB (v : Int) : Nat → List UInt8
  | 0 => []
  | n + 1 => UInt8.ofNat (v % 256).toNat :: numB (v / 256) n
theorem numB_len (v : Int) (n : Nat) : (numB v n).length = n := by induction n generalizing v with
  | zero => rfl
  | succ n ih => simp [numB, ih]
theorem byteV_len (l : List UInt8) : (byteV l).length = l.length := by simp [byteV]
theorem byteV_app (l r : List UInt8) : byteV (l ++ r) = byteV l ++ byteV r := by simp [byteV]
theorem byteV_one (l : List UInt8) : (byteV l).all one' = true := by simp [byteV, one']
/-- A writer of bytes. -/
structure OutAt (w : World) (o : Nat) (v : Value) (xs : List UInt8) (e : Int) : Prop where
  cell : w.heap[o]? = some (.cells #[v, .int .i64 e] 224 (0, 0))
  row : w.ownsRow 0 5 1 v xs.length (byteV xs)
  apart : v.ownBlock ≠ some o
theorem slT_bytes : SlT Tryz.prog 51 5 1 1 := ⟨by kernel_rfl, ⟨_, _, rfl, rfl, rfl, rfl, rfl⟩, by decide⟩
def outS (o : Nat) (v : Value) (i : Nat) : Prop := i = o ∨ v.ownBlock = some i
theorem lay_end {w w3 w4 w5 : World} {o n : Nat} {v v' : Value} {xs ys : List UInt8} {zs : List Value} {e : Int} (h : OutAt w o v xs e) (hU : Up w w3) (hk4 : Kp (fun i => v.ownBlock = some i) w3 w4) (hr4 : w4.ownsRow 0 5 1 v' (xs.length + n) (byteV xs ++ zs))
    (hz : zs = byteV ys) (hn : ys.length = n) (hg4 : v'.ownBlock = v.ownBlock ∨ v'.ownBlock = some w3.heap.size) (hx5 : Ux o w4 w5) (hg5 : w5.heap[o]? = some (.cells #[v', .int .i64 e] 224 (0, 0))) :
    ∃ v', OutAt w5 o v' (xs ++ ys) e ∧ Kp (outS o v) w w5 ∧ Grow w v v' := by
  obtain ⟨ho, hr, ha⟩ := h
  have hlt := lt_of_get ho
  have hg : Grow w v v' := (Grow.refl w v).trans (Grow.of_app hg4) hU.size
  have hne := hg.ne hlt ha
  refine ⟨v', ⟨hg5, ?_, hne⟩, ?_, hg⟩
  · have := hr4.over hx5 (fun g hgg e => hne (by rw [hgg, e]))
    rw [hz, ← byteV_app] at this
    rw [List.length_append, hn]
    exact this
  · exact ((hU.mono (fun _ _ e => e.elim)).step hk4 (fun i _ e => .inr e)).step hx5 (fun i _ e => .inl e)
theorem lay1_any (w : World) (o : Nat) (v : Value) (xs : List UInt8) (e x : Int) (h : OutAt w o v xs e) (hx : 0 ≤ x ∧ x ≤ 4294967295) (hl : xs.length ≤ 100000) :
    CallM Tryz.prog 196 #[.pointer (some ⟨o, 0, none⟩), .int .u32 x, .int .i64 1] w fun r w' => r = .tuple #[] ∧ ∃ v', OutAt w' o v' (xs ++ numB x 1) e ∧ Kp (outS o v) w w' ∧ Grow w v v' := by
  have h0 := h
  obtain ⟨ho, hr, ha⟩ := h
  have hlt := lt_of_get ho
  refine callM_V (args := [.pointer (some ⟨o, 0, none⟩), .int .u32 x, .int .i64 1]) Tryz.func196 rfl Tryz.ntmps196 rfl (rs := []) rfl ?_
  push_cast (disch := omega)
  repeat refine V_seq (x := .seq _ _) ?_
  first | refine VR [0, 1, 2, 6] (by kernel_rfl) ?_ | refine VR1 [0, 1, 2, 6] (by kernel_rfl) ?_
  push_cast (disch := omega)
  repeat refine And.intro (by omega) ?_
  refine fun b w1 hb hs hu hg => ?_
  push_cast (disch := omega)
  repeat refine And.intro (by omega) ?_
  repeat refine V_seq (x := .seq _ _) ?_
  first | refine VR [0, 1, 2, 6, 7] (by kernel_rfl) ?_ | refine VR1 [0, 1, 2, 6, 7] (by kernel_rfl) ?_
  push_cast (disch := omega)
  repeat refine And.intro (by omega) ?_
  repeat refine V_seq (x := .seq _ _) ?_
  first | refine V_seq (V_block ?_) | refine V_block ?_
  repeat refine V_seq (x := .seq _ _) ?_
  first | refine V_seq (V_block ?_) | refine V_block ?_
  repeat refine V_seq (x := .seq _ _) ?_
  first | refine V_seq (V_block ?_) | refine V_block ?_
  repeat refine V_seq (x := .seq _ _) ?_
  first | refine V_seq (V_block ?_) | refine V_block ?_
  repeat refine V_seq (x := .seq _ _) ?_
  first | refine V_seq (V_block ?_) | refine V_block ?_
  repeat refine V_seq (x := .seq _ _) ?_
  first | refine VR [0, 1, 2, 6, 7, 8] (by kernel_rfl) ?_ | refine VR1 [0, 1, 2, 6, 7, 8] (by kernel_rfl) ?_
  push_cast (disch := omega)
  repeat refine And.intro (by omega) ?_
  repeat refine V_seq (x := .seq _ _) ?_
  first | refine V_seq (V_iff rfl ?_) | refine V_iff rfl ?_
  first | refine V_seq (V_skip ?_) | refine V_skip ?_
  push_cast (disch := omega)
  repeat refine V_seq (x := .seq _ _) ?_
  first | refine VR [0, 1, 2, 6, 7, 10] (by kernel_rfl) ?_ | refine VR1 [0, 1, 2, 6, 7, 10] (by kernel_rfl) ?_
  push_cast (disch := omega)
  repeat refine And.intro (by omega) ?_
  repeat refine V_seq (x := .seq _ _) ?_
  first | refine V_seq (V_iff rfl ?_) | refine V_iff rfl ?_
  first | refine V_seq (V_skip ?_) | refine V_skip ?_
  push_cast (disch := omega)
  repeat refine V_seq (x := .seq _ _) ?_
  first | refine VR [0, 1, 2, 6, 7, 12] (by kernel_rfl) ?_ | refine VR1 [0, 1, 2, 6, 7, 12] (by kernel_rfl) ?_
  push_cast (disch := omega)
  repeat refine And.intro (by omega) ?_
  repeat refine V_seq (x := .seq _ _) ?_
  first | refine V_seq (V_iff rfl ?_) | refine V_iff rfl ?_
  first | refine V_seq (V_skip ?_) | refine V_skip ?_
  push_cast (disch := omega)
  repeat refine V_seq (x := .seq _ _) ?_
  first | refine VR [0, 1, 2, 6, 14] (by kernel_rfl) ?_ | refine VR1 [0, 1, 2, 6, 14] (by kernel_rfl) ?_
  push_cast (disch := omega)
  repeat refine And.intro (by omega) ?_
  repeat refine V_seq (x := .seq _ _) ?_
  first | refine V_seq (V_ift rfl ?_) | refine V_ift rfl ?_
  first | refine V_seq (V_exit ?_) | refine V_exit ?_
  push_cast (disch := omega)
  have hU : Up w w1 := hu
  repeat refine V_seq (x := .seq _ _) ?_
  first | refine VR [0, 2, 6] (by kernel_rfl) ?_ | refine VR1 [0, 2, 6] (by kernel_rfl) ?_
  push_cast (disch := omega) [hg]
  repeat refine And.intro (by omega) ?_
  refine fun w2 hs2 hx2 hg2 => ?_
  push_cast (disch := omega)
  repeat refine And.intro (by omega) ?_
  replace hU := hU.write hx2 (by omega)
  first | refine V_seq (V_exit ?_) | refine V_exit ?_
  push_cast (disch := omega)
  have ho2 := Up.get hU ho
  repeat refine V_seq (x := .seq _ _) ?_
  first | refine VD [] [(true, 0), (true, 1), (true, 2), (true, 3), (true, 4), (true, 5), (true, 6), (false, 7), (true, 8), (true, 9), (false, 10)] (by kernel_rfl) (N := [4]) (by kernel_rfl) Tryz.mixed (fun _ _ _ h => h) ?_ | refine VD1 [] [(true, 0), (true, 1), (true, 2), (true, 3), (true, 4), (true, 5), (true, 6), (false, 7), (true, 8), (true, 9), (false, 10)] (by kernel_rfl) (N := [4]) (by kernel_rfl) Tryz.mixed (fun _ _ _ h => h) ?_
  intro v1 hh hu3
  push_cast (disch := omega) [hh, ho2]
  repeat refine And.intro (by omega) ?_
  replace hU := hU.trans hu3
  refine appM slT_bytes (hr.over hU (fun _ _ e => e)) (Up.get hu3 hg2) (by simp) (by simp [one']) (by omega) (by decide) (Nat.zero_le _) ?_
  rintro v' v2 hr4 hk4 hg4
  have ho4 := hk4.get (Up.get hU ho) ha
  obtain ⟨a', c', rfl⟩ := hr4.shape
  refine And.intro (ob_no (by kernel_rfl)) ?_
  push_cast (disch := omega) [ho4]
  repeat refine And.intro (by omega) ?_
  refine fun v3 hs5 hx5 hg5 => ?_
  push_cast (disch := omega)
  repeat refine And.intro (by omega) ?_
  refine And.intro (ob_no (by kernel_rfl)) ?_
  push_cast (disch := omega)
  repeat refine And.intro (by omega) ?_
  refine lay_end h0 hU hk4 hr4 ?_ (numB_len _ _) hg4 hx5 hg5
  simp only [byteV, numB, u8_mod, List.map_cons, List.map_nil, List.drop_zero]
  rw [byteN (by omega)]
  rfl
theorem lay2_any (w : World) (o : Nat) (v : Value) (xs : List UInt8) (e x : Int) (h : OutAt w o v xs e) (hx : 0 ≤ x ∧ x ≤ 4294967295) (hl : xs.length ≤ 100000) :
    CallM Tryz.prog 196 #[.pointer (some ⟨o, 0, none⟩), .int .u32 x, .int .i64 2] w fun r w' => r = .tuple #[] ∧ ∃ v', OutAt w' o v' (xs ++ numB x 2) e ∧ Kp (outS o v) w w' ∧ Grow w v v' := by
  have h0 := h
  obtain ⟨ho, hr, ha⟩ := h
  have hlt := lt_of_get ho
  refine callM_V (args := [.pointer (some ⟨o, 0, none⟩), .int .u32 x, .int .i64 2]) Tryz.func196 rfl Tryz.ntmps196 rfl (rs := []) rfl ?_
  push_cast (disch := omega)
  repeat refine V_seq (x := .seq _ _) ?_
  first | refine VR [0, 1, 2, 6] (by kernel_rfl) ?_ | refine VR1 [0, 1, 2, 6] (by kernel_rfl) ?_
  push_cast (disch := omega)
  repeat refine And.intro (by omega) ?_
  refine fun b w1 hb hs hu hg => ?_
  push_cast (disch := omega)
  repeat refine And.intro (by omega) ?_
  repeat refine V_seq (x := .seq _ _) ?_
  first | refine VR [0, 1, 2, 6, 7] (by kernel_rfl) ?_ | refine VR1 [0, 1, 2, 6, 7] (by kernel_rfl) ?_
  push_cast (disch := omega)
  repeat refine And.intro (by omega) ?_
  repeat refine V_seq (x := .seq _ _) ?_
  first | refine V_seq (V_block ?_) | refine V_block ?_
  repeat refine V_seq (x := .seq _ _) ?_
  first | refine V_seq (V_block ?_) | refine V_block ?_
  repeat refine V_seq (x := .seq _ _) ?_
  first | refine V_seq (V_block ?_) | refine V_block ?_
  repeat refine V_seq (x := .seq _ _) ?_
  first | refine V_seq (V_block ?_) | refine V_block ?_
  repeat refine V_seq (x := .seq _ _) ?_
  first | refine V_seq (V_block ?_) | refine V_block ?_
  repeat refine V_seq (x := .seq _ _) ?_
  first | refine VR [0, 1, 2, 6, 7, 8] (by kernel_rfl) ?_ | refine VR1 [0, 1, 2, 6, 7, 8] (by kernel_rfl) ?_
  push_cast (disch := omega)
  repeat refine And.intro (by omega) ?_
  repeat refine V_seq (x := .seq _ _) ?_
  first | refine V_seq (V_iff rfl ?_) | refine V_iff rfl ?_
  first | refine V_seq (V_skip ?_) | refine V_skip ?_
  push_cast (disch := omega)
  repeat refine V_seq (x := .seq _ _) ?_
  first | refine VR [0, 1, 2, 6, 7, 10] (by kernel_rfl) ?_ | refine VR1 [0, 1, 2, 6, 7, 10] (by kernel_rfl) ?_
  push_cast (disch := omega)
  repeat refine And.intro (by omega) ?_
  repeat refine V_seq (x := .seq _ _) ?_
  first | refine V_seq (V_iff rfl ?_) | refine V_iff rfl ?_
  first | refine V_seq (V_skip ?_) | refine V_skip ?_
  push_cast (disch := omega)
  repeat refine V_seq (x := .seq _ _) ?_
  first | refine VR [0, 1, 2, 6, 7, 12] (by kernel_rfl) ?_ | refine VR1 [0, 1, 2, 6, 7, 12] (by kernel_rfl) ?_
  push_cast (disch := omega)
  repeat refine And.intro (by omega) ?_
  repeat refine V_seq (x := .seq _ _) ?_
  first | refine V_seq (V_ift rfl ?_) | refine V_ift rfl ?_
  first | refine V_seq (V_exit ?_) | refine V_exit ?_
  push_cast (disch := omega)
  have hU : Up w w1 := hu
  repeat refine V_seq (x := .seq _ _) ?_
  first | refine VR [0, 1, 2, 6] (by kernel_rfl) ?_ | refine VR1 [0, 1, 2, 6] (by kernel_rfl) ?_
  push_cast (disch := omega) [hg]
  repeat refine And.intro (by omega) ?_
  refine fun w2 hs2 hx2 hg2 => ?_
  push_cast (disch := omega)
  repeat refine And.intro (by omega) ?_
  replace hU := hU.write hx2 (by omega)
  repeat refine V_seq (x := .seq _ _) ?_
  first | refine VR [0, 2, 6] (by kernel_rfl) ?_ | refine VR1 [0, 2, 6] (by kernel_rfl) ?_
  push_cast (disch := omega) [hg2]
  repeat refine And.intro (by omega) ?_
  refine fun w3 hs3 hx3 hg3 => ?_
  push_cast (disch := omega)
  repeat refine And.intro (by omega) ?_
  replace hU := hU.write hx3 (by omega)
  first | refine V_seq (V_exit ?_) | refine V_exit ?_
  push_cast (disch := omega)
  have ho2 := Up.get hU ho
  repeat refine V_seq (x := .seq _ _) ?_
  first | refine VD [] [(true, 0), (true, 1), (true, 2), (true, 3), (true, 4), (true, 5), (true, 6), (false, 7), (true, 8), (true, 9), (false, 10)] (by kernel_rfl) (N := [4]) (by kernel_rfl) Tryz.mixed (fun _ _ _ h => h) ?_ | refine VD1 [] [(true, 0), (true, 1), (true, 2), (true, 3), (true, 4), (true, 5), (true, 6), (false, 7), (true, 8), (true, 9), (false, 10)] (by kernel_rfl) (N := [4]) (by kernel_rfl) Tryz.mixed (fun _ _ _ h => h) ?_
  intro v1 hh hu3
  push_cast (disch := omega) [hh, ho2]
  repeat refine And.intro (by omega) ?_
  replace hU := hU.trans hu3
  refine appM slT_bytes (hr.over hU (fun _ _ e => e)) (Up.get hu3 hg3) (by simp) (by simp [one']) (by omega) (by decide) (Nat.zero_le _) ?_
  rintro v' v2 hr4 hk4 hg4
  have ho4 := hk4.get (Up.get hU ho) ha
  obtain ⟨a', c', rfl⟩ := hr4.shape
  refine And.intro (ob_no (by kernel_rfl)) ?_
  push_cast (disch := omega) [ho4]
  repeat refine And.intro (by omega) ?_
  refine fun v3 hs5 hx5 hg5 => ?_
  push_cast (disch := omega)
  repeat refine And.intro (by omega) ?_
  refine And.intro (ob_no (by kernel_rfl)) ?_
  push_cast (disch := omega)
  repeat refine And.intro (by omega) ?_
  refine lay_end h0 hU hk4 hr4 ?_ (numB_len _ _) hg4 hx5 hg5
  simp only [byteV, numB, u8_mod, List.map_cons, List.map_nil, List.drop_zero]
  rw [byteN (by omega), byteN (by omega)]
  rfl
theorem lay4_any (w : World) (o : Nat) (v : Value) (xs : List UInt8) (e x : Int) (h : OutAt w o v xs e) (hx : 0 ≤ x ∧ x ≤ 4294967295) (hl : xs.length ≤ 100000) :
    CallM Tryz.prog 196 #[.pointer (some ⟨o, 0, none⟩), .int .u32 x, .int .i64 4] w fun r w' => r = .tuple #[] ∧ ∃ v', OutAt w' o v' (xs ++ numB x 4) e ∧ Kp (outS o v) w w' ∧ Grow w v v' := by
  have h0 := h
  obtain ⟨ho, hr, ha⟩ := h
  have hlt := lt_of_get ho
  refine callM_V (args := [.pointer (some ⟨o, 0, none⟩), .int .u32 x, .int .i64 4]) Tryz.func196 rfl Tryz.ntmps196 rfl (rs := []) rfl ?_
  push_cast (disch := omega)
  repeat refine V_seq (x := .seq _ _) ?_
  first | refine VR [0, 1, 2, 6] (by kernel_rfl) ?_ | refine VR1 [0, 1, 2, 6] (by kernel_rfl) ?_
  push_cast (disch := omega)
  repeat refine And.intro (by omega) ?_
  refine fun b w1 hb hs hu hg => ?_
  push_cast (disch := omega)
  repeat refine And.intro (by omega) ?_
  repeat refine V_seq (x := .seq _ _) ?_
  first | refine VR [0, 1, 2, 6, 7] (by kernel_rfl) ?_ | refine VR1 [0, 1, 2, 6, 7] (by kernel_rfl) ?_
  push_cast (disch := omega)
  repeat refine And.intro (by omega) ?_
  repeat refine V_seq (x := .seq _ _) ?_
  first | refine V_seq (V_block ?_) | refine V_block ?_
  repeat refine V_seq (x := .seq _ _) ?_
  first | refine V_seq (V_block ?_) | refine V_block ?_
  repeat refine V_seq (x := .seq _ _) ?_
  first | refine V_seq (V_block ?_) | refine V_block ?_
  repeat refine V_seq (x := .seq _ _) ?_
  first | refine V_seq (V_block ?_) | refine V_block ?_
  repeat refine V_seq (x := .seq _ _) ?_
  first | refine V_seq (V_block ?_) | refine V_block ?_
  repeat refine V_seq (x := .seq _ _) ?_
  first | refine VR [0, 1, 2, 6, 7, 8] (by kernel_rfl) ?_ | refine VR1 [0, 1, 2, 6, 7, 8] (by kernel_rfl) ?_
  push_cast (disch := omega)
  repeat refine And.intro (by omega) ?_
  repeat refine V_seq (x := .seq _ _) ?_
  first | refine V_seq (V_ift rfl ?_) | refine V_ift rfl ?_
  first | refine V_seq (V_exit ?_) | refine V_exit ?_
  push_cast (disch := omega)
  have hU : Up w w1 := hu
  repeat refine V_seq (x := .seq _ _) ?_
  first | refine VR [0, 1, 2, 6] (by kernel_rfl) ?_ | refine VR1 [0, 1, 2, 6] (by kernel_rfl) ?_
  push_cast (disch := omega) [hg]
  repeat refine And.intro (by omega) ?_
  refine fun w2 hs2 hx2 hg2 => ?_
  push_cast (disch := omega)
  repeat refine And.intro (by omega) ?_
  replace hU := hU.write hx2 (by omega)
  repeat refine V_seq (x := .seq _ _) ?_
  first | refine VR [0, 1, 2, 6] (by kernel_rfl) ?_ | refine VR1 [0, 1, 2, 6] (by kernel_rfl) ?_
  push_cast (disch := omega) [hg2]
  repeat refine And.intro (by omega) ?_
  refine fun w3 hs3 hx3 hg3 => ?_
  push_cast (disch := omega)
  repeat refine And.intro (by omega) ?_
  replace hU := hU.write hx3 (by omega)
  repeat refine V_seq (x := .seq _ _) ?_
  first | refine VR [0, 1, 2, 6] (by kernel_rfl) ?_ | refine VR1 [0, 1, 2, 6] (by kernel_rfl) ?_
  push_cast (disch := omega) [hg3]
  repeat refine And.intro (by omega) ?_
  refine fun w4 hs4 hx4 hg4 => ?_
  push_cast (disch := omega)
  repeat refine And.intro (by omega) ?_
  replace hU := hU.write hx4 (by omega)
  repeat refine V_seq (x := .seq _ _) ?_
  first | refine VR [0, 2, 6] (by kernel_rfl) ?_ | refine VR1 [0, 2, 6] (by kernel_rfl) ?_
  push_cast (disch := omega) [hg4]
  repeat refine And.intro (by omega) ?_
  refine fun w5 hs5 hx5 hg5 => ?_
  push_cast (disch := omega)
  repeat refine And.intro (by omega) ?_
  replace hU := hU.write hx5 (by omega)
  first | refine V_seq (V_exit ?_) | refine V_exit ?_
  push_cast (disch := omega)
  have ho2 := Up.get hU ho
  repeat refine V_seq (x := .seq _ _) ?_
  first | refine VD [] [(true, 0), (true, 1), (true, 2), (true, 3), (true, 4), (true, 5), (true, 6), (false, 7), (true, 8), (true, 9), (false, 10)] (by kernel_rfl) (N := [4]) (by kernel_rfl) Tryz.mixed (fun _ _ _ h => h) ?_ | refine VD1 [] [(true, 0), (true, 1), (true, 2), (true, 3), (true, 4), (true, 5), (true, 6), (false, 7), (true, 8), (true, 9), (false, 10)] (by kernel_rfl) (N := [4]) (by kernel_rfl) Tryz.mixed (fun _ _ _ h => h) ?_
  intro v1 hh hu3
  push_cast (disch := omega) [hh, ho2]
  repeat refine And.intro (by omega) ?_
  replace hU := hU.trans hu3
  refine appM slT_bytes (hr.over hU (fun _ _ e => e)) (Up.get hu3 hg5) (by simp) (by simp [one']) (by omega) (by decide) (Nat.zero_le _) ?_
  rintro v' v2 hr4 hk4 hg4
  have ho4 := hk4.get (Up.get hU ho) ha
  obtain ⟨a', c', rfl⟩ := hr4.shape
  refine And.intro (ob_no (by kernel_rfl)) ?_
  push_cast (disch := omega) [ho4]
  repeat refine And.intro (by omega) ?_
  refine fun v3 hs5 hx5 hg5 => ?_
  push_cast (disch := omega)
  repeat refine And.intro (by omega) ?_
  refine And.intro (ob_no (by kernel_rfl)) ?_
  push_cast (disch := omega)
  repeat refine And.intro (by omega) ?_
  refine lay_end h0 hU hk4 hr4 ?_ (numB_len _ _) hg4 hx5 hg5
  simp only [byteV, numB, u8_mod, List.map_cons, List.map_nil, List.drop_zero]
  rw [byteN (by omega), byteN (by omega), byteN (by omega), byteN (by omega)]
  rw [show x / 256 / 256 = x / 65536 from by omega, show x / 65536 / 256 % 256 = x / 16777216 from by omega]
  rfl
/-- A number that fits is written. -/
theorem num_any (w : World) (o : Nat) (v : Value) (xs : List UInt8) (x : Int) (n : Nat) (h : OutAt w o v xs 0) (hn : n = 1 ∨ n = 2 ∨ n = 4) (hx : 0 ≤ x ∧ x < 256 ^ n) (hl : xs.length ≤ 100000) :
    CallM Tryz.prog 168 #[.pointer (some ⟨o, 0, none⟩), .int .i64 x, .int .i64 n] w fun r w' => r = .int .i64 0 ∧ ∃ v', OutAt w' o v' (xs ++ numB x n) 0 ∧ Kp (outS o v) w w' ∧ Grow w v v' := by
  rcases hn with rfl | rfl | rfl
  · refine callM_V (args := [.pointer (some ⟨o, 0, none⟩), .int .i64 x, .int .i64 1]) Tryz.func168 rfl Tryz.ntmps168 rfl (rs := [(.tmp 6)]) rfl ?_
    push_cast (disch := omega)
    repeat refine V_seq (x := .seq _ _) ?_
    first | refine VR [0, 1, 2] (by kernel_rfl) ?_ | refine VR1 [0, 1, 2] (by kernel_rfl) ?_
    push_cast (disch := omega)
    repeat refine And.intro (by omega) ?_
    repeat refine V_seq (x := .seq _ _) ?_
    first | refine V_seq (V_block ?_) | refine V_block ?_
    repeat refine V_seq (x := .seq _ _) ?_
    first | refine VR [0, 1, 2, 7] (by kernel_rfl) ?_ | refine VR1 [0, 1, 2, 7] (by kernel_rfl) ?_
    push_cast (disch := omega)
    repeat refine And.intro (by omega) ?_
    repeat refine V_seq (x := .seq _ _) ?_
    first | refine V_seq (V_iff rfl ?_) | refine V_iff rfl ?_
    repeat refine V_seq (x := .seq _ _) ?_
    first | refine VR [0, 1, 2, 10] (by kernel_rfl) ?_ | refine VR1 [0, 1, 2, 10] (by kernel_rfl) ?_
    push_cast (disch := omega)
    repeat refine And.intro (by omega) ?_
    repeat refine V_seq (x := .seq _ _) ?_
    first | refine V_seq (V_iff rfl ?_) | refine V_iff rfl ?_
    first | refine V_seq (V_skip ?_) | refine V_skip ?_
    push_cast (disch := omega)
    repeat refine V_seq (x := .seq _ _) ?_
    first | refine VR [] (by kernel_rfl) ?_ | refine VR1 [] (by kernel_rfl) ?_
    push_cast (disch := omega)
    repeat refine And.intro (by omega) ?_
    refine callM_of (lay1_any w o v xs 0 x h (by omega) hl) ?_
    rintro _ w2 ⟨rfl, v', h2, h3, h4⟩
    push_cast (disch := omega)
    repeat refine And.intro (by omega) ?_
    repeat refine V_seq (x := .seq _ _) ?_
    first | refine VR [6] (by kernel_rfl) ?_ | refine VR1 [6] (by kernel_rfl) ?_
    push_cast (disch := omega)
    repeat refine And.intro (by omega) ?_
    first | refine V_seq (V_ret ?_) | refine V_ret ?_
    push_cast (disch := omega)
    exact ⟨v', h2, h3, h4⟩
  · refine callM_V (args := [.pointer (some ⟨o, 0, none⟩), .int .i64 x, .int .i64 2]) Tryz.func168 rfl Tryz.ntmps168 rfl (rs := [(.tmp 6)]) rfl ?_
    push_cast (disch := omega)
    repeat refine V_seq (x := .seq _ _) ?_
    first | refine VR [0, 1, 2] (by kernel_rfl) ?_ | refine VR1 [0, 1, 2] (by kernel_rfl) ?_
    push_cast (disch := omega)
    repeat refine And.intro (by omega) ?_
    repeat refine V_seq (x := .seq _ _) ?_
    first | refine V_seq (V_block ?_) | refine V_block ?_
    repeat refine V_seq (x := .seq _ _) ?_
    first | refine VR [0, 1, 2, 7] (by kernel_rfl) ?_ | refine VR1 [0, 1, 2, 7] (by kernel_rfl) ?_
    push_cast (disch := omega)
    repeat refine And.intro (by omega) ?_
    repeat refine V_seq (x := .seq _ _) ?_
    first | refine V_seq (V_iff rfl ?_) | refine V_iff rfl ?_
    repeat refine V_seq (x := .seq _ _) ?_
    first | refine VR [0, 1, 2, 10] (by kernel_rfl) ?_ | refine VR1 [0, 1, 2, 10] (by kernel_rfl) ?_
    push_cast (disch := omega)
    repeat refine And.intro (by omega) ?_
    repeat refine V_seq (x := .seq _ _) ?_
    first | refine V_seq (V_iff rfl ?_) | refine V_iff rfl ?_
    first | refine V_seq (V_skip ?_) | refine V_skip ?_
    push_cast (disch := omega)
    repeat refine V_seq (x := .seq _ _) ?_
    first | refine VR [] (by kernel_rfl) ?_ | refine VR1 [] (by kernel_rfl) ?_
    push_cast (disch := omega)
    repeat refine And.intro (by omega) ?_
    refine callM_of (lay2_any w o v xs 0 x h (by omega) hl) ?_
    rintro _ w2 ⟨rfl, v', h2, h3, h4⟩
    push_cast (disch := omega)
    repeat refine And.intro (by omega) ?_
    repeat refine V_seq (x := .seq _ _) ?_
    first | refine VR [6] (by kernel_rfl) ?_ | refine VR1 [6] (by kernel_rfl) ?_
    push_cast (disch := omega)
    repeat refine And.intro (by omega) ?_
    first | refine V_seq (V_ret ?_) | refine V_ret ?_
    push_cast (disch := omega)
    exact ⟨v', h2, h3, h4⟩
  · refine callM_V (args := [.pointer (some ⟨o, 0, none⟩), .int .i64 x, .int .i64 4]) Tryz.func168 rfl Tryz.ntmps168 rfl (rs := [(.tmp 6)]) rfl ?_
    push_cast (disch := omega)
    repeat refine V_seq (x := .seq _ _) ?_
    first | refine VR [0, 1, 2] (by kernel_rfl) ?_ | refine VR1 [0, 1, 2] (by kernel_rfl) ?_
    push_cast (disch := omega)
    repeat refine And.intro (by omega) ?_
    repeat refine V_seq (x := .seq _ _) ?_
    first | refine V_seq (V_block ?_) | refine V_block ?_
    repeat refine V_seq (x := .seq _ _) ?_
    first | refine VR [0, 1, 2, 7] (by kernel_rfl) ?_ | refine VR1 [0, 1, 2, 7] (by kernel_rfl) ?_
    push_cast (disch := omega)
    repeat refine And.intro (by omega) ?_
    repeat refine V_seq (x := .seq _ _) ?_
    first | refine V_seq (V_iff rfl ?_) | refine V_iff rfl ?_
    repeat refine V_seq (x := .seq _ _) ?_
    first | refine VR [0, 1, 2, 10] (by kernel_rfl) ?_ | refine VR1 [0, 1, 2, 10] (by kernel_rfl) ?_
    push_cast (disch := omega)
    repeat refine And.intro (by omega) ?_
    repeat refine V_seq (x := .seq _ _) ?_
    first | refine V_seq (V_iff rfl ?_) | refine V_iff rfl ?_
    first | refine V_seq (V_skip ?_) | refine V_skip ?_
    push_cast (disch := omega)
    repeat refine V_seq (x := .seq _ _) ?_
    first | refine VR [] (by kernel_rfl) ?_ | refine VR1 [] (by kernel_rfl) ?_
    push_cast (disch := omega)
    repeat refine And.intro (by omega) ?_
    refine callM_of (lay4_any w o v xs 0 x h (by omega) hl) ?_
    rintro _ w2 ⟨rfl, v', h2, h3, h4⟩
    push_cast (disch := omega)
    repeat refine And.intro (by omega) ?_
    repeat refine V_seq (x := .seq _ _) ?_
    first | refine VR [6] (by kernel_rfl) ?_ | refine VR1 [6] (by kernel_rfl) ?_
    push_cast (disch := omega)
    repeat refine And.intro (by omega) ?_
    first | refine V_seq (V_ret ?_) | refine V_ret ?_
    push_cast (disch := omega)
    exact ⟨v', h2, h3, h4⟩
/-- All that was written. -/
theorem done_any (w : World) (o : Nat) (v : Value) (xs : List UInt8) (h : OutAt w o v xs 0) :
    CallM Tryz.prog 169 #[.pointer (some ⟨o, 0, none⟩)] w fun r w' => r = .tuple #[.string ⟨xs.toArray⟩, .int .i64 0] ∧ w' = w := by
  obtain ⟨ho, hr, ha⟩ := h
  refine callM_V (args := [.pointer (some ⟨o, 0, none⟩)]) Tryz.func169 rfl Tryz.ntmps169 rfl (rs := [(.tmp 2), (.tmp 3)]) rfl ?_
  push_cast (disch := omega)
  repeat refine V_seq (x := .seq _ _) ?_
  first | refine VR [0] (by kernel_rfl) ?_ | refine VR1 [0] (by kernel_rfl) ?_
  push_cast (disch := omega)
  repeat refine And.intro (by omega) ?_
  repeat refine V_seq (x := .seq _ _) ?_
  first | refine V_seq (V_block ?_) | refine V_block ?_
  repeat refine V_seq (x := .seq _ _) ?_
  first | refine VR [0, 4] (by kernel_rfl) ?_ | refine VR1 [0, 4] (by kernel_rfl) ?_
  push_cast (disch := omega)
  repeat refine And.intro (by omega) ?_
  repeat refine V_seq (x := .seq _ _) ?_
  first | refine V_seq (V_iff rfl ?_) | refine V_iff rfl ?_
  repeat refine V_seq (x := .seq _ _) ?_
  first | refine VR [0, 7] (by kernel_rfl) ?_ | refine VR1 [0, 7] (by kernel_rfl) ?_
  push_cast (disch := omega) [ho]
  repeat refine And.intro (by omega) ?_
  repeat refine V_seq (x := .seq _ _) ?_
  first | refine V_seq (V_iff rfl ?_) | refine V_iff rfl ?_
  first | refine V_seq (V_skip ?_) | refine V_skip ?_
  push_cast (disch := omega)
  repeat refine V_seq (x := .seq _ _) ?_
  first | refine VR [2, 3] (by kernel_rfl) ?_ | refine VR1 [2, 3] (by kernel_rfl) ?_
  push_cast (disch := omega) [ho]
  repeat refine And.intro (by omega) ?_
  obtain ⟨a, c, rfl⟩ := hr.shape
  push_cast (disch := omega)
  repeat refine And.intro (by omega) ?_
  refine strOfRow (by kernel_rfl) (by kernel_rfl) (by kernel_rfl) hr ?_
  first | refine V_seq (V_ret ?_) | refine V_ret ?_
  push_cast (disch := omega)
end Go.Proofs
namespace Go.Proofs
open Go Go.Vc Go.RowKit Go.Lib
set_option maxRecDepth 100000
set_option linter.unusedVariables false
theorem und_pb : Tryz.prog.underlying 164 = some (.pointer 166) := by kernel_rfl
theorem und_up : Tryz.prog.underlying 241 = some .unsafePointer := by kernel_rfl
theorem cc_used (b : Nat) (w : World) (h0 : w.cell? ⟨b, 0, none⟩ = some (.pointer (some ⟨b, 0, none⟩))) :
    Calls Tryz.prog 163 #[.pointer (some ⟨b, 0, none⟩)] w fun e w' => e = .returned (.tuple #[]) ∧ w' = w := by
  obtain ⟨j, hj, hjs⟩ := Option.map_eq_some_iff.1 (show (Tryz.prog.info? 166).map (·.size) = some 2 from by kernel_rfl)
  go_enter Tryz.func163, Tryz.ntmps163
  go_wp2
  rw [Lib.run_neq_ptr_same w _ und_pb hj]
  go_wp2
  go_end0
  exact ⟨rfl, rfl⟩
theorem cc_fresh (b : Nat) (w : World) (h0 : w.cell? ⟨b, 0, none⟩ = some (.pointer none)) (hsh : w.shape? b = some (166, 2)) (hfz : w.frozen? ⟨b, 0, none⟩ = false) :
    Calls Tryz.prog 163 #[.pointer (some ⟨b, 0, none⟩)] w fun e w' => e = .returned (.tuple #[]) ∧ w' = w.setCell ⟨b, 0, none⟩ (.pointer (some ⟨b, 0, none⟩)) := by
  obtain ⟨j, hj, hjs⟩ := Option.map_eq_some_iff.1 (show (Tryz.prog.info? 166).map (·.size) = some 2 from by kernel_rfl)
  go_enter Tryz.func163, Tryz.ntmps163
  go_wp2
  rw [Lib.run_to_unsafe w ⟨b, 0, none⟩ und_pb und_up hj (by rw [hjs]; decide) hsh (Nat.zero_lt_succ 1)]
  simp only [Result.andThen]
  rw [Oper.upon_value]
  go_wp2
  rw [run_callFunc_extern Tryz.func191 (by kernel_rfl) (by kernel_rfl) (by kernel_rfl) (e := Extern.AbiNoEscape.same) (by kernel_rfl)]
  rw [Lib.run_noEscape]
  simp only [Result.andThen]
  rw [Oper.upon_value]
  go_wp2
  rw [Lib.run_from_unsafe w ⟨b, 0, none⟩ und_up und_pb hj hsh (show liesAt Tryz.prog Tryz.prog.depth 166 (2 / Tryz.prog.cellsOf 166) 0 166 1 = true from by kernel_rfl)]
  simp only [Result.andThen]
  rw [Oper.upon_value]
  go_wp2
  go_end0
  exact ⟨rfl, rfl⟩
/-- A builder of a text. -/
structure BldAt (w : World) (b : Nat) (p v : Value) (bs : List Value) : Prop where
  cell : w.heap[b]? = some (.cells #[p, v] 166 (0, 0))
  row : w.ownsRowF 0 5 1 v bs.length bs
  apart : v.ownBlock ≠ some b
  head : p = .pointer none ∨ p = .pointer (some ⟨b, 0, none⟩)
theorem cc_any (w : World) (b : Nat) (p v : Value) (bs : List Value) (h : BldAt w b p v bs) :
    CallM Tryz.prog 163 #[.pointer (some ⟨b, 0, none⟩)] w fun r w' => r = .tuple #[] ∧ BldAt w' b (.pointer (some ⟨b, 0, none⟩)) v bs ∧ Ux b w w' := by
  obtain ⟨hc, hr, ha, hp⟩ := h
  have h0 : w.cell? ⟨b, 0, none⟩ = some p := by rw [Vc.cell_of_heap hc]; rfl
  rcases hp with rfl | rfl
  · refine callM_kit (cc_fresh b w h0 (by simp [World.shape?, hc]) (by simp [World.frozen?, hc])) ?_
    rintro w' rfl
    refine ⟨rfl, ⟨?_, ?_, ha, .inr rfl⟩, Ux.of_set _ _ _ _⟩
    · rw [heap_setCell' hc]; rfl
    · exact hr.over (Ux.of_set w b 0 _) (fun g hg e => ha (by rw [hg, e]))
  · refine callM_kit (cc_used b w h0) ?_
    rintro w' rfl
    exact ⟨rfl, ⟨hc, hr, ha, .inr rfl⟩, Kp.refl _ _⟩
theorem bws_any (w : World) (b : Nat) (p v : Value) (bs : List Value) (s : ByteArray) (h : BldAt w b p v bs) (hl : bs.length + s.size ≤ 1000000000) :
    CallM Tryz.prog 119 #[.pointer (some ⟨b, 0, none⟩), .string s] w fun r w' => r = .tuple #[.int .i64 s.size, .nilIface] ∧ ∃ v', BldAt w' b (.pointer (some ⟨b, 0, none⟩)) v' (bs ++ strCells s) ∧ (v' = .slice none 0 0 ↔ v = .slice none 0 0 ∧ s.size = 0) ∧ Kp (outS b v) w w' ∧ Grow w v v' := by
  refine callM_V (args := [.pointer (some ⟨b, 0, none⟩), .string s]) Tryz.func119 rfl Tryz.ntmps119 rfl (rs := [(.tmp 4), (.tmp 5)]) rfl ?_
  push_cast (disch := omega)
  repeat refine V_seq (x := .seq _ _) ?_
  first | refine VR [0, 1] (by kernel_rfl) ?_ | refine VR1 [0, 1] (by kernel_rfl) ?_
  push_cast (disch := omega)
  repeat refine And.intro (by omega) ?_
  repeat refine V_seq (x := .seq _ _) ?_
  first | refine VR [0, 1] (by kernel_rfl) ?_ | refine VR1 [0, 1] (by kernel_rfl) ?_
  push_cast (disch := omega)
  repeat refine And.intro (by omega) ?_
  refine callM_of (cc_any w b p v bs h) ?_
  rintro _ w1 ⟨rfl, ⟨hc, hr, ha, _⟩, hx1⟩
  push_cast (disch := omega)
  repeat refine And.intro (by omega) ?_
  repeat refine V_seq (x := .seq _ _) ?_
  first | refine VR [1] (by kernel_rfl) ?_ | refine VR1 [1] (by kernel_rfl) ?_
  push_cast (disch := omega) [hc]
  repeat refine And.intro (by omega) ?_
  refine appStrF (by kernel_rfl) (by kernel_rfl) ⟨_, rfl, rfl, rfl, rfl⟩ hr hl ?_
  rintro v' w2 hr2 hk2 hn2 hg2
  have hc2 := hk2.get hc ha
  obtain ⟨a', c', rfl⟩ := hr2.shape
  push_cast (disch := omega) [hc2]
  repeat refine And.intro (by omega) ?_
  refine fun w3 hs3 hx3 hg3 => ?_
  push_cast (disch := omega)
  repeat refine And.intro (by omega) ?_
  repeat refine V_seq (x := .seq _ _) ?_
  first | refine VR [4, 5] (by kernel_rfl) ?_ | refine VR1 [4, 5] (by kernel_rfl) ?_
  push_cast (disch := omega)
  repeat refine And.intro (by omega) ?_
  first | refine V_seq (V_ret ?_) | refine V_ret ?_
  push_cast (disch := omega)
  have hne := hg2.ne (lt_of_get hc) ha
  refine ⟨_, ⟨hg3, ?_, hne, .inr rfl⟩, hn2, ?_, ?_⟩
  · have := hr2.over hx3 (fun g hgg e => hne (by rw [hgg, e]))
    rw [List.length_append, strCells_length]
    exact this
  · exact ((hx1.mono (fun i _ e => .inl e)).step hk2 (fun i _ e => .inr e)).step hx3 (fun i _ e => .inl e)
  · exact (Grow.refl w v).trans hg2 hx1.size
end Go.Proofs
namespace Go.Proofs
open Go Go.Vc Go.RowKit Go.Lib
set_option maxRecDepth 100000
set_option linter.unusedVariables false
theorem und_pu8 : Tryz.prog.underlying 219 = some (.pointer 5) := by kernel_rfl
set_option maxHeartbeats 1000000 in
theorem bstr_some (b g cap : Nat) (p : Value) (cur : Array Value) (fz : Nat × Nat) (l : List UInt8) (w : World) (hbk : w.heap[b]? = some (.cells #[p, .slice (some ⟨g, 0, none⟩) l.length cap] 166 (0, 0))) (h0 : l ≠ [])
    (hown : w.ownsRowF 0 5 1 (.slice (some ⟨g, 0, none⟩) l.length cap) l.length (byteCells l)) (hg : w.heap[g]? = some (.cells cur 5 fz)) (hcs : cur.size = cap * 1) (hnc : l.length ≤ cap) (hcm : cap ≤ maxLen) :
    Calls Tryz.prog 121 #[.pointer (some ⟨b, 0, none⟩)] w fun e w' => e = .returned (.string ⟨l.toArray⟩) ∧ w' = w.drew.freeze ⟨g, 0, none⟩ l.length := by
  have hl0 : l.length ≠ 0 := by simpa using h0
  have c1 : w.drew.cell? ⟨b, 1, none⟩ = some (.slice (some ⟨g, 0, none⟩) l.length cap) := by
    have : w.drew.heap[b]? = some (.cells #[p, .slice (some ⟨g, 0, none⟩) l.length cap] 166 (0, 0)) := hbk
    rw [Lib.cell_of_heap this]; rfl
  have hSD : (Builtin.unsafeSliceData_ #[51] 219 #[.slice (some ⟨g, 0, none⟩) l.length cap]).run Tryz.prog w.drew = .ok (.pointer (some ⟨g, 0, none⟩)) w.drew :=
    Lib.run_unsafeSliceData_row _ _ _ _ _ _ (by omega)
  have hUS : (Builtin.unsafeString_ #[219, 3] 9 #[.pointer (some ⟨g, 0, none⟩), .int .i64 l.length]).run Tryz.prog w.drew = .ok (.string ⟨l.toArray⟩) (w.drew.freeze ⟨g, 0, none⟩ l.length) := by
    refine Lib.run_unsafeString_row w.drew 219 3 9 5 und_pu8 (by kernel_rfl) g cur.size (by have hg' : w.drew.heap[g]? = some (.cells cur 5 fz) := hg; simp [World.shape?, hg']) l h0 (by omega) (by unfold maxLen at hcm; omega) ?_
    intro j x hx
    have := hown.cells (g := g) rfl j (.int .u8 x.toNat) (by simp [Lib.byteCells, hx])
    exact this
  go_enter Tryz.func121, Tryz.ntmps121
  go_wp2
  go_region
  all_goals (go_wp2; go_ret; exact ⟨rfl, rfl⟩)
set_option maxHeartbeats 1000000 in
theorem bstr_nil (b : Nat) (p : Value) (w : World) (hbk : w.heap[b]? = some (.cells #[p, .slice none 0 0] 166 (0, 0))) :
    Calls Tryz.prog 121 #[.pointer (some ⟨b, 0, none⟩)] w fun e w' => e = .returned (.string ⟨#[]⟩) ∧ w' = w.drew := by
  have hUS : ∀ w, (Builtin.unsafeString_ #[219, 3] 9 #[.pointer none, .int .i64 0]).run Tryz.prog w = .ok (.string ⟨#[]⟩) w := fun w => by kernel_rfl
  have c1 : w.drew.cell? ⟨b, 1, none⟩ = some (.slice none 0 0) := by
    have : w.drew.heap[b]? = some (.cells #[p, .slice none 0 0] 166 (0, 0)) := hbk
    rw [Lib.cell_of_heap this]; rfl
  have hSD : (Builtin.unsafeSliceData_ #[51] 219 #[.slice none 0 0]).run Tryz.prog w.drew = .ok (.pointer none) w.drew := rfl
  go_enter Tryz.func121, Tryz.ntmps121
  go_wp2
  go_region
  all_goals (go_wp2; go_ret; exact ⟨rfl, rfl⟩)
/-- The text that a builder of nothing or of some bytes holds. -/
theorem bstr_any (w : World) (b : Nat) (p v : Value) (l : List UInt8) (h : BldAt w b p v (byteCells l)) (hn : l = [] → v = .slice none 0 0) :
    CallM Tryz.prog 121 #[.pointer (some ⟨b, 0, none⟩)] w fun r w' => r = .string ⟨l.toArray⟩ ∧ BldAt w' b p v (byteCells l) ∧ Kp (fun i => v.ownBlock = some i) w w' := by
  obtain ⟨hc, hr, ha, hp⟩ := h
  by_cases h0 : l = []
  · have hv := hn h0
    subst h0 hv
    refine callM_kit (bstr_nil b p w hc) ?_
    rintro w' rfl
    exact ⟨rfl, ⟨hc, hr, ha, hp⟩, (drew_up w).mono (fun _ _ e => e.elim)⟩
  · have hlen : (byteCells l).length = l.length := Lib.byteCells_length l
    rw [hlen] at hr
    rcases hr.2 with ⟨_, hz⟩ | ⟨g, cap, cur, fz, rfl, _, hg, hfz, hnc, hcm, hcs, htk⟩
    · exact absurd (List.eq_nil_of_length_eq_zero hz) h0
    · refine callM_kit (bstr_some b g cap p cur fz l w hc h0 hr hg hcs hnc hcm) ?_
      rintro w' rfl
      have hgb : g ≠ b := fun e => ha (by rw [e]; rfl)
      have hk : Kp (fun i => (Value.slice (some ⟨g, 0, none⟩) l.length cap).ownBlock = some i) w (w.drew.freeze ⟨g, 0, none⟩ l.length) := by
        exact ((drew_up w).mono (fun _ _ e => e.elim)).step (freeze_ux w.drew g 0 l.length) (fun i _ e => by rw [e]; rfl)
      have hB : BuilderAtF 166 5 0 b p (byteCells l) w.drew := ⟨Nat.zero_le _, _, hc, by rw [hlen]; exact hr, ha⟩
      have c1 : w.drew.cell? ⟨b, 1, none⟩ = some (.slice (some ⟨g, 0, none⟩) (byteCells l).length cap) := by
        have : w.drew.heap[b]? = some (.cells #[p, .slice (some ⟨g, 0, none⟩) l.length cap] 166 (0, 0)) := hc
        rw [Lib.cell_of_heap this, hlen]; rfl
      have hF := hB.froze c1
      rw [hlen] at hF
      obtain ⟨_, v, hb', hr', ha'⟩ := hF
      have hc' := hk.get hc (fun e => hgb (by cases e; rfl))
      rw [hc'] at hb'
      injection hb' with hb'
      injection hb' with hb' _ _
      injection hb' with hb'
      injection hb' with _ hb'
      injection hb' with hb' _
      subst hb'
      exact ⟨rfl, ⟨hc', hr', ha, hp⟩, hk⟩
theorem blen_any (w : World) (b : Nat) (p v : Value) (bs : List Value) (h : BldAt w b p v bs) :
    CallM Tryz.prog 120 #[.pointer (some ⟨b, 0, none⟩)] w fun r w' => r = .int .i64 bs.length ∧ w' = w := by
  obtain ⟨hc, hr, ha, hp⟩ := h
  obtain ⟨a, c, rfl⟩ := hr.shape
  refine callM_V (args := [.pointer (some ⟨b, 0, none⟩)]) Tryz.func120 rfl Tryz.ntmps120 rfl (rs := [(.tmp 2)]) rfl ?_
  push_cast (disch := omega)
  repeat refine V_seq (x := .seq _ _) ?_
  first | refine VR [0] (by kernel_rfl) ?_ | refine VR1 [0] (by kernel_rfl) ?_
  push_cast (disch := omega)
  repeat refine And.intro (by omega) ?_
  repeat refine V_seq (x := .seq _ _) ?_
  first | refine VR [2] (by kernel_rfl) ?_ | refine VR1 [2] (by kernel_rfl) ?_
  push_cast (disch := omega) [hc]
  repeat refine And.intro (by omega) ?_
  first | refine V_seq (V_ret ?_) | refine V_ret ?_
  push_cast (disch := omega)
end Go.Proofs
namespace Go.Proofs
open Go Go.Vc Go.RowKit Go.Lib
set_option maxRecDepth 100000
set_option linter.unusedVariables false
def zerosB (n : Nat) : ByteArray := ⟨Array.replicate n 0⟩
@[push_cast] theorem zerosB_size (n : Nat) : (zerosB n).size = n := by show (Array.replicate n (0 : UInt8)).size = n; simp
theorem zero_extract (m k : Nat) (h : k ≤ m) : (⟨(List.replicate m (0 : UInt8)).toArray⟩ : ByteArray).extract 0 k = zerosB k := by
  apply ByteArray.ext
  rw [ByteArray.data_extract]
  apply Array.ext'
  simp [zerosB, Nat.min_eq_left h]
theorem zero_cells (m k : Nat) : byteCells (List.replicate (m + k) 0) = byteCells (List.replicate m 0) ++ strCells (zerosB k) := by
  simp [byteCells, strCells, zerosB, List.replicate_append_replicate]
theorem mul_any (x y : Int) (w : World) (hx : 0 ≤ x ∧ x ≤ 1000000) (hy : 0 ≤ y ∧ y ≤ 1000000) : CallM Tryz.prog 116 #[.int .u64 x, .int .u64 y] w fun v w' => v = .tuple #[.int .u64 0, .int .u64 (x * y)] ∧ w' = w := by
  have h := Tryz.bits_Mul x.toNat y.toNat (by omega) (by omega) w
  rw [show ((x.toNat : Nat) : Int) = x from by omega, show ((y.toNat : Nat) : Int) = y from by omega] at h
  refine callM_kit h ?_
  rintro w' rfl
  have hp : x.toNat * y.toNat ≤ 1000000 * 1000000 := Nat.mul_le_mul (by omega) (by omega)
  have hxy : ((x.toNat * y.toNat : Nat) : Int) = x * y := by
    rw [Int.natCast_mul]; congr 1 <;> omega
  refine ⟨?_, rfl⟩
  rw [Nat.div_eq_of_lt (by omega), Nat.mod_eq_of_lt (by omega), hxy]
  rfl
theorem repeat_any (c : Nat) (w : World) (h : c ≤ 1000) : CallM Tryz.prog 40 #[.string ⟨#[0]⟩, .int .i64 c] w fun v w' => v = .string (zerosB c) ∧ Up w w' := by
  have hz : (⟨#[0]⟩ : ByteArray).size = 1 := rfl
  have hb0 : bAt ⟨#[0]⟩ 0 = 0 := rfl
  refine callM_V (args := [.string ⟨#[0]⟩, .int .i64 c]) Tryz.func40 rfl Tryz.ntmps40 rfl (rs := [(.tmp 4)]) rfl ?_
  push_cast (disch := omega)
  repeat refine V_seq (x := .seq _ _) ?_
  first | refine VR [0, 1] (by kernel_rfl) ?_ | refine VR1 [0, 1] (by kernel_rfl) ?_
  push_cast (disch := omega)
  repeat refine And.intro (by omega) ?_
  repeat refine V_seq (x := .seq _ _) ?_
  first | refine VR [0, 1, 11] (by kernel_rfl) ?_ | refine VR1 [0, 1, 11] (by kernel_rfl) ?_
  push_cast (disch := omega)
  repeat refine And.intro (by omega) ?_
  repeat refine V_seq (x := .seq _ _) ?_
  first | refine V_seq (V_block ?_) | refine V_block ?_
  repeat refine V_seq (x := .seq _ _) ?_
  first | refine VR [0, 1, 11, 12] (by kernel_rfl) ?_ | refine VR1 [0, 1, 11, 12] (by kernel_rfl) ?_
  push_cast (disch := omega)
  repeat refine And.intro (by omega) ?_
  repeat refine V_seq (x := .seq _ _) ?_
  first | refine V_seq (V_ifd rfl (fun h1 => ?_) (fun h1 => ?_)) | refine V_ifd rfl (fun h1 => ?_) (fun h1 => ?_)
  · repeat refine V_seq (x := .seq _ _) ?_
    first | refine VR [4] (by kernel_rfl) ?_ | refine VR1 [4] (by kernel_rfl) ?_
    push_cast (disch := omega)
    repeat refine And.intro (by omega) ?_
    first | refine V_seq (V_ret ?_) | refine V_ret ?_
    push_cast (disch := omega)
    obtain rfl : c = 0 := by omega
    exact ⟨rfl, Kp.refl _ _⟩
  repeat refine V_seq (x := .seq _ _) ?_
  first | refine VR [0, 1, 14] (by kernel_rfl) ?_ | refine VR1 [0, 1, 14] (by kernel_rfl) ?_
  push_cast (disch := omega)
  repeat refine And.intro (by omega) ?_
  repeat refine V_seq (x := .seq _ _) ?_
  first | refine V_seq (V_ifd rfl (fun h2 => ?_) (fun h2 => ?_)) | refine V_ifd rfl (fun h2 => ?_) (fun h2 => ?_)
  · repeat refine V_seq (x := .seq _ _) ?_
    first | refine VR [4] (by kernel_rfl) ?_ | refine VR1 [4] (by kernel_rfl) ?_
    push_cast (disch := omega)
    repeat refine And.intro (by omega) ?_
    first | refine V_seq (V_ret ?_) | refine V_ret ?_
    push_cast (disch := omega)
    obtain rfl : c = 1 := by omega
    exact ⟨rfl, Kp.refl _ _⟩
  first | refine V_seq (V_skip ?_) | refine V_skip ?_
  push_cast (disch := omega)
  repeat refine V_seq (x := .seq _ _) ?_
  first | refine VR [0, 1, 18] (by kernel_rfl) ?_ | refine VR1 [0, 1, 18] (by kernel_rfl) ?_
  push_cast (disch := omega)
  repeat refine And.intro (by omega) ?_
  repeat refine V_seq (x := .seq _ _) ?_
  first | refine V_seq (V_iff rfl ?_) | refine V_iff rfl ?_
  first | refine V_seq (V_skip ?_) | refine V_skip ?_
  push_cast (disch := omega)
  repeat refine V_seq (x := .seq _ _) ?_
  first | refine VR [0, 5, 6] (by kernel_rfl) ?_ | refine VR1 [0, 5, 6] (by kernel_rfl) ?_
  push_cast (disch := omega) [hz]
  repeat refine And.intro (by omega) ?_
  refine callM_of (mul_any _ _ w (by omega) (by omega)) ?_
  rintro _ w1 ⟨rfl, rfl⟩
  push_cast (disch := omega)
  repeat refine And.intro (by omega) ?_
  repeat refine V_seq (x := .seq _ _) ?_
  first | refine VR [0, 6, 34] (by kernel_rfl) ?_ | refine VR1 [0, 6, 34] (by kernel_rfl) ?_
  push_cast (disch := omega)
  repeat refine And.intro (by omega) ?_
  repeat refine V_seq (x := .seq _ _) ?_
  first | refine V_seq (V_iff rfl ?_) | refine V_iff rfl ?_
  first | refine V_seq (V_skip ?_) | refine V_skip ?_
  push_cast (disch := omega)
  repeat refine V_seq (x := .seq _ _) ?_
  first | refine VR [0, 7] (by kernel_rfl) ?_ | refine VR1 [0, 7] (by kernel_rfl) ?_
  push_cast (disch := omega)
  repeat refine And.intro (by omega) ?_
  repeat refine V_seq (x := .seq _ _) ?_
  first | refine VR [0, 7, 40] (by kernel_rfl) ?_ | refine VR1 [0, 7, 40] (by kernel_rfl) ?_
  push_cast (disch := omega) [hz]
  repeat refine And.intro (by omega) ?_
  repeat refine V_seq (x := .seq _ _) ?_
  first | refine V_seq (V_iff rfl ?_) | refine V_iff rfl ?_
  first | refine V_seq (V_skip ?_) | refine V_skip ?_
  push_cast (disch := omega)
  repeat refine V_seq (x := .seq _ _) ?_
  first | refine VR [0, 7, 42] (by kernel_rfl) ?_ | refine VR1 [0, 7, 42] (by kernel_rfl) ?_
  push_cast (disch := omega) [hz, hb0]
  repeat refine And.intro (by omega) ?_
  repeat refine V_seq (x := .seq _ _) ?_
  first | refine V_seq (V_block ?_) | refine V_block ?_
  repeat refine V_seq (x := .seq _ _) ?_
  first | refine VR [0, 7, 42, 43] (by kernel_rfl) ?_ | refine VR1 [0, 7, 42, 43] (by kernel_rfl) ?_
  push_cast (disch := omega)
  repeat refine And.intro (by omega) ?_
  repeat refine V_seq (x := .seq _ _) ?_
  first | refine V_seq (V_iff rfl ?_) | refine V_iff rfl ?_
  repeat refine V_seq (x := .seq _ _) ?_
  first | refine VR [0, 7, 42, 43] (by kernel_rfl) ?_ | refine VR1 [0, 7, 42, 43] (by kernel_rfl) ?_
  push_cast (disch := omega)
  repeat refine And.intro (by omega) ?_
  repeat refine V_seq (x := .seq _ _) ?_
  first | refine V_seq (V_iff rfl ?_) | refine V_iff rfl ?_
  repeat refine V_seq (x := .seq _ _) ?_
  first | refine VR [0, 7, 42, 43] (by kernel_rfl) ?_ | refine VR1 [0, 7, 42, 43] (by kernel_rfl) ?_
  push_cast (disch := omega)
  repeat refine And.intro (by omega) ?_
  repeat refine V_seq (x := .seq _ _) ?_
  first | refine V_seq (V_iff rfl ?_) | refine V_iff rfl ?_
  repeat refine V_seq (x := .seq _ _) ?_
  first | refine VR [0, 7, 42, 43] (by kernel_rfl) ?_ | refine VR1 [0, 7, 42, 43] (by kernel_rfl) ?_
  push_cast (disch := omega)
  repeat refine And.intro (by omega) ?_
  repeat refine V_seq (x := .seq _ _) ?_
  first | refine V_seq (V_iff rfl ?_) | refine V_iff rfl ?_
  repeat refine V_seq (x := .seq _ _) ?_
  first | refine VR [0, 7, 43] (by kernel_rfl) ?_ | refine VR1 [0, 7, 43] (by kernel_rfl) ?_
  push_cast (disch := omega)
  repeat refine And.intro (by omega) ?_
  repeat refine V_seq (x := .seq _ _) ?_
  first | refine V_seq (V_iff rfl ?_) | refine V_iff rfl ?_
  first | refine V_seq (V_skip ?_) | refine V_skip ?_
  push_cast (disch := omega)
  repeat refine V_seq (x := .seq _ _) ?_
  first | refine VR [0, 7, 8] (by kernel_rfl) ?_ | refine VR1 [0, 7, 8] (by kernel_rfl) ?_
  push_cast (disch := omega)
  repeat refine And.intro (by omega) ?_
  repeat refine V_seq (x := .seq _ _) ?_
  first | refine VR [0, 7, 8, 96] (by kernel_rfl) ?_ | refine VR1 [0, 7, 8, 96] (by kernel_rfl) ?_
  push_cast (disch := omega)
  repeat refine And.intro (by omega) ?_
  repeat refine V_seq (x := .seq _ _) ?_
  first | refine V_seq (V_iff rfl ?_) | refine V_iff rfl ?_
  first | refine V_seq (V_skip ?_) | refine V_skip ?_
  push_cast (disch := omega)
  repeat refine V_seq (x := .seq _ _) ?_
  first | refine VR [0, 7, 8, 9] (by kernel_rfl) ?_ | refine VR1 [0, 7, 8, 9] (by kernel_rfl) ?_
  push_cast (disch := omega)
  repeat refine And.intro (by omega) ?_
  refine fun b w2 hb hs hu hg => ?_
  push_cast (disch := omega)
  repeat refine And.intro (by omega) ?_
  repeat refine V_seq (x := .seq _ _) ?_
  first | refine VR [0, 7, 8, 9] (by kernel_rfl) ?_ | refine VR1 [0, 7, 8, 9] (by kernel_rfl) ?_
  push_cast (disch := omega)
  repeat refine And.intro (by omega) ?_
  refine callM_kit (Tryz.Builder_Grow_fresh b b c w2 (Nat.le_refl _) hg (by omega) (by omega)) ?_
  rintro w3 ⟨⟨_, v3, hbk, hown, hne⟩, hbel⟩
  have hU3 : Up w1 w3 := Up.below_after hu hbel (by omega)
  have hB3 : BldAt w3 b (.pointer (some ⟨b, 0, none⟩)) v3 [] := ⟨hbk, World.ownsRowF_of ⟨hown.1, hown.2.imp id (fun ⟨g, cap, cur, h1, _, h3⟩ => ⟨g, cap, cur, h1, Nat.zero_le _, h3⟩)⟩, hne, .inr rfl⟩
  have hO3 : ∀ g, v3.ownBlock = some g → w1.heap.size ≤ g := fun g hg => by have := (hown.lt g hg).1; omega
  push_cast (disch := omega)
  repeat refine And.intro (by omega) ?_
  repeat refine V_seq (x := .seq _ _) ?_
  first | refine VR [7, 8, 9] (by kernel_rfl) ?_ | refine VR1 [7, 8, 9] (by kernel_rfl) ?_
  push_cast (disch := omega) [hz]
  repeat refine And.intro (by omega) ?_
  refine callM_of (bws_any w3 b _ v3 [] ⟨#[0]⟩ hB3 (by decide)) ?_
  rintro _ w4 ⟨rfl, v4, hB4, _, hk4, hg4⟩
  push_cast (disch := omega)
  repeat refine And.intro (by omega) ?_
  have hO4 : ∀ g, v4.ownBlock = some g → w1.heap.size ≤ g := fun g hg => by
    rcases hg4 with e | ⟨g', e, hle⟩
    · exact hO3 g (by rw [← e]; exact hg)
    · rw [e] at hg; cases hg; have := hU3.size; omega
  have hU4 : Up w1 w4 := hU3.turn hk4 (fun i hi => by rcases hi with rfl | hi; omega; exact hO3 i hi)
  repeat refine V_seq (x := .seq _ _) ?_
  first | refine V_seq (V_block ?_) | refine V_block ?_
  repeat refine V_seq (x := .seq _ _) ?_
  first | refine V_seq (V_loopE (ι := Nat) [7, 8, 9] (fun m => [(7, .int .i64 c), (8, .int .i64 c), (9, .pointer (some ⟨b, 0, none⟩))]) (fun m => fun w' => (1 ≤ m ∧ m ≤ c) ∧ Up w1 w' ∧ ∃ v, BldAt w' b (.pointer (some ⟨b, 0, none⟩)) v (byteCells (List.replicate m 0)) ∧ ∀ g, v.ownBlock = some g → w1.heap.size ≤ g) (fun m => c - m) (1) (by first | (push_cast; rfl) | (push_cast; done)) (⟨⟨by omega, by omega⟩, hU4, v4, hB4, hO4⟩) ?_) | refine V_loopE (ι := Nat) [7, 8, 9] (fun m => [(7, .int .i64 c), (8, .int .i64 c), (9, .pointer (some ⟨b, 0, none⟩))]) (fun m => fun w' => (1 ≤ m ∧ m ≤ c) ∧ Up w1 w' ∧ ∃ v, BldAt w' b (.pointer (some ⟨b, 0, none⟩)) v (byteCells (List.replicate m 0)) ∧ ∀ g, v.ownBlock = some g → w1.heap.size ≤ g) (fun m => c - m) (1) (by first | (push_cast; rfl) | (push_cast; done)) (⟨⟨by omega, by omega⟩, hU4, v4, hB4, hO4⟩) ?_
  rintro m wl hI
  obtain ⟨⟨hm1, hm2⟩, hU, v, hB, hO⟩ := hI
  have hlen : (byteCells (List.replicate m 0)).length = m := by simp [byteCells]
  repeat refine V_seq (x := .seq _ _) ?_
  first | refine VR [7, 8, 9, 113] (by kernel_rfl) ?_ | refine VR1 [7, 8, 9, 113] (by kernel_rfl) ?_
  push_cast (disch := omega)
  repeat refine And.intro (by omega) ?_
  refine callM_of (blen_any wl b _ v _ hB) ?_
  rintro _ w5 ⟨rfl, rfl⟩
  push_cast (disch := omega)
  repeat refine And.intro (by omega) ?_
  rw [hlen]
  push_cast (disch := omega)
  repeat refine And.intro (by omega) ?_
  repeat refine V_seq (x := .seq _ _) ?_
  first | refine V_seq (V_ifd rfl (fun hc => ?_) (fun hc => ?_)) | refine V_ifd rfl (fun hc => ?_) (fun hc => ?_)
  · first | refine V_seq (V_skip ?_) | refine V_skip ?_
    push_cast (disch := omega)
    repeat refine V_seq (x := .seq _ _) ?_
    first | refine V_seq (V_block ?_) | refine V_block ?_
    repeat refine V_seq (x := .seq _ _) ?_
    first | refine VR [7, 8, 9, 10] (by kernel_rfl) ?_ | refine VR1 [7, 8, 9, 10] (by kernel_rfl) ?_
    push_cast (disch := omega)
    repeat refine And.intro (by omega) ?_
    refine callM_of (blen_any _ b _ v _ hB) ?_
    rintro _ w6 ⟨rfl, rfl⟩
    push_cast (disch := omega)
    repeat refine And.intro (by omega) ?_
    rw [hlen]
    push_cast (disch := omega)
    repeat refine And.intro (by omega) ?_
    refine callM_of (blen_any _ b _ v _ hB) ?_
    rintro _ w7 ⟨rfl, rfl⟩
    push_cast (disch := omega)
    repeat refine And.intro (by omega) ?_
    rw [hlen]
    push_cast (disch := omega)
    repeat refine And.intro (by omega) ?_
    obtain ⟨k, hk, hk1, hk2⟩ : ∃ k : Nat, min (min ((c : Int) - m) m) c = (k : Int) ∧ (1 ≤ k ∧ k ≤ m) ∧ m + k ≤ c := ⟨min (min (c - m) m) c, by omega, by omega, by omega⟩
    rw [hk]
    repeat refine V_seq (x := .seq _ _) ?_
    first | refine VR [7, 8, 9] (by kernel_rfl) ?_ | refine VR1 [7, 8, 9] (by kernel_rfl) ?_
    push_cast (disch := omega)
    repeat refine And.intro (by omega) ?_
    refine callM_of (bstr_any _ b _ v _ hB (fun e => by have := congrArg List.length e; simp at this; omega)) ?_
    rintro _ w8 ⟨rfl, hB8, hk8⟩
    push_cast (disch := omega)
    repeat refine And.intro (by omega) ?_
    have hsz : (⟨(List.replicate m (0 : UInt8)).toArray⟩ : ByteArray).size = m := by show (List.replicate m (0 : UInt8)).toArray.size = m; simp
    have hex := zero_extract m k hk1.2
    push_cast (disch := omega) [hsz]
    repeat refine And.intro (by omega) ?_
    rw [hex]
    refine callM_of (bws_any w8 b _ v _ (zerosB k) hB8 (by rw [hlen, zerosB_size]; omega)) ?_
    rintro _ w9 ⟨rfl, v9, hB9, _, hk9, hg9⟩
    push_cast (disch := omega)
    repeat refine And.intro (by omega) ?_
    have hU8 : Up w1 w8 := hU.turn hk8 hO
    refine ⟨m + k, ?_, ?_, (by dsimp only; omega)⟩ <;> dsimp only
    · push_cast
    · refine ⟨⟨by omega, by omega⟩, hU8.turn hk9 (fun i hi => by rcases hi with rfl | hi; omega; exact hO i hi), v9, ?_, ?_⟩
      · rw [show byteCells (List.replicate (m + k) 0) = byteCells (List.replicate m 0) ++ strCells (zerosB k) from zero_cells m k]
        exact hB9
      · intro g hg
        rcases hg9 with e | ⟨g', e, hle⟩
        · exact hO g (by rw [← e]; exact hg)
        · rw [e] at hg; cases hg; have := hU8.size; omega
  · first | refine V_seq (V_exit ?_) | refine V_exit ?_
    push_cast (disch := omega)
    obtain rfl : m = c := by omega
    repeat refine V_seq (x := .seq _ _) ?_
    first | refine VR [4] (by kernel_rfl) ?_ | refine VR1 [4] (by kernel_rfl) ?_
    push_cast (disch := omega)
    repeat refine And.intro (by omega) ?_
    refine callM_of (bstr_any _ b _ v _ hB (fun e => by have := congrArg List.length e; simp at this; omega)) ?_
    rintro _ w8 ⟨rfl, hB8, hk8⟩
    push_cast (disch := omega)
    repeat refine And.intro (by omega) ?_
    first | refine V_seq (V_ret ?_) | refine V_ret ?_
    push_cast (disch := omega)
    refine ⟨?_, hU.turn hk8 hO⟩
    simp [zerosB]
end Go.Proofs
namespace Go.Proofs
open Go Go.Vc Go.RowKit Go.Lib
set_option maxRecDepth 100000
set_option linter.unusedVariables false
@[push_cast] theorem sealB_size (b : ByteArray) : (sealB b).size = b.size + 4 := by unfold sealB; rw [ByteArray.size_append]; rfl
/-- A page of some bytes. -/
def pageB (b : ByteArray) : ByteArray := sealB (b ++ zerosB (28 - b.size))
theorem seal_leaf (b : ByteArray) (w : World) (h : b.size ≤ 28) : CallM Tryz.prog 170 #[.string b] w fun v w' => v = .string (pageB b) ∧ Up w w' := by
  refine callM_V (args := [.string b]) Tryz.func170 rfl Tryz.ntmps170 rfl (rs := [(.tmp 2)]) rfl ?_
  push_cast (disch := omega)
  repeat refine V_seq (x := .seq _ _) ?_
  first | refine VR [0] (by kernel_rfl) ?_ | refine VR1 [0] (by kernel_rfl) ?_
  push_cast (disch := omega)
  repeat refine And.intro (by omega) ?_
  repeat refine V_seq (x := .seq _ _) ?_
  first | refine VR [2] (by kernel_rfl) ?_ | refine VR1 [2] (by kernel_rfl) ?_
  push_cast (disch := omega)
  repeat refine And.intro (by omega) ?_
  have e : (28 : Int) - b.size = ((28 - b.size : Nat) : Int) := by omega
  rw [e]
  refine callM_of (repeat_any (28 - b.size) w (by omega)) ?_
  rintro _ w2 ⟨rfl, hu2⟩
  push_cast (disch := omega)
  repeat refine And.intro (by omega) ?_
  refine callM_of (seal_any _ w2 (by rw [ByteArray.size_append, zerosB_size]; omega)) ?_
  rintro _ w3 ⟨rfl, hu3⟩
  push_cast (disch := omega)
  repeat refine And.intro (by omega) ?_
  first | refine V_seq (V_ret ?_) | refine V_ret ?_
  push_cast (disch := omega)
  exact ⟨rfl, hu2.trans hu3⟩
def oneB (n : Nat) : ByteArray := ⟨#[UInt8.ofNat n]⟩
@[push_cast] theorem oneB_size (n : Nat) : (oneB n).size = 1 := rfl
def layB (b : ByteArray) : ByteArray := pageB (oneB b.size ++ b)
theorem lay_leaf (b : ByteArray) (w : World) (h : b.size ≤ 27) : CallM Tryz.prog 171 #[.string b] w fun v w' => v = .tuple #[.string (layB b), .int .i64 0] ∧ Up w w' := by
  refine callM_V (args := [.string b]) Tryz.func171 rfl Tryz.ntmps171 rfl (rs := [(.tmp 2), (.tmp 3)]) rfl ?_
  push_cast (disch := omega)
  repeat refine V_seq (x := .seq _ _) ?_
  first | refine VR [0] (by kernel_rfl) ?_ | refine VR1 [0] (by kernel_rfl) ?_
  push_cast (disch := omega)
  repeat refine And.intro (by omega) ?_
  repeat refine V_seq (x := .seq _ _) ?_
  first | refine VR [0, 6] (by kernel_rfl) ?_ | refine VR1 [0, 6] (by kernel_rfl) ?_
  push_cast (disch := omega)
  repeat refine And.intro (by omega) ?_
  repeat refine V_seq (x := .seq _ _) ?_
  first | refine V_seq (V_iff rfl ?_) | refine V_iff rfl ?_
  first | refine V_seq (V_skip ?_) | refine V_skip ?_
  push_cast (disch := omega)
  repeat refine V_seq (x := .seq _ _) ?_
  first | refine VR [2, 3] (by kernel_rfl) ?_ | refine VR1 [2, 3] (by kernel_rfl) ?_
  push_cast (disch := omega)
  repeat refine And.intro (by omega) ?_
  refine fun b1 w1 hb hs hu hg => ?_
  push_cast (disch := omega)
  repeat refine And.intro (by omega) ?_
  refine strOfM (e := 5) (s := oneB b.size) (by kernel_rfl) (by kernel_rfl) (by kernel_rfl) hg (by simp) ?_ ?_
  · show _ = [Value.int .u8 ((UInt8.ofNat b.size).toNat : Int)]
    have := byteN (a := b.size) (by omega)
    rw [Int.toNat_natCast] at this
    rw [this]
    rfl
  push_cast (disch := omega)
  repeat refine And.intro (by omega) ?_
  refine callM_of (seal_leaf _ w1 (by rw [ByteArray.size_append, oneB_size]; omega)) ?_
  rintro _ w2 ⟨rfl, hu2⟩
  push_cast (disch := omega)
  repeat refine And.intro (by omega) ?_
  first | refine V_seq (V_ret ?_) | refine V_ret ?_
  push_cast (disch := omega)
  exact ⟨rfl, hu.trans hu2⟩
/-- What a page was sealed of. -/
def pageO (b : ByteArray) : ByteArray × Int := if b.size = 32 then openB b else (.empty, 8)
theorem open_leaf (b : ByteArray) (w : World) (h : b.size ≤ 1000000) : CallM Tryz.prog 122 #[.string b] w fun v w' => v = .tuple #[.string (pageO b).1, .int .i64 (pageO b).2] ∧ Up w w' := by
  refine callM_V (args := [.string b]) Tryz.func122 rfl Tryz.ntmps122 rfl (rs := [(.tmp 2), (.tmp 3)]) rfl ?_
  push_cast (disch := omega)
  repeat refine V_seq (x := .seq _ _) ?_
  first | refine VR [0] (by kernel_rfl) ?_ | refine VR1 [0] (by kernel_rfl) ?_
  push_cast (disch := omega)
  repeat refine And.intro (by omega) ?_
  repeat refine V_seq (x := .seq _ _) ?_
  first | refine VR [0, 6] (by kernel_rfl) ?_ | refine VR1 [0, 6] (by kernel_rfl) ?_
  push_cast (disch := omega)
  repeat refine And.intro (by omega) ?_
  repeat refine V_seq (x := .seq _ _) ?_
  first | refine V_seq (V_ifnd rfl (fun h1 => ?_) (fun h1 => ?_)) | refine V_ifnd rfl (fun h1 => ?_) (fun h1 => ?_)
  · repeat refine V_seq (x := .seq _ _) ?_
    first | refine VR [2, 3] (by kernel_rfl) ?_ | refine VR1 [2, 3] (by kernel_rfl) ?_
    push_cast (disch := omega)
    repeat refine And.intro (by omega) ?_
    first | refine V_seq (V_ret ?_) | refine V_ret ?_
    push_cast (disch := omega)
    rw [pageO, if_neg (by omega)]
    exact ⟨rfl, Kp.refl _ _⟩
  · first | refine V_seq (V_skip ?_) | refine V_skip ?_
    push_cast (disch := omega)
    repeat refine V_seq (x := .seq _ _) ?_
    first | refine VR [2, 3] (by kernel_rfl) ?_ | refine VR1 [2, 3] (by kernel_rfl) ?_
    push_cast (disch := omega)
    repeat refine And.intro (by omega) ?_
    refine callM_of (topen_any b w h) ?_
    rintro _ w2 ⟨rfl, hu2⟩
    push_cast (disch := omega)
    repeat refine And.intro (by omega) ?_
    first | refine V_seq (V_ret ?_) | refine V_ret ?_
    push_cast (disch := omega)
    rw [pageO, if_pos (by omega)]
    exact ⟨rfl, hu2⟩
/-- The bytes of a page. -/
def readB (b : ByteArray) : ByteArray × Int :=
  if (pageO b).2 = 0 then (if bAt (pageO b).1 0 ≤ 27 then (if layB ((pageO b).1.extract 1 ((1 + bAt (pageO b).1 0).toNat)) = b then ((pageO b).1.extract 1 ((1 + bAt (pageO b).1 0).toNat), 0) else (.empty, 6)) else (.empty, 6)) else (.empty, (pageO b).2)
theorem pageO_size (b : ByteArray) (h : (pageO b).2 = 0) : (pageO b).1.size = 28 := by
  unfold pageO at h ⊢
  split at h
  · rename_i h1
    rw [if_pos h1]
    unfold openB at h ⊢
    split at h
    · cases h
    · rename_i h2
      rw [if_neg h2]
      split at h
      · rename_i h3
        rw [if_pos h3, ByteArray.size_extract]
        omega
      · cases h
  · cases h
theorem read_leaf (b : ByteArray) (w : World) (h : b.size ≤ 1000000) : CallM Tryz.prog 126 #[.string b] w fun v w' => v = .tuple #[.string (readB b).1, .int .i64 (readB b).2] ∧ Up w w' := by
  refine callM_V (args := [.string b]) Tryz.func126 rfl Tryz.ntmps126 rfl (rs := [(.tmp 2), (.tmp 3)]) rfl ?_
  push_cast (disch := omega)
  repeat refine V_seq (x := .seq _ _) ?_
  first | refine VR [0] (by kernel_rfl) ?_ | refine VR1 [0] (by kernel_rfl) ?_
  push_cast (disch := omega)
  repeat refine And.intro (by omega) ?_
  repeat refine V_seq (x := .seq _ _) ?_
  first | refine VR [0, 4, 5] (by kernel_rfl) ?_ | refine VR1 [0, 4, 5] (by kernel_rfl) ?_
  push_cast (disch := omega)
  repeat refine And.intro (by omega) ?_
  refine callM_of (open_leaf b w h) ?_
  rintro _ w2 ⟨rfl, hu2⟩
  push_cast (disch := omega)
  repeat refine And.intro (by omega) ?_
  have hps := pageO_size b
  unfold readB
  generalize pageO b = q at *
  obtain ⟨x, e⟩ := q
  dsimp only at hps ⊢
  repeat refine V_seq (x := .seq _ _) ?_
  first | refine VR [0, 4, 5, 15] (by kernel_rfl) ?_ | refine VR1 [0, 4, 5, 15] (by kernel_rfl) ?_
  push_cast (disch := omega)
  repeat refine And.intro (by omega) ?_
  repeat refine V_seq (x := .seq _ _) ?_
  first | refine V_seq (V_ifnd rfl (fun h1 => ?_) (fun h1 => ?_)) | refine V_ifnd rfl (fun h1 => ?_) (fun h1 => ?_)
  · repeat refine V_seq (x := .seq _ _) ?_
    first | refine VR [2, 3] (by kernel_rfl) ?_ | refine VR1 [2, 3] (by kernel_rfl) ?_
    push_cast (disch := omega)
    repeat refine And.intro (by omega) ?_
    first | refine V_seq (V_ret ?_) | refine V_ret ?_
    push_cast (disch := omega)
    rw [if_neg h1]
    exact ⟨rfl, hu2⟩
  · first | refine V_seq (V_skip ?_) | refine V_skip ?_
    push_cast (disch := omega)
    have hx := hps (by omega)
    have hba := bAt_range x 0
    repeat refine V_seq (x := .seq _ _) ?_
    first | refine VR [0, 4, 6] (by kernel_rfl) ?_ | refine VR1 [0, 4, 6] (by kernel_rfl) ?_
    push_cast (disch := omega)
    repeat refine And.intro (by omega) ?_
    repeat refine V_seq (x := .seq _ _) ?_
    first | refine VR [0, 4, 6, 21] (by kernel_rfl) ?_ | refine VR1 [0, 4, 6, 21] (by kernel_rfl) ?_
    push_cast (disch := omega)
    repeat refine And.intro (by omega) ?_
    repeat refine V_seq (x := .seq _ _) ?_
    first | refine V_seq (V_ifd rfl (fun h2 => ?_) (fun h2 => ?_)) | refine V_ifd rfl (fun h2 => ?_) (fun h2 => ?_)
    · repeat refine V_seq (x := .seq _ _) ?_
      first | refine VR [2, 3] (by kernel_rfl) ?_ | refine VR1 [2, 3] (by kernel_rfl) ?_
      push_cast (disch := omega)
      repeat refine And.intro (by omega) ?_
      first | refine V_seq (V_ret ?_) | refine V_ret ?_
      push_cast (disch := omega)
      rw [if_pos (by omega), if_neg (by omega)]
      exact ⟨rfl, hu2⟩
    · first | refine V_seq (V_skip ?_) | refine V_skip ?_
      push_cast (disch := omega)
      repeat refine V_seq (x := .seq _ _) ?_
      first | refine VR [0, 4, 6, 7] (by kernel_rfl) ?_ | refine VR1 [0, 4, 6, 7] (by kernel_rfl) ?_
      push_cast (disch := omega)
      repeat refine And.intro (by omega) ?_
      refine callM_of (lay_leaf _ w2 (by rw [ByteArray.size_extract]; omega)) ?_
      rintro _ w3 ⟨rfl, hu3⟩
      push_cast (disch := omega)
      repeat refine And.intro (by omega) ?_
      repeat refine V_seq (x := .seq _ _) ?_
      first | refine VR [4, 6, 32] (by kernel_rfl) ?_ | refine VR1 [4, 6, 32] (by kernel_rfl) ?_
      push_cast (disch := omega)
      repeat refine And.intro (by omega) ?_
      rw [if_pos h1, if_pos (by omega)]
      repeat refine V_seq (x := .seq _ _) ?_
      first | refine V_seq (V_ifnd rfl (fun h4 => ?_) (fun h4 => ?_)) | refine V_ifnd rfl (fun h4 => ?_) (fun h4 => ?_)
      · repeat refine V_seq (x := .seq _ _) ?_
        first | refine VR [2, 3] (by kernel_rfl) ?_ | refine VR1 [2, 3] (by kernel_rfl) ?_
        push_cast (disch := omega)
        repeat refine And.intro (by omega) ?_
        first | refine V_seq (V_ret ?_) | refine V_ret ?_
        push_cast (disch := omega)
        rw [if_neg h4]
        exact ⟨rfl, hu2.trans hu3⟩
      · first | refine V_seq (V_skip ?_) | refine V_skip ?_
        push_cast (disch := omega)
        repeat refine V_seq (x := .seq _ _) ?_
        first | refine VR [2, 3] (by kernel_rfl) ?_ | refine VR1 [2, 3] (by kernel_rfl) ?_
        push_cast (disch := omega)
        repeat refine And.intro (by omega) ?_
        first | refine V_seq (V_ret ?_) | refine V_ret ?_
        push_cast (disch := omega)
        rw [if_pos h4]
        exact ⟨rfl, hu2.trans hu3⟩
end Go.Proofs
namespace Go.Proofs
open Go Go.Vc Go.RowKit Go.Lib
set_option maxRecDepth 100000
set_option linter.unusedVariables false
theorem slT_strs : SlT Tryz.prog 82 9 1 16 := ⟨by kernel_rfl, ⟨_, _, rfl, rfl, rfl, rfl, rfl⟩, by decide⟩
theorem slT_ints : SlT Tryz.prog 34 3 1 8 := ⟨by kernel_rfl, ⟨_, _, rfl, rfl, rfl, rfl, rfl⟩, by decide⟩
/-- The parts of some bytes. -/
def partsN : Nat → ByteArray → List ByteArray
  | 0, _ => []
  | n + 1, b => if b.size = 0 then [] else b.extract 0 (min b.size 27) :: partsN n (b.extract (min b.size 27) b.size)
def partsB (b : ByteArray) : List ByteArray := partsN b.size b
theorem partsN_more (n m : Nat) (b : ByteArray) (h : b.size ≤ n) (h' : b.size ≤ m) : partsN n b = partsN m b := by
  induction n generalizing m b with
  | zero =>
    cases m with
    | zero => rfl
    | succ m => rw [partsN, partsN, if_pos (by omega)]
  | succ n ih =>
    cases m with
    | zero => rw [partsN, partsN, if_pos (by omega)]
    | succ m =>
      simp only [partsN]
      split
      · rfl
      · rw [ih m _ (by rw [ByteArray.size_extract]; omega) (by rw [ByteArray.size_extract]; omega)]
theorem partsB_eq (b : ByteArray) : partsB b = if b.size = 0 then [] else b.extract 0 (min b.size 27) :: partsB (b.extract (min b.size 27) b.size) := by
  unfold partsB
  cases h : b.size with
  | zero => rw [if_pos rfl]; rfl
  | succ n =>
    rw [if_neg (by omega)]
    simp only [partsN]
    rw [if_neg (by omega), h, partsN_more _ _ _ (by rw [ByteArray.size_extract]; omega) (Nat.le_refl _)]
theorem parts_any (b : ByteArray) (w : World) (h : b.size ≤ 100000) : CallM Tryz.prog 45 #[.string b] w fun v w' => w'.ownsRow w.heap.size 9 1 v (partsB b).length (strV (partsB b)) ∧ Up w w' := by
  refine callM_V (args := [.string b]) Tryz.func45 rfl Tryz.ntmps45 rfl (rs := [(.tmp 2)]) rfl ?_
  push_cast (disch := omega)
  repeat refine V_seq (x := .seq _ _) ?_
  first | refine VR [0] (by kernel_rfl) ?_ | refine VR1 [0] (by kernel_rfl) ?_
  push_cast (disch := omega)
  repeat refine And.intro (by omega) ?_
  repeat refine V_seq (x := .seq _ _) ?_
  first | refine VR [0, 3] (by kernel_rfl) ?_ | refine VR1 [0, 3] (by kernel_rfl) ?_
  push_cast (disch := omega)
  repeat refine And.intro (by omega) ?_
  repeat refine V_seq (x := .seq _ _) ?_
  first | refine V_seq (V_block ?_) | refine V_block ?_
  repeat refine V_seq (x := .seq _ _) ?_
  first | refine V_seq (V_loopE (ι := ByteArray × Value × Nat) [0, 3] (fun ⟨r, v, n⟩ => [(0, .string r), (3, v)]) (fun ⟨r, v, n⟩ => fun w' => ∃ done, done ++ partsB r = partsB b ∧ w'.ownsRow w.heap.size 9 1 v n (strV done) ∧ Up w w' ∧ n + r.size ≤ b.size) (fun ⟨r, v, n⟩ => r.size) ((b, .slice none 0 0, 0)) (by first | (push_cast; rfl) | (push_cast; done)) (⟨[], rfl, World.ownsRow_nil _ _ _ _, Kp.refl _ _, by omega⟩) ?_) | refine V_loopE (ι := ByteArray × Value × Nat) [0, 3] (fun ⟨r, v, n⟩ => [(0, .string r), (3, v)]) (fun ⟨r, v, n⟩ => fun w' => ∃ done, done ++ partsB r = partsB b ∧ w'.ownsRow w.heap.size 9 1 v n (strV done) ∧ Up w w' ∧ n + r.size ≤ b.size) (fun ⟨r, v, n⟩ => r.size) ((b, .slice none 0 0, 0)) (by first | (push_cast; rfl) | (push_cast; done)) (⟨[], rfl, World.ownsRow_nil _ _ _ _, Kp.refl _ _, by omega⟩) ?_
  rintro ⟨r, v, n⟩ wl hI
  obtain ⟨done, hd, ho, hu, hr⟩ := hI
  obtain ⟨a, c, rfl⟩ := ho.shape
  have hpl := partsB_eq r
  repeat refine V_seq (x := .seq _ _) ?_
  first | refine VR [0, 3, 7] (by kernel_rfl) ?_ | refine VR1 [0, 3, 7] (by kernel_rfl) ?_
  push_cast (disch := omega)
  repeat refine And.intro (by omega) ?_
  repeat refine V_seq (x := .seq _ _) ?_
  first | refine V_seq (V_ifd rfl (fun h1 => ?_) (fun h1 => ?_)) | refine V_ifd rfl (fun h1 => ?_) (fun h1 => ?_)
  · first | refine V_seq (V_skip ?_) | refine V_skip ?_
    push_cast (disch := omega)
    rw [if_neg (by omega)] at hpl
    repeat refine V_seq (x := .seq _ _) ?_
    first | refine V_seq (V_block ?_) | refine V_block ?_
    repeat refine V_seq (x := .seq _ _) ?_
    first | refine VR [0, 3, 4] (by kernel_rfl) ?_ | refine VR1 [0, 3, 4] (by kernel_rfl) ?_
    push_cast (disch := omega)
    repeat refine And.intro (by omega) ?_
    repeat refine V_seq (x := .seq _ _) ?_
    first | refine VR [0, 3, 4] (by kernel_rfl) ?_ | refine VR1 [0, 3, 4] (by kernel_rfl) ?_
    push_cast (disch := omega)
    repeat refine And.intro (by omega) ?_
    refine fun b1 w1 hb hs hu1 hg => ?_
    push_cast (disch := omega)
    repeat refine And.intro (by omega) ?_
    have e : (min (r.size : Int) 27).toNat = min r.size 27 := by omega
    have hse : (r.extract (min r.size 27) r.size).size = r.size - min r.size 27 := by rw [ByteArray.size_extract]; omega
    rw [e] at hg ⊢
    refine appM slT_strs (ho.over hu1 (fun _ _ e => e)) hg (by simp) (by simp [one']) (by omega) (by decide) (by have := hu.size; have := hu1.size; omega) ?_
    rintro v' w2 ho2 hk2 hg2
    obtain ⟨a', c', rfl⟩ := ho2.shape
    push_cast (disch := omega)
    repeat refine And.intro (by omega) ?_
    repeat refine V_seq (x := .seq _ _) ?_
    first | refine VR [0, 3] (by kernel_rfl) ?_ | refine VR1 [0, 3] (by kernel_rfl) ?_
    push_cast (disch := omega)
    repeat refine And.intro (by omega) ?_
    rw [e]
    have hU1 : Up w w1 := hu.trans hu1
    refine ⟨(r.extract (min r.size 27) r.size, .slice a' (n + 1) c', n + 1), ?_, ?_, (by dsimp only; omega)⟩ <;> dsimp only
    · push_cast
    · refine ⟨done ++ [r.extract 0 (min r.size 27)], ?_, ?_, hU1.turn hk2 (fun i hi => (ho.lt i hi).1), ?_⟩
      · rw [← hd, hpl, List.append_assoc]; rfl
      · simpa [strV] using ho2
      · omega
  · first | refine V_seq (V_exit ?_) | refine V_exit ?_
    push_cast (disch := omega)
    rw [if_pos (by omega)] at hpl
    rw [hpl, List.append_nil] at hd
    subst hd
    repeat refine V_seq (x := .seq _ _) ?_
    first | refine VR [2] (by kernel_rfl) ?_ | refine VR1 [2] (by kernel_rfl) ?_
    push_cast (disch := omega)
    repeat refine And.intro (by omega) ?_
    first | refine V_seq (V_ret ?_) | refine V_ret ?_
    push_cast (disch := omega)
    have hl : n = (partsB b).length := by have := ho.1; rw [strV_len] at this; omega
    rw [← hl]
    exact ⟨ho, hu⟩
end Go.Proofs
namespace Go.Proofs
open Go Go.Vc Go.RowKit Go.Lib
set_option maxRecDepth 100000
set_option linter.unusedVariables false
/-- What is at o, and what it grows in, is new since w0; all else is as it was. -/
structure Mine (w0 w : World) (o : Nat) (v : Value) : Prop where
  up : Up w0 w
  new : w0.heap.size ≤ o
  own : ∀ g, v.ownBlock = some g → w0.heap.size ≤ g
theorem Mine.step {w0 w w' : World} {o : Nat} {v v' : Value} (h : Mine w0 w o v) (hk : Kp (outS o v) w w') (hg : Grow w v v') : Mine w0 w' o v' := by
  refine ⟨h.up.turn hk (fun i hi => by rcases hi with rfl | hi; exact h.new; exact h.own i hi), h.new, fun g hgg => ?_⟩
  rcases hg with e | ⟨g', e, hle⟩
  · exact h.own g (by rw [← e]; exact hgg)
  · rw [e] at hgg; cases hgg; have := h.up.size; omega
theorem flat1_len (l : List Int) : (l.flatMap fun k => numB k 1).length = l.length := by
  induction l with
  | nil => rfl
  | cons x l ih => rw [List.flatMap_cons, List.length_append, ih, numB_len, List.length_cons]; omega
def slotL (gen : Int) (pages : List Int) : List UInt8 := numB 165 1 ++ numB gen 4 ++ numB pages.length 1 ++ pages.flatMap fun k => numB k 1
def slotR (gen : Int) (pages : List Int) : ByteArray × Int :=
  if (gen < 1 ∨ gen > 1000000000) ∨ pages.length > 11 then (.empty, 1) else if pages.all (fun k => decide (2 ≤ k ∧ k < 250)) then (pageB ⟨(slotL gen pages).toArray⟩, 0) else (.empty, 1)
theorem slot_any (gen : Int) (pv : Value) (pages : List Int) (w : World) (hp : SlR w 1 pv pages.length (intV pages)) (hl : pages.length ≤ 1000000) :
    CallM Tryz.prog 125 #[.int .i64 gen, pv] w fun v w' => v = .tuple #[.string (slotR gen pages).1, .int .i64 (slotR gen pages).2] ∧ Up w w' := by
  obtain ⟨pa, pc, rfl⟩ : ∃ a c, pv = .slice a pages.length c := by obtain ⟨_, a, c, h, _⟩ := hp; exact ⟨a, c, h⟩
  unfold slotR
  by_cases h1 : (gen < 1 ∨ gen > 1000000000) ∨ pages.length > 11
  · rw [if_pos h1]
    have h2 : gen < 1 ∨ (¬ gen < 1 ∧ gen > 1000000000) ∨ (¬ gen < 1 ∧ ¬ gen > 1000000000 ∧ pages.length > 11) := by omega
    rcases h2 with a1 | ⟨a1, a2⟩ | ⟨a1, a2, a3⟩
    · refine callM_V (args := [.int .i64 gen, .slice pa pages.length pc]) Tryz.func125 rfl Tryz.ntmps125 rfl (rs := [(.tmp 4), (.tmp 5)]) rfl ?_
      push_cast (disch := omega)
      repeat refine V_seq (x := .seq _ _) ?_
      first | refine VR [0, 1] (by kernel_rfl) ?_ | refine VR1 [0, 1] (by kernel_rfl) ?_
      push_cast (disch := omega)
      repeat refine And.intro (by omega) ?_
      repeat refine V_seq (x := .seq _ _) ?_
      first | refine VR [0, 1, 21] (by kernel_rfl) ?_ | refine VR1 [0, 1, 21] (by kernel_rfl) ?_
      push_cast (disch := omega)
      repeat refine And.intro (by omega) ?_
      repeat refine V_seq (x := .seq _ _) ?_
      first | refine V_seq (V_ift rfl ?_) | refine V_ift rfl ?_
      repeat refine V_seq (x := .seq _ _) ?_
      first | refine VR [4, 5] (by kernel_rfl) ?_ | refine VR1 [4, 5] (by kernel_rfl) ?_
      push_cast (disch := omega)
      repeat refine And.intro (by omega) ?_
      first | refine V_seq (V_ret ?_) | refine V_ret ?_
      push_cast (disch := omega)
      exact ⟨rfl, Kp.refl _ _⟩
    · refine callM_V (args := [.int .i64 gen, .slice pa pages.length pc]) Tryz.func125 rfl Tryz.ntmps125 rfl (rs := [(.tmp 4), (.tmp 5)]) rfl ?_
      push_cast (disch := omega)
      repeat refine V_seq (x := .seq _ _) ?_
      first | refine VR [0, 1] (by kernel_rfl) ?_ | refine VR1 [0, 1] (by kernel_rfl) ?_
      push_cast (disch := omega)
      repeat refine And.intro (by omega) ?_
      repeat refine V_seq (x := .seq _ _) ?_
      first | refine VR [0, 1, 21] (by kernel_rfl) ?_ | refine VR1 [0, 1, 21] (by kernel_rfl) ?_
      push_cast (disch := omega)
      repeat refine And.intro (by omega) ?_
      repeat refine V_seq (x := .seq _ _) ?_
      first | refine V_seq (V_ift rfl ?_) | refine V_ift rfl ?_
      repeat refine V_seq (x := .seq _ _) ?_
      first | refine VR [4, 5] (by kernel_rfl) ?_ | refine VR1 [4, 5] (by kernel_rfl) ?_
      push_cast (disch := omega)
      repeat refine And.intro (by omega) ?_
      first | refine V_seq (V_ret ?_) | refine V_ret ?_
      push_cast (disch := omega)
      exact ⟨rfl, Kp.refl _ _⟩
    · refine callM_V (args := [.int .i64 gen, .slice pa pages.length pc]) Tryz.func125 rfl Tryz.ntmps125 rfl (rs := [(.tmp 4), (.tmp 5)]) rfl ?_
      push_cast (disch := omega)
      repeat refine V_seq (x := .seq _ _) ?_
      first | refine VR [0, 1] (by kernel_rfl) ?_ | refine VR1 [0, 1] (by kernel_rfl) ?_
      push_cast (disch := omega)
      repeat refine And.intro (by omega) ?_
      repeat refine V_seq (x := .seq _ _) ?_
      first | refine VR [0, 1, 21] (by kernel_rfl) ?_ | refine VR1 [0, 1, 21] (by kernel_rfl) ?_
      push_cast (disch := omega)
      repeat refine And.intro (by omega) ?_
      repeat refine V_seq (x := .seq _ _) ?_
      first | refine V_seq (V_ift rfl ?_) | refine V_ift rfl ?_
      repeat refine V_seq (x := .seq _ _) ?_
      first | refine VR [4, 5] (by kernel_rfl) ?_ | refine VR1 [4, 5] (by kernel_rfl) ?_
      push_cast (disch := omega)
      repeat refine And.intro (by omega) ?_
      first | refine V_seq (V_ret ?_) | refine V_ret ?_
      push_cast (disch := omega)
      exact ⟨rfl, Kp.refl _ _⟩
  rw [if_neg h1]
  refine callM_V (args := [.int .i64 gen, .slice pa pages.length pc]) Tryz.func125 rfl Tryz.ntmps125 rfl (rs := [(.tmp 4), (.tmp 5)]) rfl ?_
  push_cast (disch := omega)
  repeat refine V_seq (x := .seq _ _) ?_
  first | refine VR [0, 1] (by kernel_rfl) ?_ | refine VR1 [0, 1] (by kernel_rfl) ?_
  push_cast (disch := omega)
  repeat refine And.intro (by omega) ?_
  repeat refine V_seq (x := .seq _ _) ?_
  first | refine VR [0, 1, 21] (by kernel_rfl) ?_ | refine VR1 [0, 1, 21] (by kernel_rfl) ?_
  push_cast (disch := omega)
  repeat refine And.intro (by omega) ?_
  repeat refine V_seq (x := .seq _ _) ?_
  first | refine V_seq (V_iff rfl ?_) | refine V_iff rfl ?_
  first | refine V_seq (V_skip ?_) | refine V_skip ?_
  push_cast (disch := omega)
  repeat refine V_seq (x := .seq _ _) ?_
  first | refine VR [0, 1, 6] (by kernel_rfl) ?_ | refine VR1 [0, 1, 6] (by kernel_rfl) ?_
  push_cast (disch := omega)
  repeat refine And.intro (by omega) ?_
  refine fun o w1 hb hs hu hg => ?_
  push_cast (disch := omega)
  repeat refine And.intro (by omega) ?_
  repeat refine V_seq (x := .seq _ _) ?_
  first | refine VR [0, 1, 6] (by kernel_rfl) ?_ | refine VR1 [0, 1, 6] (by kernel_rfl) ?_
  push_cast (disch := omega)
  repeat refine And.intro (by omega) ?_
  have hO1 : OutAt w1 o (.slice none 0 0) [] 0 := ⟨hg, World.ownsRow_nil _ _ _ _, by intro e; cases e⟩
  have hM1 : Mine w w1 o (.slice none 0 0) := ⟨hu, by omega, fun g e => by cases e⟩
  refine callM_of (num_any w1 o _ _ 165 1 hO1 (by omega) (by omega) (by decide)) ?_
  rintro _ w2 ⟨rfl, v2, hO2, hk2, hg2⟩
  push_cast (disch := omega)
  repeat refine And.intro (by omega) ?_
  have hM2 := hM1.step hk2 hg2
  repeat refine V_seq (x := .seq _ _) ?_
  first | refine VR [1, 6] (by kernel_rfl) ?_ | refine VR1 [1, 6] (by kernel_rfl) ?_
  push_cast (disch := omega)
  repeat refine And.intro (by omega) ?_
  refine callM_of (num_any w2 o _ _ gen 4 hO2 (by omega) (by omega) (by simp [numB_len])) ?_
  rintro _ w3 ⟨rfl, v3, hO3, hk3, hg3⟩
  push_cast (disch := omega)
  repeat refine And.intro (by omega) ?_
  have hM3 := hM2.step hk3 hg3
  repeat refine V_seq (x := .seq _ _) ?_
  first | refine VR [1, 6] (by kernel_rfl) ?_ | refine VR1 [1, 6] (by kernel_rfl) ?_
  push_cast (disch := omega)
  repeat refine And.intro (by omega) ?_
  refine callM_of (num_any w3 o _ _ pages.length 1 hO3 (by omega) (by omega) (by simp [numB_len])) ?_
  rintro _ w4 ⟨rfl, v4, hO4, hk4, hg4⟩
  push_cast (disch := omega)
  repeat refine And.intro (by omega) ?_
  have hM4 := hM3.step hk4 hg4
  repeat refine V_seq (x := .seq _ _) ?_
  first | refine VR [6, 28, 29, 30] (by kernel_rfl) ?_ | refine VR1 [6, 28, 29, 30] (by kernel_rfl) ?_
  push_cast (disch := omega)
  repeat refine And.intro (by omega) ?_
  repeat refine V_seq (x := .seq _ _) ?_
  first | refine V_seq (V_block ?_) | refine V_block ?_
  repeat refine V_seq (x := .seq _ _) ?_
  first | refine V_seq (V_loopE (ι := Nat) [6, 28, 29, 30] (fun i => [(6, .pointer (some ⟨o, 0, none⟩)), (28, .slice pa pages.length pc), (29, .int .i64 pages.length), (30, .int .i64 i)]) (fun i => fun w' => (i ≤ pages.length ∧ (pages.take i).all (fun k => decide (2 ≤ k ∧ k < 250)) = true) ∧ ∃ v, OutAt w' o v ((numB 165 1 ++ numB gen 4 ++ numB pages.length 1) ++ (pages.take i).flatMap fun k => numB k 1) 0 ∧ Mine w w' o v) (fun i => pages.length - i) (0) (by first | (push_cast; rfl) | (push_cast; done)) (⟨⟨by omega, rfl⟩, v4, by simpa using hO4, hM4⟩) ?_) | refine V_loopE (ι := Nat) [6, 28, 29, 30] (fun i => [(6, .pointer (some ⟨o, 0, none⟩)), (28, .slice pa pages.length pc), (29, .int .i64 pages.length), (30, .int .i64 i)]) (fun i => fun w' => (i ≤ pages.length ∧ (pages.take i).all (fun k => decide (2 ≤ k ∧ k < 250)) = true) ∧ ∃ v, OutAt w' o v ((numB 165 1 ++ numB gen 4 ++ numB pages.length 1) ++ (pages.take i).flatMap fun k => numB k 1) 0 ∧ Mine w w' o v) (fun i => pages.length - i) (0) (by first | (push_cast; rfl) | (push_cast; done)) (⟨⟨by omega, rfl⟩, v4, by simpa using hO4, hM4⟩) ?_
  rintro i wl hI
  obtain ⟨⟨hi, hall⟩, v, hO, hM⟩ := hI
  have hfl : ((pages.take i).flatMap fun k => numB k 1).length = i := by
    rw [flat1_len, List.length_take]; omega
  repeat refine V_seq (x := .seq _ _) ?_
  first | refine VR [6, 28, 29, 30, 31] (by kernel_rfl) ?_ | refine VR1 [6, 28, 29, 30, 31] (by kernel_rfl) ?_
  push_cast (disch := omega)
  repeat refine And.intro (by omega) ?_
  repeat refine V_seq (x := .seq _ _) ?_
  first | refine V_seq (V_ifd rfl (fun hc => ?_) (fun hc => ?_)) | refine V_ifd rfl (fun hc => ?_) (fun hc => ?_)
  · first | refine V_seq (V_skip ?_) | refine V_skip ?_
    push_cast (disch := omega)
    have hlt : i < pages.length := by omega
    obtain ⟨b0, o0, c0, cs, T, fr, hpv, hb0, hle, htk⟩ := hp.some (by omega)
    injection hpv with hpa _ hpc
    subst hpa hpc
    have hcell := cell_of_take htk (intV_get hlt)
    have hb0' := Up.get hM.up hb0
    have htk1 : pages.take (i + 1) = pages.take i ++ [pages[i]] := List.take_succ_eq_append_getElem hlt
    repeat refine V_seq (x := .seq _ _) ?_
    first | refine V_seq (V_block ?_) | refine V_block ?_
    repeat refine V_seq (x := .seq _ _) ?_
    first | refine VR [6, 8, 28, 29, 30] (by kernel_rfl) ?_ | refine VR1 [6, 8, 28, 29, 30] (by kernel_rfl) ?_
    push_cast (disch := omega) [hb0', hcell]
    repeat refine And.intro (by omega) ?_
    generalize hx : pages[i] = x at *
    have h2 : x < 2 ∨ (¬ x < 2 ∧ x ≥ 250) ∨ (2 ≤ x ∧ x < 250) := by omega
    rcases h2 with a1 | ⟨a1, a2⟩ | ⟨a1, a2⟩
    · repeat refine V_seq (x := .seq _ _) ?_
      first | refine VR [6, 8, 28, 29, 30, 39] (by kernel_rfl) ?_ | refine VR1 [6, 8, 28, 29, 30, 39] (by kernel_rfl) ?_
      push_cast (disch := omega)
      repeat refine And.intro (by omega) ?_
      repeat refine V_seq (x := .seq _ _) ?_
      first | refine V_seq (V_ift rfl ?_) | refine V_ift rfl ?_
      repeat refine V_seq (x := .seq _ _) ?_
      first | refine VR [4, 5] (by kernel_rfl) ?_ | refine VR1 [4, 5] (by kernel_rfl) ?_
      push_cast (disch := omega)
      repeat refine And.intro (by omega) ?_
      first | refine V_seq (V_ret ?_) | refine V_ret ?_
      push_cast (disch := omega)
      rw [if_neg (fun h => by have := List.all_eq_true.1 h x (hx ▸ List.getElem_mem hlt); simp at this; omega)]
      exact ⟨rfl, hM.up⟩
    · repeat refine V_seq (x := .seq _ _) ?_
      first | refine VR [6, 8, 28, 29, 30, 39] (by kernel_rfl) ?_ | refine VR1 [6, 8, 28, 29, 30, 39] (by kernel_rfl) ?_
      push_cast (disch := omega)
      repeat refine And.intro (by omega) ?_
      repeat refine V_seq (x := .seq _ _) ?_
      first | refine V_seq (V_ift rfl ?_) | refine V_ift rfl ?_
      repeat refine V_seq (x := .seq _ _) ?_
      first | refine VR [4, 5] (by kernel_rfl) ?_ | refine VR1 [4, 5] (by kernel_rfl) ?_
      push_cast (disch := omega)
      repeat refine And.intro (by omega) ?_
      first | refine V_seq (V_ret ?_) | refine V_ret ?_
      push_cast (disch := omega)
      rw [if_neg (fun h => by have := List.all_eq_true.1 h x (hx ▸ List.getElem_mem hlt); simp at this; omega)]
      exact ⟨rfl, hM.up⟩
    · repeat refine V_seq (x := .seq _ _) ?_
      first | refine VR [6, 8, 28, 29, 30, 39] (by kernel_rfl) ?_ | refine VR1 [6, 8, 28, 29, 30, 39] (by kernel_rfl) ?_
      push_cast (disch := omega)
      repeat refine And.intro (by omega) ?_
      repeat refine V_seq (x := .seq _ _) ?_
      first | refine V_seq (V_iff rfl ?_) | refine V_iff rfl ?_
      first | refine V_seq (V_skip ?_) | refine V_skip ?_
      push_cast (disch := omega)
      repeat refine V_seq (x := .seq _ _) ?_
      first | refine VR [6, 28, 29, 30] (by kernel_rfl) ?_ | refine VR1 [6, 28, 29, 30] (by kernel_rfl) ?_
      push_cast (disch := omega)
      repeat refine And.intro (by omega) ?_
      refine callM_of (num_any wl o _ _ x 1 hO (by omega) (by omega) (by simp only [List.length_append, hfl, numB_len]; omega)) ?_
      rintro _ w5 ⟨rfl, v5, hO5, hk5, hg5⟩
      push_cast (disch := omega)
      repeat refine And.intro (by omega) ?_
      repeat refine V_seq (x := .seq _ _) ?_
      first | refine VR [6, 28, 29, 30] (by kernel_rfl) ?_ | refine VR1 [6, 28, 29, 30] (by kernel_rfl) ?_
      push_cast (disch := omega)
      repeat refine And.intro (by omega) ?_
      refine ⟨i + 1, ?_, ?_, (by dsimp only; omega)⟩ <;> dsimp only
      · push_cast
      · refine ⟨⟨by omega, ?_⟩, v5, ?_, hM.step hk5 hg5⟩
        · rw [htk1, List.all_append, hall]; simp; omega
        · rw [htk1, List.flatMap_append, ← List.append_assoc]
          simpa using hO5
  · first | refine V_seq (V_exit ?_) | refine V_exit ?_
    push_cast (disch := omega)
    obtain rfl : i = pages.length := by omega
    rw [List.take_length] at hO hall
    repeat refine V_seq (x := .seq _ _) ?_
    first | refine VR [9] (by kernel_rfl) ?_ | refine VR1 [9] (by kernel_rfl) ?_
    push_cast (disch := omega)
    repeat refine And.intro (by omega) ?_
    refine callM_of (done_any wl o v _ hO) ?_
    rintro _ w5 ⟨rfl, rfl⟩
    push_cast (disch := omega)
    repeat refine And.intro (by omega) ?_
    rw [if_pos hall]
    repeat refine V_seq (x := .seq _ _) ?_
    first | refine VR [4, 5] (by kernel_rfl) ?_ | refine VR1 [4, 5] (by kernel_rfl) ?_
    push_cast (disch := omega)
    repeat refine And.intro (by omega) ?_
    refine callM_of (seal_leaf _ w5 (by show (List.toArray _).size ≤ 28; rw [List.size_toArray]; simp only [List.length_append, flat1_len, numB_len]; omega)) ?_
    rintro _ w6 ⟨rfl, hu6⟩
    push_cast (disch := omega)
    repeat refine And.intro (by omega) ?_
    first | refine V_seq (V_ret ?_) | refine V_ret ?_
    push_cast (disch := omega)
    exact ⟨rfl, hM.up.trans hu6⟩
end Go.Proofs
