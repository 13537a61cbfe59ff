import Derived.Test.YthknnpojfhohbaaGreatWalkC
import Derived.Test.YthknnpojfhohbaaGreatKitB
namespace Go.Proofs
open Go Go.Vc Go.RowKit Go.Lib
set_option maxRecDepth 100000
set_option linter.unusedVariables false
set_option linter.unusedSimpArgs false
def pgV (l : List (Int × ByteArray)) : List Value := l.flatMap fun x => [.int .i64 x.1, .string x.2]
theorem pgV_len (l : List (Int × ByteArray)) : (pgV l).length = l.length * 2 := by
  unfold pgV
  induction l with
  | nil => rfl
  | cons c l ih => rw [List.flatMap_cons, List.length_append, ih, List.length_cons]; simp; omega
theorem pgV_one (l : List (Int × ByteArray)) : (pgV l).all one' = true := by
  rw [List.all_eq_true]
  intro x hx
  obtain ⟨c, _, hc⟩ := List.mem_flatMap.1 hx
  simp at hc
  rcases hc with rfl | rfl <;> rfl
theorem pgV_app (l r : List (Int × ByteArray)) : pgV (l ++ r) = pgV l ++ pgV r := by unfold pgV; rw [List.flatMap_append]
theorem slT_pgs : SlT Tryz.prog 104 182 2 24 := ⟨by kernel_rfl, ⟨_, _, rfl, rfl, rfl, rfl, rfl⟩, by decide⟩
/-- What is left behind the first. -/
theorem SlOf.tail {w : World} {e : Nat} {a : Option Addr} {n c : Nat} {x : Value} {xs : List Value} (h : SlOf w e 1 (.slice a (n + 1) c) (n + 1) (x :: xs)) (hc : n + 1 ≤ c) :
    SlOf w e 1 (.slice (if c = 1 then a else a.map (·.add (1 * 1))) (n + 1 - 1) (c - 1)) n xs := by
  obtain ⟨h1, a', c', he, h2⟩ := h
  injection he with he _ hcc
  subst he hcc
  rcases h2 with ⟨_, h2, _⟩ | ⟨b, o, cs, rfl, hb, htk, hle⟩
  · omega
  · have hl : xs.length = n * 1 := by simpa using h1
    refine ⟨hl, ?_⟩
    have hdr : (cs.toList.drop (o + 1)).take (n * 1) = xs := by
      have := congrArg (List.drop 1) htk
      rw [List.drop_take, List.drop_drop] at this
      rw [Nat.mul_one] at this ⊢
      simpa using this
    by_cases hc1 : c = 1
    · have hn : n = 0 := by omega
      subst hn
      have : xs = [] := List.eq_nil_of_length_eq_zero (by simpa using hl)
      subst this
      rw [if_pos hc1]
      exact ⟨_, _, rfl, .inr ⟨b, o, cs, rfl, hb, by simp, by omega⟩⟩
    · rw [if_neg hc1]
      refine ⟨_, _, rfl, .inr ⟨b, o + 1, cs, ?_, hb, hdr, by omega⟩⟩
      simp [add_mk]
theorem SlOf.apart {w : World} {e s n e' s' n' : Nat} {v v' : Value} {xs xs' : List Value} (h : SlOf w e s v n xs) (h' : SlOf w e' s' v' n' xs') (he : e ≠ e') {g : Nat} (hg : v.ownBlock = some g) (hg' : v'.ownBlock = some g) : False := by
  obtain ⟨cs, h1⟩ := h.block hg
  obtain ⟨cs', h2⟩ := h'.block hg'
  rw [h1] at h2
  injection h2 with h2
  injection h2 with _ h2 _
  exact he h2
theorem partsN_small (n : Nat) (b : ByteArray) : ∀ x ∈ partsN n b, x.size ≤ 27 := by
  induction n generalizing b with
  | zero => intro x hx; cases hx
  | succ n ih =>
    intro x hx
    rw [partsN] at hx
    split at hx
    · cases hx
    · rcases List.mem_cons.1 hx with rfl | hx
      · rw [ByteArray.size_extract]; omega
      · exact ih _ x hx
theorem zip_takes {α β : Type} (l : List α) (r : List β) (n : Nat) (h : min l.length r.length ≤ n) : l.zip r = (l.take n).zip (r.take n) := by
  induction l generalizing r n with
  | nil => simp
  | cons x l ih =>
    cases r with
    | nil => simp
    | cons y r =>
      cases n with
      | zero => simp at h
      | succ n =>
        simp only [List.zip_cons_cons, List.take_succ_cons]
        rw [ih r n (by simp at h; omega)]
theorem dlay_any (w : World) (d M base : Nat) (fv pv tv : Value) (free : List Int) (pages : List (Int × ByteArray)) (full : Bool) (b : ByteArray)
    (hc : w.heap[d]? = some (.cells #[fv, .map (some M), pv, tv, .bool full] 106 (0, 0))) (hf : Ints w fv free) (hcap : ∃ a c, fv = .slice a free.length c ∧ free.length ≤ c)
    (hpg : w.ownsRow base 182 2 pv pages.length (pgV pages)) (hb : b.size ≤ 10000) (hfl : free.length ≤ 1000) (hpl : pages.length ≤ 100000) (hbase : base ≤ w.heap.size) :
    CallM Tryz.prog 132 #[.pointer (some ⟨d, 0, none⟩), .string b] w fun v w' => ∃ fv' pv', w'.heap[d]? = some (.cells #[fv', .map (some M), pv', tv, .bool (full || decide (free.length < (partsB b).length))] 106 (0, 0)) ∧
      Ints w' fv' (free.drop (partsB b).length) ∧ (∃ a c, fv' = .slice a (free.drop (partsB b).length).length c ∧ (free.drop (partsB b).length).length ≤ c) ∧
      w'.ownsRow base 182 2 pv' (pages ++ free.zip ((partsB b).map layB)).length (pgV (pages ++ free.zip ((partsB b).map layB))) ∧
      w'.ownsRow w.heap.size 3 1 v (if (partsB b).length ≤ free.length then free.take (partsB b).length else []).length (intV (if (partsB b).length ≤ free.length then free.take (partsB b).length else [])) ∧
      Kp (fun i => i = d ∨ pv.ownBlock = some i) w w' ∧ Grow w pv pv' := by
  refine callM_V (args := [.pointer (some ⟨d, 0, none⟩), .string b]) Tryz.func132 rfl Tryz.ntmps132 rfl (rs := [(.tmp 4)]) rfl ?_
  push_cast (disch := omega)
  repeat refine V_seq (x := .seq _ _) ?_
  first | refine VR [0, 1] (by kernel_rfl) ?_ | refine VR1 [0, 1] (by kernel_rfl) ?_
  push_cast (disch := omega)
  repeat refine And.intro (by omega) ?_
  repeat refine V_seq (x := .seq _ _) ?_
  first | refine VR [0, 1, 5] (by kernel_rfl) ?_ | refine VR1 [0, 1, 5] (by kernel_rfl) ?_
  push_cast (disch := omega)
  repeat refine And.intro (by omega) ?_
  repeat refine V_seq (x := .seq _ _) ?_
  first | refine VR [0, 5, 11, 12, 13] (by kernel_rfl) ?_ | refine VR1 [0, 5, 11, 12, 13] (by kernel_rfl) ?_
  push_cast (disch := omega)
  repeat refine And.intro (by omega) ?_
  refine callM_of (parts_any b w (by omega)) ?_
  rintro v1 w1 ⟨ho1, hu1⟩
  push_cast (disch := omega)
  repeat refine And.intro (by omega) ?_
  have hplen : (partsB b).length ≤ 10000 := Nat.le_trans (partsN_len _ _) hb
  obtain ⟨sa, sc, rfl⟩ := ho1.shape
  have hS1 := SlOf.of_own ho1
  have hd : d < w.heap.size := lt_of_get hc
  push_cast (disch := omega)
  repeat refine And.intro (by omega) ?_
  have hpvd : pv.ownBlock ≠ some d := fun e => by
    have h1 := SlOf.of_own hpg
    exact h1.ne e hc (by decide) rfl
  obtain ⟨fa0, fc0, rfl, hfc0⟩ := hcap
  generalize hN : partsB b = N at *
  have hNs : ∀ x ∈ N, x.size ≤ 27 := by rw [← hN]; exact partsN_small _ _
  repeat refine V_seq (x := .seq _ _) ?_
  first | refine V_seq (V_block ?_) | refine V_block ?_
  repeat refine V_seq (x := .seq _ _) ?_
  first | refine V_seq (V_loopE (ι := Nat × Value) [0, 5, 11, 12, 13] (fun ⟨i, out⟩ => [(0, .pointer (some ⟨d, 0, none⟩)), (5, out), (11, .slice sa N.length sc), (12, .int .i64 N.length), (13, .int .i64 i)]) (fun ⟨i, out⟩ => fun w' => (i ≤ N.length ∧ i ≤ free.length) ∧ ∃ fa fc pvI, w'.heap[d]? = some (.cells #[.slice fa (free.length - i) fc, .map (some M), pvI, tv, .bool full] 106 (0, 0)) ∧ SlOf w' 3 1 (.slice fa (free.length - i) fc) (free.length - i) (intV (free.drop i)) ∧ (free.length - i ≤ fc ∧ ∀ g, (Value.slice fa (free.length - i) fc).ownBlock = some g → g < w.heap.size) ∧ w'.ownsRow base 182 2 pvI (pages.length + i) (pgV (pages ++ (free.take i).zip ((N.take i).map layB))) ∧ w'.ownsRow w.heap.size 3 1 out i (intV (free.take i)) ∧ Kp (fun i => i = d ∨ pv.ownBlock = some i) w w' ∧ Grow w pv pvI ∧ SlOf w' 9 1 (.slice sa N.length sc) N.length (strV N)) (fun ⟨i, out⟩ => N.length - i) ((0, .slice none 0 0)) (by first | (push_cast; rfl) | (push_cast; done)) (⟨⟨Nat.zero_le _, Nat.zero_le _⟩, fa0, fc0, pv, Up.get hu1 hc, hf.up hu1, ⟨by omega, hf.r.lt⟩, by simpa using hpg.over hu1 (fun _ _ e => e), World.ownsRow_nil _ _ _ _, hu1.mono (fun _ _ e => e.elim), .inl rfl, hS1⟩) ?_) | refine V_loopE (ι := Nat × Value) [0, 5, 11, 12, 13] (fun ⟨i, out⟩ => [(0, .pointer (some ⟨d, 0, none⟩)), (5, out), (11, .slice sa N.length sc), (12, .int .i64 N.length), (13, .int .i64 i)]) (fun ⟨i, out⟩ => fun w' => (i ≤ N.length ∧ i ≤ free.length) ∧ ∃ fa fc pvI, w'.heap[d]? = some (.cells #[.slice fa (free.length - i) fc, .map (some M), pvI, tv, .bool full] 106 (0, 0)) ∧ SlOf w' 3 1 (.slice fa (free.length - i) fc) (free.length - i) (intV (free.drop i)) ∧ (free.length - i ≤ fc ∧ ∀ g, (Value.slice fa (free.length - i) fc).ownBlock = some g → g < w.heap.size) ∧ w'.ownsRow base 182 2 pvI (pages.length + i) (pgV (pages ++ (free.take i).zip ((N.take i).map layB))) ∧ w'.ownsRow w.heap.size 3 1 out i (intV (free.take i)) ∧ Kp (fun i => i = d ∨ pv.ownBlock = some i) w w' ∧ Grow w pv pvI ∧ SlOf w' 9 1 (.slice sa N.length sc) N.length (strV N)) (fun ⟨i, out⟩ => N.length - i) ((0, .slice none 0 0)) (by first | (push_cast; rfl) | (push_cast; done)) (⟨⟨Nat.zero_le _, Nat.zero_le _⟩, fa0, fc0, pv, Up.get hu1 hc, hf.up hu1, ⟨by omega, hf.r.lt⟩, by simpa using hpg.over hu1 (fun _ _ e => e), World.ownsRow_nil _ _ _ _, hu1.mono (fun _ _ e => e.elim), .inl rfl, hS1⟩) ?_
  rintro ⟨i, out⟩ wl hI
  obtain ⟨⟨hi, hif⟩, fa, fc, pvI, hcl, hfl', ⟨hfcl, hfb⟩, hpgl, hol, hK, hG, hSl⟩ := hI
  repeat refine V_seq (x := .seq _ _) ?_
  first | refine VR [0, 5, 11, 12, 13, 14] (by kernel_rfl) ?_ | refine VR1 [0, 5, 11, 12, 13, 14] (by kernel_rfl) ?_
  push_cast (disch := omega)
  repeat refine And.intro (by omega) ?_
  repeat refine V_seq (x := .seq _ _) ?_
  first | refine V_seq (V_ifd rfl (fun hc1 => ?_) (fun hc1 => ?_)) | refine V_ifd rfl (fun hc1 => ?_) (fun hc1 => ?_)
  · first | refine V_seq (V_skip ?_) | refine V_skip ?_
    push_cast (disch := omega)
    have hlt : i < N.length := by omega
    obtain ⟨b0, o0, c0, cs, T, fr, hpv, hb0, hle, htk⟩ := hSl.r.some (by omega)
    injection hpv with hpa _ hpc
    subst hpa hpc
    have hcell := cell_of_take htk (strV_get hlt)
    repeat refine V_seq (x := .seq _ _) ?_
    first | refine V_seq (V_block ?_) | refine V_block ?_
    repeat refine V_seq (x := .seq _ _) ?_
    first | refine VR [0, 5, 7, 11, 12, 13] (by kernel_rfl) ?_ | refine VR1 [0, 5, 7, 11, 12, 13] (by kernel_rfl) ?_
    push_cast (disch := omega) [hb0, hcell]
    repeat refine And.intro (by omega) ?_
    repeat refine V_seq (x := .seq _ _) ?_
    first | refine VR [0, 5, 7, 11, 12, 13, 22] (by kernel_rfl) ?_ | refine VR1 [0, 5, 7, 11, 12, 13, 22] (by kernel_rfl) ?_
    push_cast (disch := omega) [hcl]
    repeat refine And.intro (by omega) ?_
    repeat refine V_seq (x := .seq _ _) ?_
    first | refine V_seq (V_ifd rfl (fun hfr => ?_) (fun hfr => ?_)) | refine V_ifd rfl (fun hfr => ?_) (fun hfr => ?_)
    · have hie : i = free.length := by omega
      subst hie
      repeat refine V_seq (x := .seq _ _) ?_
      first | refine VR [] (by kernel_rfl) ?_ | refine VR1 [] (by kernel_rfl) ?_
      push_cast (disch := omega) [hcl]
      repeat refine And.intro (by omega) ?_
      refine fun w3 hs3 hx3 hg3 => ?_
      push_cast (disch := omega)
      repeat refine And.intro (by omega) ?_
      repeat refine V_seq (x := .seq _ _) ?_
      first | refine VR [4] (by kernel_rfl) ?_ | refine VR1 [4] (by kernel_rfl) ?_
      push_cast (disch := omega)
      repeat refine And.intro (by omega) ?_
      first | refine V_seq (V_ret ?_) | refine V_ret ?_
      push_cast (disch := omega)
      have hz : free.zip (N.map layB) = (free.take free.length).zip ((N.take free.length).map layB) := by
        rw [List.map_take]
        exact zip_takes _ _ _ (by omega)
      refine ⟨.slice fa (free.length - free.length) fc, pvI, ?_, ?_, ?_, ?_, ?_, ?_, hG⟩
      · rw [show decide (free.length < N.length) = true from decide_eq_true (by omega), Bool.or_true]
        exact hg3
      · rw [List.drop_eq_nil_of_le (by omega)]
        rw [List.drop_length] at hfl'
        have := hfl'.over hx3 (fun g hg e => hfl'.ne hg hcl (by decide) e)
        rw [Nat.sub_self] at this ⊢
        exact this
      · rw [List.drop_eq_nil_of_le (by omega)]
        exact ⟨fa, fc, by simp, by simp⟩
      · rw [hz]
        have := hpgl.over hx3 (fun g hg e => (SlOf.of_own hpgl).ne hg hcl (by decide) e)
        have hl2 : (pages ++ (free.take free.length).zip ((N.take free.length).map layB)).length = pages.length + free.length := by simp; omega
        rw [hl2]
        exact this
      · rw [if_neg (by omega)]
        exact World.ownsRow_nil _ _ _ _
      · exact hK.step hx3 (fun i _ e => .inl e)
    · have hlf : i < free.length := by omega
      first | refine V_seq (V_skip ?_) | refine V_skip ?_
      push_cast (disch := omega)
      repeat refine V_seq (x := .seq _ _) ?_
      first | refine VR [0, 5, 8, 11, 12, 13] (by kernel_rfl) ?_ | refine VR1 [0, 5, 8, 11, 12, 13] (by kernel_rfl) ?_
      push_cast (disch := omega)
      repeat refine And.intro (by omega) ?_
      have hsz : N[i].size ≤ 27 := hNs _ (List.getElem_mem _)
      refine callM_of (lay_leaf N[i] wl hsz) ?_
      rintro _ w3 ⟨rfl, hu3⟩
      push_cast (disch := omega)
      repeat refine And.intro (by omega) ?_
      push_cast (disch := omega)
      repeat refine And.intro (by omega) ?_
      have hc3 := Up.get hu3 hcl
      have hfl3 := hfl'.up hu3
      obtain ⟨bf, of, cf, csf, Tf, frf, hfv, hbf, hlef, htkf⟩ := hfl3.r.some (by omega)
      injection hfv with hfa _ hfc
      subst hfa hfc
      have hdr : free.drop i = free[i] :: free.drop (i + 1) := List.drop_eq_getElem_cons hlf
      have hcf : csf[of]? = some (.int .i64 free[i]) := by
        have := cell_of_take (i := 0) htkf (x := .int .i64 free[i]) (by rw [hdr]; rfl)
        simpa using this
      obtain ⟨pa, pc, rfl⟩ := hpgl.shape
      repeat refine V_seq (x := .seq _ _) ?_
      first | refine VD [0, 5, 11, 12, 13] [(true, 0), (true, 1), (true, 2), (true, 3), (true, 4), (true, 5), (true, 6), (true, 7), (true, 8), (true, 9), (true, 10), (true, 11), (true, 12), (false, 13), (false, 14), (true, 15), (true, 16), (false, 17)] (by kernel_rfl) (N := [4, 8, 10]) (by kernel_rfl) Tryz.mixed (fun _ _ _ h => h) ?_ | refine VD1 [0, 5, 11, 12, 13] [(true, 0), (true, 1), (true, 2), (true, 3), (true, 4), (true, 5), (true, 6), (true, 7), (true, 8), (true, 9), (true, 10), (true, 11), (true, 12), (false, 13), (false, 14), (true, 15), (true, 16), (false, 17)] (by kernel_rfl) (N := [4, 8, 10]) (by kernel_rfl) Tryz.mixed (fun _ _ _ h => h) ?_
      intro w4 hh4 hu4
      push_cast (disch := omega) [hh4, hc3, hbf, hcf]
      repeat refine And.intro (by omega) ?_
      have hu34 := hu3.trans hu4
      have hP4 := hpgl.over hu34 (fun _ _ e => e)
      refine fun b5 w5 hb5 hs5 hu5 hg5 => ?_
      push_cast (disch := omega)
      repeat refine And.intro (by omega) ?_
      refine And.intro (up_ok (hu5)) ?_
      push_cast (disch := omega)
      repeat refine And.intro (by omega) ?_
      push_cast (disch := omega)
      repeat refine And.intro (by omega) ?_
      have hP5 := hP4.over hu5 (fun _ _ e => e)
      refine appM slT_pgs hP5 hg5 (by simp) (by simp [one']) (by omega) (by decide) (by have := hK.size; have := hu34.size; have := hu5.size; omega) ?_
      rintro v6 w6 ho6 hk6 hg6
      refine And.intro (ob_no (by kernel_rfl)) ?_
      push_cast (disch := omega)
      repeat refine And.intro (by omega) ?_
      have hc5 : w5.heap[d]? = _ := Up.get (hu34.trans hu5) hcl
      have hc6 := Kp.get hk6 hc5 (fun e => (SlOf.of_own hP5).ne e hc5 (by decide) rfl)
      have hP6 := SlOf.of_own ho6
      obtain ⟨va, vc, rfl⟩ := ho6.shape
      push_cast (disch := omega) [hc6]
      repeat refine And.intro (by omega) ?_
      refine fun w7 hs7 hx7 hg7 => ?_
      push_cast (disch := omega)
      repeat refine And.intro (by omega) ?_
      refine And.intro (ob_no (by kernel_rfl)) ?_
      push_cast (disch := omega)
      repeat refine And.intro (by omega) ?_
      have hu05 := hu34.trans hu5
      have hk57 : Kp (fun k => k = d ∨ (Value.slice pa (pages.length + i) pc).ownBlock = some k) w5 w7 := (hk6.mono (fun i _ e => .inr e)).step hx7 (fun i _ e => .inl e)
      have hk07 : Kp (fun k => k = d ∨ (Value.slice pa (pages.length + i) pc).ownBlock = some k) wl w7 := (hu05.mono (fun _ _ e => e.elim)).step hk57 (fun _ _ e => e)
      have hPl := SlOf.of_own hpgl
      have hfl7 := hfl'.over hk07 (fun g hg e => by rcases e with e | e; exact hfl'.ne hg hcl (by decide) e; exact hfl'.apart hPl (by decide) hg e)
      have hSl7 := hSl.over hk07 (fun g hg e => by rcases e with e | e; exact hSl.ne hg hcl (by decide) e; exact hSl.apart hPl (by decide) hg e)
      have hOl := SlOf.of_own hol
      have hol7 := hol.over hk07 (fun g hg e => by rcases e with e | e; exact hOl.ne hg hcl (by decide) e; exact hOl.apart hPl (by decide) hg e)
      have hP7 := ho6.over hx7 (fun g hg e => hP6.ne hg hc6 (by decide) e)
      have hK7 : Kp (fun i => i = d ∨ pv.ownBlock = some i) w w7 := hK.step hk07 (fun j hj e => by
        rcases e with e | e
        · exact .inl e
        · rcases hG with h | ⟨g, h, hle⟩
          · exact .inr (by rw [← h]; exact e)
          · rw [h] at e; injection e with e; omega)
      have hG7 : Grow w pv (.slice va (pages.length + i + 1) vc) := hG.trans (Grow.of_app hg6) (by have := hK.size; have := hu05.size; omega)
      obtain ⟨bf2, of2, cf2, csf2, Tf2, frf2, hfv2, hbf2, hlef2, htkf2⟩ := hfl7.r.some (by omega)
      injection hfv2 with hfa2 _ hfc2
      injection hfa2 with hfa2
      injection hfa2 with hfa2 hfa3 _
      subst hfa2 hfa3 hfc2
      have hcf2 : csf2[of]? = some (.int .i64 free[i]) := by
        have := cell_of_take (i := 0) htkf2 (x := .int .i64 free[i]) (by rw [hdr]; rfl)
        simpa using this
      repeat refine V_seq (x := .seq _ _) ?_
      first | refine VR [0, 5, 11, 12, 13] (by kernel_rfl) ?_ | refine VR1 [0, 5, 11, 12, 13] (by kernel_rfl) ?_
      push_cast (disch := omega) [hg7, hbf2, hcf2]
      repeat refine And.intro (by omega) ?_
      refine fun b8 w8 hb8 hs8 hu8 hg8 => ?_
      push_cast (disch := omega)
      repeat refine And.intro (by omega) ?_
      have hol8 := hol7.over hu8 (fun _ _ e => e)
      have hO8 := SlOf.of_own hol8
      refine appM slT_ints hol8 hg8 (by simp) (by simp [one']) (by omega) (by decide) (by have := hK7.size; have := hu8.size; omega) ?_
      rintro v9 w9 ho9 hk9 hg9
      push_cast (disch := omega)
      repeat refine And.intro (by omega) ?_
      have hc8 := Up.get hu8 hg7
      have hc9 := Kp.get hk9 hc8 (fun e => hO8.ne e hc8 (by decide) rfl)
      repeat refine V_seq (x := .seq _ _) ?_
      first | refine VR [0, 5, 11, 12, 13] (by kernel_rfl) ?_ | refine VR1 [0, 5, 11, 12, 13] (by kernel_rfl) ?_
      push_cast (disch := omega) [hc9]
      repeat refine And.intro (by omega) ?_
      refine fun w10 hs10 hx10 hg10 => ?_
      push_cast (disch := omega)
      repeat refine And.intro (by omega) ?_
      repeat refine V_seq (x := .seq _ _) ?_
      first | refine VR [0, 5, 11, 12, 13] (by kernel_rfl) ?_ | refine VR1 [0, 5, 11, 12, 13] (by kernel_rfl) ?_
      push_cast (disch := omega)
      repeat refine And.intro (by omega) ?_
      have hk710 : Kp (fun k => k = d ∨ out.ownBlock = some k) w7 w10 := ((hu8.mono (fun _ _ e => e.elim)).step hk9 (fun k _ e => .inr e)).step hx10 (fun k _ e => .inl e)
      have hO7 := SlOf.of_own hol7
      have hPO7 := SlOf.of_own hP7
      have hO9 := SlOf.of_own ho9
      refine ⟨(i + 1, v9), ?_, ?_, (by dsimp only; omega)⟩ <;> dsimp only
      · push_cast
      · have hn1 : free.length - i = (free.length - i - 1) + 1 := by omega
        have hfl10 : SlOf w10 3 1 (.slice (some ⟨bf, of, none⟩) (free.length - i) fc) (free.length - i) (intV (free.drop i)) := by
          exact hfl7.over hk710 (fun g hg e => by
            rcases e with e | e
            · exact hfl7.ne hg hg7 (by decide) e
            · have h1 := hfb g hg
              have h2 := (hol.lt g e).1
              omega)
        refine ⟨⟨by omega, by omega⟩, (if fc = 1 then some ⟨bf, of, none⟩ else some ⟨bf, of + 1, none⟩), fc - 1, .slice va (pages.length + i + 1) vc, ?_, ?_, ⟨by omega, ?_⟩, ?_, ?_, ?_, hG7, ?_⟩
        · rw [show free.length - (i + 1) = free.length - i - 1 from by omega]
          exact hg10
        · rw [hn1, hdr] at hfl10
          have := hfl10.tail (by omega)
          rw [show free.length - (i + 1) = free.length - i - 1 from by omega]
          simpa [add_mk, intV] using this
        · intro g hg
          refine hfb g ?_
          rw [← hg]
          by_cases hc1 : fc = 1
          · rw [if_pos hc1]; rfl
          · rw [if_neg hc1]; rfl
        · have := hP7.over hk710 (fun g hg e => by rcases e with e | e; exact hPO7.ne hg hg7 (by decide) e; exact hPO7.apart hO7 (by decide) hg e)
          have ez : pgV (pages ++ (free.take (i + 1)).zip ((N.take (i + 1)).map layB)) = pgV (pages ++ (free.take i).zip ((N.take i).map layB)) ++ [.int .i64 free[i], .string (layB N[i])] := by
            rw [List.take_succ_eq_append_getElem hlf, List.take_succ_eq_append_getElem hlt, List.map_append, List.zip_append (by simp; omega), ← List.append_assoc, pgV_app]
            rfl
          rw [ez]
          simpa [Nat.add_assoc] using this
        · have := ho9.over hx10 (fun g hg e => hO9.ne hg hc9 (by decide) e)
          have e2 : intV (free.take i ++ [free[i]]) = intV (free.take i) ++ [.int .i64 free[i]] := by unfold intV; rw [List.map_append]; rfl
          rw [List.take_succ_eq_append_getElem hlf, e2]
          simpa using this
        · refine hK7.step hk710 (fun j hj e => ?_)
          rcases e with e | e
          · exact .inl e
          · have := (hol.lt j e).1
            omega
        · exact hSl7.over hk710 (fun g hg e => by rcases e with e | e; exact hSl7.ne hg hg7 (by decide) e; exact hSl7.apart hO7 (by decide) hg e)
  · first | refine V_seq (V_exit ?_) | refine V_exit ?_
    push_cast (disch := omega)
    have hie : i = N.length := by omega
    subst hie
    repeat refine V_seq (x := .seq _ _) ?_
    first | refine VR [4] (by kernel_rfl) ?_ | refine VR1 [4] (by kernel_rfl) ?_
    push_cast (disch := omega)
    repeat refine And.intro (by omega) ?_
    first | refine V_seq (V_ret ?_) | refine V_ret ?_
    push_cast (disch := omega)
    have hz : free.zip (N.map layB) = (free.take N.length).zip ((N.take N.length).map layB) := by
      rw [List.map_take]
      exact zip_takes _ _ _ (by simp; omega)
    refine ⟨.slice fa (free.length - N.length) fc, pvI, ?_, ?_, ⟨fa, fc, ?_, ?_⟩, ?_, ?_, hK, hG⟩
    · rw [show decide (free.length < N.length) = false from decide_eq_false (by omega), Bool.or_false]
      exact hcl
    · show SlOf _ _ _ _ (free.drop N.length).length _
      rw [List.length_drop]
      exact hfl'
    · simp
    · simpa using hfcl
    · rw [hz]
      have hl2 : (pages ++ (free.take N.length).zip ((N.take N.length).map layB)).length = pages.length + N.length := by simp; omega
      rw [hl2]
      exact hpgl
    · rw [if_pos hif]
      have hl2 : (free.take N.length).length = N.length := by simp; omega
      rw [hl2]
      exact hol
end Go.Proofs
namespace Go.Proofs
open Go Go.Vc Go.RowKit Go.Lib
set_option maxRecDepth 100000
set_option linter.unusedVariables false
set_option linter.unusedSimpArgs false
theorem lenMap {P : Program} {w : World} {b clock t kt e T : Nat} {q : IntKind} {l : List Ent} {K : Value → Prop} (h : MapAt w b q l clock) (ht : P.underlying t = some (.map kt e)) (hk : K (.int .i64 (l.length : Nat))) : TakeU P w (Builtin.len_ #[t] T #[.map (some b)]) K := by
  refine ⟨_, fun w' hw => ?_, hk⟩
  simp [Builtin.len_, Sem.run_bind, run_underlying ht, run_getMap (h.over hw id).cell, Result.andThen, goInt]
/-- The numbers that a table may hold. -/
def KvOk (kv : KV) : Prop := ∀ x ∈ kv, (1 ≤ x.1 ∧ x.1 ≤ 90) ∧ x.2.1 ≤ 300 ∧ x.2.2.length ≤ 12 ∧ ∀ k ∈ x.2.2, 2 ≤ k ∧ k < 250
def thingB (x : Int × Nat × List Int) : List UInt8 := numB x.1 1 ++ numB x.2.1 2 ++ x.2.2.flatMap fun k => numB k 1
/-- The table's bytes. -/
def textL (kv : KV) : List UInt8 := numB kv.length 1 ++ kv.flatMap thingB
theorem thingB_len (x : Int × Nat × List Int) : (thingB x).length = 3 + x.2.2.length := by
  unfold thingB
  rw [List.length_append, List.length_append, flat1_len, numB_len, numB_len]
theorem textL_len (kv : KV) : (textL kv).length = 1 + 3 * kv.length + (pagesK kv).length := by
  unfold textL
  rw [List.length_append, numB_len]
  induction kv with
  | nil => rfl
  | cons x r ih =>
    unfold pagesK at ih ⊢
    rw [List.flatMap_cons, List.flatMap_cons, List.length_append, List.length_append, thingB_len, List.length_cons]
    omega
theorem OutAt.keep {w w' : World} {o : Nat} {v : Value} {xs : List UInt8} {e0 : Int} (hO : OutAt w o v xs e0) (hk : Kp (outS o v) w w') {T s n : Nat} {u : Value} {zs : List Value} (hX : SlOf w T s u n zs) (h1 : 224 ≠ T) (h2 : T ≠ 5) : SlOf w' T s u n zs :=
  hX.over hk (fun g hg e => by
    rcases e with e | e
    · exact hX.ne hg hO.cell h1 e
    · exact hX.apart (SlOf.of_own hO.row) h2 hg e)
theorem OutAt.get {w w' : World} {o : Nat} {v : Value} {xs : List UInt8} {e0 : Int} (hO : OutAt w o v xs e0) (hk : Kp (outS o v) w w') {T b : Nat} {cs : Array Value} (hg : w.heap[b]? = some (.cells cs T (0, 0))) (h1 : T ≠ 224) (h2 : T ≠ 5) : w'.heap[b]? = some (.cells cs T (0, 0)) :=
  Kp.get hk hg (by
    rintro (e | e)
    · subst e
      have h := hO.cell
      rw [hg] at h
      injection h with h
      injection h with _ h _
      exact h1 h
    · exact (SlOf.of_own hO.row).ne e hg h2 rfl)
theorem dtext_any (w : World) (d M : Nat) (fv pv tv : Value) (full : Bool) (kv : KV)
    (hc : w.heap[d]? = some (.cells #[fv, .map (some M), pv, tv, .bool full] 106 (0, 0))) (hth : ThAt w M kv) (hok : KvOk kv) (hlen : kv.length ≤ 90) :
    CallM Tryz.prog 133 #[.pointer (some ⟨d, 0, none⟩)] w fun v w' => v = .string ⟨(textL kv).toArray⟩ ∧ Up w w' := by
  obtain ⟨⟨es, clock, hm, hvals⟩, hsrt⟩ := hth
  have hkp := keys_perm hm.keys hsrt hvals
  have hl : es.length = kv.length := by have := hkp.length_eq; simpa [keysK] using this
  have hr : ∀ e ∈ es, 0 ≤ e.1 ∧ e.1 ≤ 1000000 := by
    intro e he
    have : e.1 ∈ keysK kv := hkp.mem_iff.1 (List.mem_map_of_mem (f := fun e : Ent => e.1) he)
    obtain ⟨x, hx, h1⟩ := List.mem_map.1 this
    have := (hok x hx).1
    omega
  refine callM_V (args := [.pointer (some ⟨d, 0, none⟩)]) Tryz.func133 rfl Tryz.ntmps133 rfl (rs := [(.tmp 2)]) rfl ?_
  push_cast (disch := omega)
  repeat refine V_seq (x := .seq _ _) ?_
  first | refine VR [0] (by kernel_rfl) ?_ | refine VR1 [0] (by kernel_rfl) ?_
  push_cast (disch := omega)
  repeat refine And.intro (by omega) ?_
  repeat refine V_seq (x := .seq _ _) ?_
  first | refine VR [0, 3] (by kernel_rfl) ?_ | refine VR1 [0, 3] (by kernel_rfl) ?_
  push_cast (disch := omega)
  repeat refine And.intro (by omega) ?_
  refine fun o w1 hb1 hs1 hu1 hg1 => ?_
  push_cast (disch := omega)
  repeat refine And.intro (by omega) ?_
  have hO1 : OutAt w1 o (.slice none 0 0) [] 0 := ⟨hg1, World.ownsRow_nil _ _ _ _, by intro e; cases e⟩
  have hM1 : Mine w w1 o (.slice none 0 0) := ⟨hu1, by omega, fun g e => by cases e⟩
  have hc1 := Up.get hu1 hc
  repeat refine V_seq (x := .seq _ _) ?_
  first | refine VR [0, 3] (by kernel_rfl) ?_ | refine VR1 [0, 3] (by kernel_rfl) ?_
  push_cast (disch := omega) [hc1]
  repeat refine And.intro (by omega) ?_
  refine lenMap (hm.over hu1 id) und_mt ?_
  rw [hl]
  push_cast (disch := omega)
  repeat refine And.intro (by omega) ?_
  refine callM_of (num_any w1 o _ _ kv.length 1 hO1 (by omega) (by omega) (by decide)) ?_
  rintro _ w2 ⟨rfl, v2, hO2, hk2, hg2⟩
  push_cast (disch := omega)
  repeat refine And.intro (by omega) ?_
  have hM2 := hM1.step hk2 hg2
  have hc2 := Up.get hM2.up hc
  repeat refine V_seq (x := .seq _ _) ?_
  first | refine VR [0, 3, 22, 23, 24] (by kernel_rfl) ?_ | refine VR1 [0, 3, 22, 23, 24] (by kernel_rfl) ?_
  push_cast (disch := omega) [hc2]
  repeat refine And.intro (by omega) ?_
  refine callM_of (mkeys_any w2 M) ?_
  rintro _ _ ⟨rfl, rfl⟩
  push_cast (disch := omega)
  repeat refine And.intro (by omega) ?_
  refine callM_of (msorted_any w2 M clock es (hm.over hM2.up id) hr (by omega)) ?_
  rintro v3 w3 ⟨ho3, hu3⟩
  push_cast (disch := omega)
  repeat refine And.intro (by omega) ?_
  rw [hl, sortI_perm hkp, sortI_of ((keysK_sorted hsrt).imp (fun h => by omega))] at ho3
  obtain ⟨ka, kc, rfl⟩ := ho3.shape
  push_cast (disch := omega)
  repeat refine And.intro (by omega) ?_
  have hkl : (keysK kv).length = kv.length := by simp [keysK]
  have hS3 := SlOf.of_own ho3
  have hO3 : OutAt w3 o v2 (numB kv.length 1) 0 := ⟨Up.get hu3 hO2.cell, hO2.row.over hu3 (fun _ _ e => e), hO2.apart⟩
  have hM3 : Mine w w3 o v2 := ⟨hM2.up.trans hu3, hM2.new, hM2.own⟩
  have hpre : ∀ i, ((kv.take i).flatMap thingB).length ≤ 15 * i := by
    intro i
    have : ∀ r : KV, (∀ x ∈ r, x ∈ kv) → (r.flatMap thingB).length ≤ 15 * r.length := by
      intro r
      induction r with
      | nil => intro _; exact Nat.le_refl _
      | cons x r ih =>
        intro hr
        rw [List.flatMap_cons, List.length_append, thingB_len, List.length_cons]
        have := (hok x (hr x List.mem_cons_self)).2.2.1
        have := ih (fun y hy => hr y (List.mem_cons_of_mem _ hy))
        omega
    refine Nat.le_trans (this _ (fun x hx => List.mem_of_mem_take hx)) ?_
    rw [List.length_take]; omega
  repeat refine V_seq (x := .seq _ _) ?_
  first | refine V_seq (V_block ?_) | refine V_block ?_
  repeat refine V_seq (x := .seq _ _) ?_
  first | refine V_seq (V_loopE (ι := Nat) [0, 3, 22, 23, 24] (fun i => [(0, .pointer (some ⟨d, 0, none⟩)), (3, .pointer (some ⟨o, 0, none⟩)), (22, .slice ka (List.length kv) kc), (23, .int .i64 (List.length kv)), (24, .int .i64 i)]) (fun i => fun w' => i ≤ kv.length ∧ SlOf w' 3 1 (.slice ka (List.length kv) kc) (List.length kv) (intV (keysK kv)) ∧ ∃ v, OutAt w' o v (numB kv.length 1 ++ (kv.take i).flatMap thingB) 0 ∧ Mine w w' o v) (fun i => kv.length - i) (0) (by first | (push_cast; rfl) | (push_cast; done)) (⟨Nat.zero_le _, hS3, v2, by simpa using hO3, hM3⟩) ?_) | refine V_loopE (ι := Nat) [0, 3, 22, 23, 24] (fun i => [(0, .pointer (some ⟨d, 0, none⟩)), (3, .pointer (some ⟨o, 0, none⟩)), (22, .slice ka (List.length kv) kc), (23, .int .i64 (List.length kv)), (24, .int .i64 i)]) (fun i => fun w' => i ≤ kv.length ∧ SlOf w' 3 1 (.slice ka (List.length kv) kc) (List.length kv) (intV (keysK kv)) ∧ ∃ v, OutAt w' o v (numB kv.length 1 ++ (kv.take i).flatMap thingB) 0 ∧ Mine w w' o v) (fun i => kv.length - i) (0) (by first | (push_cast; rfl) | (push_cast; done)) (⟨Nat.zero_le _, hS3, v2, by simpa using hO3, hM3⟩) ?_
  rintro i wl hI
  obtain ⟨hi, hS, v, hO, hM⟩ := hI
  repeat refine V_seq (x := .seq _ _) ?_
  first | refine VR [0, 3, 22, 23, 24, 25] (by kernel_rfl) ?_ | refine VR1 [0, 3, 22, 23, 24, 25] (by kernel_rfl) ?_
  push_cast (disch := omega)
  repeat refine And.intro (by omega) ?_
  repeat refine V_seq (x := .seq _ _) ?_
  first | refine V_seq (V_ifd rfl (fun hlt0 => ?_) (fun hlt0 => ?_)) | refine V_ifd rfl (fun hlt0 => ?_) (fun hlt0 => ?_)
  · first | refine V_seq (V_skip ?_) | refine V_skip ?_
    push_cast (disch := omega)
    have hlt : i < kv.length := by omega
    obtain ⟨b0, o0, c0, cs, T, fr, hpv, hb0, hle, htk⟩ := hS.r.some (by omega)
    injection hpv with hpa _ hpc
    subst hpa hpc
    have hcell := cell_of_take htk (intV_get (l := keysK kv) (i := i) (by omega))
    have hki : (keysK kv)[i]'(by omega) = kv[i].1 := by simp [keysK]
    rw [hki] at hcell
    have htk1 : kv.take (i + 1) = kv.take i ++ [kv[i]] := List.take_succ_eq_append_getElem hlt
    have hmem : kv[i] ∈ kv := List.getElem_mem hlt
    have hox := hok _ hmem
    have hgx := getK_of_mem hsrt hmem
    generalize hx : kv[i] = x at *
    obtain ⟨key, nn, ps⟩ := x
    dsimp only at hox hgx hcell
    have hv0 := hvals key
    rw [hgx] at hv0
    obtain ⟨v0, hgm, pv, rfl, hps⟩ : ∃ v, getM es key = some v ∧ okV w v (nn, ps) := by cases hy : getM es key with | none => rw [hy] at hv0; exact hv0.elim | some v => rw [hy] at hv0; exact ⟨v, rfl, hv0⟩
    dsimp only at hps hgm
    obtain ⟨pa, pc, rfl⟩ : ∃ a c, pv = .slice a ps.length c := by obtain ⟨_, a, c, h, _⟩ := hps; exact ⟨a, c, h⟩
    have hpi := hpre i
    repeat refine V_seq (x := .seq _ _) ?_
    first | refine V_seq (V_block ?_) | refine V_block ?_
    repeat refine V_seq (x := .seq _ _) ?_
    first | refine VR [0, 3, 5, 22, 23, 24] (by kernel_rfl) ?_ | refine VR1 [0, 3, 5, 22, 23, 24] (by kernel_rfl) ?_
    push_cast (disch := omega) [hb0, hcell]
    repeat refine And.intro (by omega) ?_
    repeat refine V_seq (x := .seq _ _) ?_
    first | refine VR [0, 3, 5, 6, 22, 23, 24] (by kernel_rfl) ?_ | refine VR1 [0, 3, 5, 6, 22, 23, 24] (by kernel_rfl) ?_
    push_cast (disch := omega) [Up.get hM.up hc]
    repeat refine And.intro (by omega) ?_
    refine lookM (hm.over hM.up id) und_mt und_int zero_thing ?_
    rw [hgm]
    simp only [Option.getD_some, Option.isSome_some]
    push_cast (disch := omega)
    repeat refine And.intro (by omega) ?_
    refine fun b6 w6 hb6 hs6 hu6 hg6 => ?_
    push_cast (disch := omega)
    repeat refine And.intro (by omega) ?_
    push_cast (disch := omega) [hg6]
    repeat refine And.intro (by omega) ?_
    refine fun w7 hs7 hx7 hg7 => ?_
    push_cast (disch := omega)
    repeat refine And.intro (by omega) ?_
    have hu7 : Up wl w7 := Up.write hu6 hx7 (by omega)
    have hO7 : OutAt w7 o v (numB kv.length 1 ++ (kv.take i).flatMap thingB) 0 := ⟨Up.get hu7 hO.cell, hO.row.over hu7 (fun _ _ e => e), hO.apart⟩
    have hM7 : Mine w w7 o v := ⟨hM.up.trans hu7, hM.new, hM.own⟩
    have hS7 := hS.up hu7
    repeat refine V_seq (x := .seq _ _) ?_
    first | refine VR [0, 3, 6, 22, 23, 24] (by kernel_rfl) ?_ | refine VR1 [0, 3, 6, 22, 23, 24] (by kernel_rfl) ?_
    push_cast (disch := omega)
    repeat refine And.intro (by omega) ?_
    refine callM_of (num_any w7 o _ _ key 1 hO7 (by omega) (by omega) (by rw [List.length_append, numB_len]; omega)) ?_
    rintro _ w8 ⟨rfl, v8, hO8, hk8, hg8⟩
    push_cast (disch := omega)
    repeat refine And.intro (by omega) ?_
    have hM8 := hM7.step hk8 hg8
    have hS8 := hO7.keep hk8 hS7 (by decide) (by decide)
    have hc8 := hO7.get hk8 hg7 (by decide) (by decide)
    repeat refine V_seq (x := .seq _ _) ?_
    first | refine VR [0, 3, 6, 22, 23, 24] (by kernel_rfl) ?_ | refine VR1 [0, 3, 6, 22, 23, 24] (by kernel_rfl) ?_
    push_cast (disch := omega) [hc8]
    repeat refine And.intro (by omega) ?_
    refine callM_of (num_any w8 o _ _ nn 2 hO8 (by omega) (by omega) (by simp only [List.length_append, numB_len]; omega)) ?_
    rintro _ w9 ⟨rfl, v9, hO9, hk9, hg9⟩
    push_cast (disch := omega)
    repeat refine And.intro (by omega) ?_
    have hM9 := hM8.step hk9 hg9
    have hS9 := hO8.keep hk9 hS8 (by decide) (by decide)
    have hc9 := hO8.get hk9 hc8 (by decide) (by decide)
    repeat refine V_seq (x := .seq _ _) ?_
    first | refine VR [0, 3, 22, 23, 24, 40, 41, 42] (by kernel_rfl) ?_ | refine VR1 [0, 3, 22, 23, 24, 40, 41, 42] (by kernel_rfl) ?_
    push_cast (disch := omega) [hc9]
    repeat refine And.intro (by omega) ?_
    repeat refine V_seq (x := .seq _ _) ?_
    first | refine V_seq (V_block ?_) | refine V_block ?_
    repeat refine V_seq (x := .seq _ _) ?_
    first | refine V_seq (V_loopE (ι := Nat) [0, 3, 22, 23, 24, 40, 41, 42] (fun j => [(0, .pointer (some ⟨d, 0, none⟩)), (3, .pointer (some ⟨o, 0, none⟩)), (22, .slice (some ⟨b0, o0, none⟩) (List.length kv) kc), (23, .int .i64 (List.length kv)), (24, .int .i64 i), (40, .slice pa ps.length pc), (41, .int .i64 ps.length), (42, .int .i64 j)]) (fun j => fun w' => j ≤ ps.length ∧ SlOf w' 3 1 (.slice (some ⟨b0, o0, none⟩) (List.length kv) kc) (List.length kv) (intV (keysK kv)) ∧ ∃ v, OutAt w' o v (((numB kv.length 1 ++ (kv.take i).flatMap thingB) ++ numB key 1 ++ numB nn 2) ++ (ps.take j).flatMap fun k => numB k 1) 0 ∧ Mine w w' o v) (fun j => ps.length - j) (0) (by first | (push_cast; rfl) | (push_cast; done)) (⟨Nat.zero_le _, hS9, v9, by simpa using hO9, hM9⟩) ?_) | refine V_loopE (ι := Nat) [0, 3, 22, 23, 24, 40, 41, 42] (fun j => [(0, .pointer (some ⟨d, 0, none⟩)), (3, .pointer (some ⟨o, 0, none⟩)), (22, .slice (some ⟨b0, o0, none⟩) (List.length kv) kc), (23, .int .i64 (List.length kv)), (24, .int .i64 i), (40, .slice pa ps.length pc), (41, .int .i64 ps.length), (42, .int .i64 j)]) (fun j => fun w' => j ≤ ps.length ∧ SlOf w' 3 1 (.slice (some ⟨b0, o0, none⟩) (List.length kv) kc) (List.length kv) (intV (keysK kv)) ∧ ∃ v, OutAt w' o v (((numB kv.length 1 ++ (kv.take i).flatMap thingB) ++ numB key 1 ++ numB nn 2) ++ (ps.take j).flatMap fun k => numB k 1) 0 ∧ Mine w w' o v) (fun j => ps.length - j) (0) (by first | (push_cast; rfl) | (push_cast; done)) (⟨Nat.zero_le _, hS9, v9, by simpa using hO9, hM9⟩) ?_
    rintro j wl hI
    rename_i wl0
    clear hO hM hS hb0 hcell
    obtain ⟨hj, hS, v', hO, hM⟩ := hI
    repeat refine V_seq (x := .seq _ _) ?_
    first | refine VR [0, 3, 22, 23, 24, 40, 41, 42, 43] (by kernel_rfl) ?_ | refine VR1 [0, 3, 22, 23, 24, 40, 41, 42, 43] (by kernel_rfl) ?_
    push_cast (disch := omega)
    repeat refine And.intro (by omega) ?_
    repeat refine V_seq (x := .seq _ _) ?_
    first | refine V_seq (V_ifd rfl (fun hltj => ?_) (fun hltj => ?_)) | refine V_ifd rfl (fun hltj => ?_) (fun hltj => ?_)
    · first | refine V_seq (V_skip ?_) | refine V_skip ?_
      push_cast (disch := omega)
      have hltj' : j < ps.length := by omega
      obtain ⟨b1, o1, c1, cs1, T1, fr1, hpv1, hb1', hle1, htk1'⟩ := hps.r.some (by omega)
      injection hpv1 with hpa1 _ hpc1
      subst hpa1 hpc1
      have hcell1 := cell_of_take htk1' (intV_get hltj')
      have htj : ps.take (j + 1) = ps.take j ++ [ps[j]] := List.take_succ_eq_append_getElem hltj'
      have hrj := hox.2.2.2 ps[j] (List.getElem_mem hltj')
      have hfj : ((ps.take j).flatMap fun k => numB k 1).length = j := by rw [flat1_len, List.length_take]; omega
      repeat refine V_seq (x := .seq _ _) ?_
      first | refine V_seq (V_block ?_) | refine V_block ?_
      repeat refine V_seq (x := .seq _ _) ?_
      first | refine VR [0, 3, 8, 22, 23, 24, 40, 41, 42] (by kernel_rfl) ?_ | refine VR1 [0, 3, 8, 22, 23, 24, 40, 41, 42] (by kernel_rfl) ?_
      push_cast (disch := omega) [Up.get hM.up hb1', hcell1]
      repeat refine And.intro (by omega) ?_
      repeat refine V_seq (x := .seq _ _) ?_
      first | refine VR [0, 3, 22, 23, 24, 40, 41, 42] (by kernel_rfl) ?_ | refine VR1 [0, 3, 22, 23, 24, 40, 41, 42] (by kernel_rfl) ?_
      push_cast (disch := omega)
      repeat refine And.intro (by omega) ?_
      refine callM_of (num_any wl o _ _ ps[j] 1 hO (by omega) (by omega) (by simp only [List.length_append, numB_len, hfj]; omega)) ?_
      rintro _ w10 ⟨rfl, v10, hO10, hk10, hg10⟩
      push_cast (disch := omega)
      repeat refine And.intro (by omega) ?_
      repeat refine V_seq (x := .seq _ _) ?_
      first | refine VR [0, 3, 22, 23, 24, 40, 41, 42] (by kernel_rfl) ?_ | refine VR1 [0, 3, 22, 23, 24, 40, 41, 42] (by kernel_rfl) ?_
      push_cast (disch := omega)
      repeat refine And.intro (by omega) ?_
      refine ⟨j + 1, ?_, ?_, (by dsimp only; omega)⟩ <;> dsimp only
      · push_cast
      · refine ⟨by omega, hO.keep hk10 hS (by decide) (by decide), v10, ?_, hM.step hk10 hg10⟩
        rw [htj, List.flatMap_append, ← List.append_assoc]
        simpa using hO10
    · first | refine V_seq (V_exit ?_) | refine V_exit ?_
      push_cast (disch := omega)
      obtain rfl : j = ps.length := by omega
      rw [List.take_length] at hO
      repeat refine V_seq (x := .seq _ _) ?_
      first | refine VR [0, 3, 22, 23, 24] (by kernel_rfl) ?_ | refine VR1 [0, 3, 22, 23, 24] (by kernel_rfl) ?_
      push_cast (disch := omega)
      repeat refine And.intro (by omega) ?_
      refine ⟨i + 1, ?_, ?_, (by dsimp only; omega)⟩ <;> dsimp only
      · push_cast
      · refine ⟨by omega, hS, v', ?_, hM⟩
        rw [htk1, List.flatMap_append]
        simpa [thingB, List.append_assoc] using hO
  · first | refine V_seq (V_exit ?_) | refine V_exit ?_
    push_cast (disch := omega)
    obtain rfl : i = kv.length := by omega
    rw [List.take_length] at hO
    repeat refine V_seq (x := .seq _ _) ?_
    first | refine VR [9] (by kernel_rfl) ?_ | refine VR1 [9] (by kernel_rfl) ?_
    push_cast (disch := omega)
    repeat refine And.intro (by omega) ?_
    refine callM_of (done_any wl o v _ hO) ?_
    rintro _ w5 ⟨rfl, rfl⟩
    push_cast (disch := omega)
    repeat refine And.intro (by omega) ?_
    repeat refine V_seq (x := .seq _ _) ?_
    first | refine VR [2] (by kernel_rfl) ?_ | refine VR1 [2] (by kernel_rfl) ?_
    push_cast (disch := omega)
    repeat refine And.intro (by omega) ?_
    first | refine V_seq (V_ret ?_) | refine V_ret ?_
    push_cast (disch := omega)
    exact ⟨rfl, hM.up⟩
end Go.Proofs
namespace Go.Proofs
open Go Go.Vc Go.RowKit Go.Lib
set_option maxRecDepth 100000
set_option linter.unusedVariables false
set_option linter.unusedSimpArgs false
theorem partsN_need (n : Nat) (b : ByteArray) (h : b.size ≤ n) : (partsN n b).length = (b.size + 26) / 27 := by
  induction n generalizing b with
  | zero => rw [partsN, show b.size = 0 from by omega]; rfl
  | succ n ih =>
    rw [partsN]
    split
    · rename_i h0; rw [h0]; rfl
    · rename_i h0
      have hs : (b.extract (min b.size 27) b.size).size = b.size - min b.size 27 := by rw [ByteArray.size_extract]; omega
      rw [List.length_cons, ih _ (by omega), hs]
      omega
theorem partsB_need (b : ByteArray) : (partsB b).length = (b.size + 26) / 27 := partsN_need _ _ (Nat.le_refl _)
/-- A commit that is not done yet. -/
structure DrS where
  free : List Int
  kv : KV
  pages : List (Int × ByteArray)
  table : List Int
  full : Bool
def DrS.lay (s : DrS) (b : ByteArray) : DrS := { s with free := s.free.drop (partsB b).length, pages := s.pages ++ s.free.zip ((partsB b).map layB), full := s.full || decide (s.free.length < (partsB b).length) }
def DrS.out (s : DrS) (b : ByteArray) : List Int := if (partsB b).length ≤ s.free.length then s.free.take (partsB b).length else []
def DrS.step (s : DrS) (c : ChS) : DrS := if c.gone then { s with kv := delK s.kv c.key } else { s.lay c.bytes with kv := putK s.kv c.key (c.bytes.size, s.out c.bytes) }
def DrS.text (s : DrS) : ByteArray := ⟨(textL s.kv).toArray⟩
def DrS.done (s : DrS) : DrS := { s.lay s.text with table := s.out s.text, full := (s.lay s.text).full || decide ((s.out s.text).length > 11) }
def BnS.start (s : BnS) (n : Nat) : DrS := ⟨s.free n, s.kv, [], [], decide (s.gen ≥ 1000000000)⟩
def BnS.plan (s : BnS) (n : Nat) (l : List ChS) : DrS := (l.foldl DrS.step (s.start n)).done
structure DrS.ok (s : DrS) : Prop where
  kv : KvOk s.kv
  srt : SortedK s.kv
  rng : ∀ k ∈ s.free, 2 ≤ k ∧ k < 250
  few : s.pages.length + s.free.length ≤ 250
theorem DrS.ok.len {s : DrS} (h : s.ok) : s.kv.length ≤ 90 := sorted_len h.srt 1 90 (fun x hx => by have := (h.kv x hx).1; omega)
theorem DrS.out_len (s : DrS) (b : ByteArray) : (s.out b).length ≤ (partsB b).length := by
  unfold DrS.out
  split
  · rw [List.length_take]; omega
  · exact Nat.zero_le _
theorem DrS.out_mem {s : DrS} {b : ByteArray} {k : Int} (h : k ∈ s.out b) : k ∈ s.free := by
  unfold DrS.out at h
  split at h
  · exact List.mem_of_mem_take h
  · cases h
theorem DrS.ok.lay {s : DrS} (h : s.ok) (b : ByteArray) : (s.lay b).ok :=
  ⟨h.kv, h.srt, fun k hk => h.rng k (List.mem_of_mem_drop hk), by
    have := h.few
    simp only [DrS.lay, List.length_append, List.length_zip, List.length_map, List.length_drop]; omega⟩
theorem DrS.ok.step {s : DrS} (h : s.ok) {c : ChS} (hk : 1 ≤ c.key ∧ c.key ≤ 90) (hb : c.bytes.size ≤ 300) : (s.step c).ok := by
  unfold DrS.step
  split
  · exact ⟨fun x hx => h.kv x (List.filter_sublist.subset hx), delK_sorted h.srt _, h.rng, h.few⟩
  · have hl := h.lay c.bytes
    refine ⟨fun x hx => ?_, putK_sorted h.srt _ _, hl.rng, hl.few⟩
    rcases mem_putK hx with rfl | hx
    · refine ⟨hk, hb, ?_, fun k hk => h.rng k (DrS.out_mem hk)⟩
      have h1 := s.out_len c.bytes
      have h2 := partsB_need c.bytes
      show (s.out c.bytes).length ≤ 12
      omega
    · exact h.kv x hx
theorem BnS.ok.start {s : BnS} (h : s.ok) (hs : SortedK s.kv) {n : Nat} (hn : n ≤ 250) : (s.start n).ok :=
  ⟨h.rng, hs, fun k hk => by have := (mem_freeN.1 hk).1; omega, by have := freeN_len s.used n; show 0 + (freeN s.used n).length ≤ 250; omega⟩
theorem rightL_mem {kv : KV} {prev : Option Int} {l : List ChS} (h : rightL kv prev l = true) : ∀ c ∈ l, (1 ≤ c.key ∧ c.key ≤ 90) ∧ c.bytes.size ≤ 300 := by
  induction l generalizing prev with
  | nil => intro c hc; cases hc
  | cons x l ih =>
    intro c hc
    rw [rightL, Bool.and_eq_true] at h
    rcases List.mem_cons.1 hc with rfl | hc
    · have h1 := h.1
      simp [rightC] at h1
      omega
    · exact ih h.2 c hc
theorem foldl_ok {l : List ChS} {s : DrS} (h : s.ok) (hl : ∀ c ∈ l, (1 ≤ c.key ∧ c.key ≤ 90) ∧ c.bytes.size ≤ 300) : (l.foldl DrS.step s).ok := by
  induction l generalizing s with
  | nil => exact h
  | cons c l ih =>
    rw [List.foldl_cons]
    have := hl c List.mem_cons_self
    exact ih (h.step this.1 this.2) (fun x hx => hl x (List.mem_cons_of_mem _ hx))
/-- A draft at d. -/
structure DrAt (w0 w : World) (d M : Nat) (fv pv tv : Value) (s : DrS) : Prop where
  cell : w.heap[d]? = some (.cells #[fv, .map (some M), pv, tv, .bool s.full] 106 (0, 0))
  free : Ints w fv s.free
  cap : ∃ a c, fv = .slice a s.free.length c ∧ s.free.length ≤ c
  pages : w.ownsRow w0.heap.size 182 2 pv s.pages.length (pgV s.pages)
  table : Ints w tv s.table
  things : ThAt w M s.kv
  new : w0.heap.size ≤ d ∧ w0.heap.size ≤ M
  up : Up w0 w
theorem ThAt.block {w : World} {M : Nat} {kv : KV} (h : ThAt w M kv) : ∃ es c, w.heap[M]? = some (.map es c) := by
  obtain ⟨⟨l, c, hm, _⟩, _⟩ := h
  exact ⟨_, _, hm.cell⟩
theorem map_ne {w : World} {M d : Nat} {es : Array MapEntry} {c T : Nat} {cs : Array Value} {fr : Nat × Nat} (h : w.heap[M]? = some (.map es c)) (h' : w.heap[d]? = some (.cells cs T fr)) : M ≠ d := by
  rintro rfl
  rw [h] at h'
  injection h' with h'
  cases h'
theorem cells_ne {w : World} {a b : Nat} {T T' : Nat} {cs cs' : Array Value} {fr fr' : Nat × Nat} (h : w.heap[a]? = some (.cells cs T fr)) (h' : w.heap[b]? = some (.cells cs' T' fr')) (ht : T ≠ T') : a ≠ b := by
  rintro rfl
  rw [h] at h'
  injection h' with h'
  injection h' with _ h' _
  exact ht h'
theorem DrAt.over {w0 w w' : World} {d M : Nat} {fv pv tv : Value} {s : DrS} (h : DrAt w0 w d M fv pv tv s) (hu : Up w w') : DrAt w0 w' d M fv pv tv s :=
  ⟨Up.get hu h.cell, h.free.up hu, h.cap, h.pages.over hu (fun _ _ e => e), h.table.up hu, h.things.up hu, h.new, h.up.trans hu⟩
theorem dlay_dr {w0 w : World} {d M : Nat} {fv pv tv : Value} {s : DrS} (h : DrAt w0 w d M fv pv tv s) (hok : s.ok) (b : ByteArray) (hb : b.size ≤ 10000) :
    CallM Tryz.prog 132 #[.pointer (some ⟨d, 0, none⟩), .string b] w fun v w' => ∃ fv' pv', DrAt w0 w' d M fv' pv' tv (s.lay b) ∧ Ints w' v (s.out b) ∧ (∀ (T b' : Nat) (cs : Array Value), w.heap[b']? = some (.cells cs T (0, 0)) → T ≠ 106 → T ≠ 182 → w'.heap[b']? = some (.cells cs T (0, 0))) := by
  have hfew := hok.few
  refine callM_of (dlay_any w d M w0.heap.size fv pv tv s.free s.pages s.full b h.cell h.free h.cap h.pages hb (by omega) (by omega) h.up.size) ?_
  rintro v w' ⟨fv', pv', hc, hf, hcap, hp, ho, hk, hg⟩
  have hP := SlOf.of_own h.pages
  have hnS : ∀ (T b' : Nat) (cs : Array Value), w.heap[b']? = some (.cells cs T (0, 0)) → T ≠ 106 → T ≠ 182 → ¬ (b' = d ∨ pv.ownBlock = some b') := by
    rintro T b' cs hb' h1 h2 (e | e)
    · exact cells_ne hb' h.cell h1 e
    · exact hP.ne e hb' h2 rfl
  obtain ⟨es, c, hM⟩ := h.things.block
  have hnM : ¬ (M = d ∨ pv.ownBlock = some M) := by
    rintro (e | e)
    · exact map_ne hM h.cell e
    · exact hP.nem e hM rfl
  refine ⟨fv', pv', ⟨hc, hf, hcap, hp, ?_, ?_, h.new, ?_⟩, SlOf.of_own ho, ?_⟩
  · exact h.table.over hk (fun g hg e => by obtain ⟨cs, h'⟩ := h.table.block hg; exact hnS _ _ _ h' (by decide) (by decide) e)
  · exact h.things.over hk hnM (fun g cs h' e => hnS _ _ _ h' (by decide) (by decide) e)
  · exact h.up.turn hk (fun i e => by
      rcases e with rfl | e
      · exact h.new.1
      · exact (h.pages.lt i e).1)
  · exact fun T b' cs hb' h1 h2 => Kp.get hk hb' (hnS T b' cs hb' h1 h2)
/-- maps.Clone. -/
theorem mclone_any (w : World) (M : Nat) (kv : KV) (h : ThAt w M kv) : CallM Tryz.prog 131 #[.map (some M)] w fun v w' => v = .map (some w.heap.size) ∧ ThAt w' w.heap.size kv ∧ Up w w' := by
  obtain ⟨⟨l, c, hm, hv⟩, hs⟩ := h
  refine callM_kit (AnyW.maps_Clone Tryz.cloneA M _ c w hm.cell) ?_
  rintro w' rfl
  have hu := alloc_up w (.map (l.map (entV .i64)).toArray c)
  exact ⟨rfl, ⟨⟨l, c, ⟨heap_alloc_new w _, hm.keys, hm.old, hm.born⟩, fun k => (hv k).imp fun a b h => h.over hu (fun _ _ _ e => e)⟩, hs⟩, hu⟩
theorem ownsRow_cap {w : World} {base e size n : Nat} {v : Value} {xs : List Value} (h : w.ownsRow base e size v n xs) : ∃ a c, v = .slice a n c ∧ n ≤ c := by
  rcases h.2 with ⟨rfl, rfl⟩ | ⟨g, cap, cur, rfl, _, _, hn, _⟩
  · exact ⟨_, _, rfl, Nat.le_refl _⟩
  · exact ⟨_, _, rfl, hn⟩
end Go.Proofs
namespace Go.Proofs
open Go Go.Vc Go.RowKit Go.Lib
set_option maxRecDepth 100000
set_option linter.unusedVariables false
set_option linter.unusedSimpArgs false
theorem getM_del (l : List Ent) (k j : Int) : getM (delM l k) j = if j = k then none else getM l j := by
  unfold getM delM
  rw [List.find?_filter]
  by_cases hj : j = k
  · subst hj
    rw [if_pos rfl]
    simp
  · rw [if_neg hj]
    congr 2
    funext a
    by_cases ha : a.1 = j
    · subst ha; simp [hj]
    · simp [ha]
theorem th_del {w w' : World} {M : Nat} {kv : KV} {l : List Ent} {clock clock' : Nat} {k : Int} (hv : ∀ k, optR (okV w) (getM l k) (getK kv k)) (hs : SortedK kv) (hm : MapAt w' M .i64 (delM l k) clock') (hx : Ux M w w') (hM : ∃ es c, w.heap[M]? = some (.map es c)) : ThAt w' M (delK kv k) := by
  refine ⟨⟨_, _, hm, fun j => ?_⟩, delK_sorted hs k⟩
  rw [getM_del, getK_del]
  by_cases hj : j = k
  · rw [if_pos hj, if_pos hj]; trivial
  · rw [if_neg hj, if_neg hj]
    refine (hv j).imp fun a b h => h.over hx fun g cs h' e => ?_
    obtain ⟨es, c, hM⟩ := hM
    exact map_ne hM h' e.symm
theorem th_put {w w' : World} {M : Nat} {kv : KV} {l : List Ent} {clock clock' : Nat} {k : Int} {v : Value} {x : Nat × List Int} (hv : ∀ k, optR (okV w) (getM l k) (getK kv k)) (hs : SortedK kv) (hm : MapAt w' M .i64 (putM l k v clock) clock') (hx : Ux M w w') (hM : ∃ es c, w.heap[M]? = some (.map es c)) (ho : okV w v x) : ThAt w' M (putK kv k x) := by
  obtain ⟨es, c, hM⟩ := hM
  have hS : ∀ g cs, w.heap[g]? = some (.cells cs 3 (0, 0)) → ¬ g = M := fun g cs h' e => map_ne hM h' e.symm
  refine ⟨⟨_, _, hm, fun j => ?_⟩, putK_sorted hs k x⟩
  rw [getM_put, getK_put]
  by_cases hj : j = k
  · rw [if_pos hj, if_pos hj]; exact ho.over hx hS
  · rw [if_neg hj, if_neg hj]
    exact (hv j).imp fun a b h => h.over hx hS
theorem DrAt.remap {w0 w w' : World} {d M : Nat} {fv pv tv : Value} {s : DrS} (h : DrAt w0 w d M fv pv tv s) (hx : Ux M w w') {kv' : KV} (ht : ThAt w' M kv') : DrAt w0 w' d M fv pv tv { s with kv := kv' } := by
  obtain ⟨es, c, hM⟩ := h.things.block
  exact ⟨Kp.get hx h.cell (fun e => map_ne hM h.cell e.symm), h.free.over hx (fun g hg e => h.free.nem hg hM e), h.cap, h.pages.over hx (fun g hg e => (SlOf.of_own h.pages).nem hg hM e), h.table.over hx (fun g hg e => h.table.nem hg hM e), ht, h.new, h.up.write hx h.new.2⟩
theorem bplan_any (w : World) (B p f m M : Nat) (tv lv : Value) (s : BnS) (pl : PlS) (l : List ChS) (h : BnAt w B p M tv s) (hp : PlateAt w p f m pl) (hok : s.ok) (hl : SlR w 3 lv l.length (chV l)) (hn : l.length ≤ 1000) (hl2 : ∀ c ∈ l, (1 ≤ c.key ∧ c.key ≤ 90) ∧ c.bytes.size ≤ 300) :
    CallM Tryz.prog 53 #[.pointer (some ⟨B, 0, none⟩), lv] w fun v w' => ∃ d M' fv pv tv', v = .pointer (some ⟨d, 0, none⟩) ∧ DrAt w w' d M' fv pv tv' (s.plan pl.fixed.length l) := by
  have hc := h.cell
  have hsm := hp.small
  obtain ⟨la, lc, rfl⟩ : ∃ a c, lv = .slice a l.length c := by obtain ⟨_, a, c, h, _⟩ := hl; exact ⟨a, c, h⟩
  have hst := hok.start h.things.sorted hsm
  refine callM_V (args := [.pointer (some ⟨B, 0, none⟩), .slice la l.length lc]) Tryz.func53 rfl Tryz.ntmps53 rfl (rs := [(.tmp 4)]) rfl ?_
  push_cast (disch := omega)
  repeat refine V_seq (x := .seq _ _) ?_
  first | refine VR [0, 1] (by kernel_rfl) ?_ | refine VR1 [0, 1] (by kernel_rfl) ?_
  push_cast (disch := omega)
  repeat refine And.intro (by omega) ?_
  repeat refine V_seq (x := .seq _ _) ?_
  first | refine VD [1, 5] [(true, 0), (true, 2), (true, 3), (true, 4), (true, 5), (true, 7), (true, 8), (true, 9), (true, 10), (true, 11), (false, 1), (false, 6), (true, 12), (false, 13), (true, 14)] (by kernel_rfl) (N := [5, 10, 11]) (by kernel_rfl) Tryz.mixed (fun _ _ _ h => h) ?_ | refine VD1 [1, 5] [(true, 0), (true, 2), (true, 3), (true, 4), (true, 5), (true, 7), (true, 8), (true, 9), (true, 10), (true, 11), (false, 1), (false, 6), (true, 12), (false, 13), (true, 14)] (by kernel_rfl) (N := [5, 10, 11]) (by kernel_rfl) Tryz.mixed (fun _ _ _ h => h) ?_
  intro w1 hh1 hu1
  push_cast (disch := omega) [hh1, hc]
  repeat refine And.intro (by omega) ?_
  refine callM_of (bfree_any w1 B p f m M tv s pl (h.up hu1) (hp.up hu1) (hok.len h.things.sorted).2) ?_
  rintro v2 w2 ⟨ho2, hu2⟩
  refine And.intro (up_ok hu2) ?_
  obtain ⟨fa, fc, rfl, hfc⟩ := ownsRow_cap ho2
  push_cast (disch := omega)
  repeat refine And.intro (by omega) ?_
  have hu02 := hu1.trans hu2
  refine callM_of (mclone_any w2 M s.kv (h.things.up hu02)) ?_
  rintro _ w3 ⟨rfl, hth3, hu3⟩
  push_cast (disch := omega)
  repeat refine And.intro (by omega) ?_
  have hM3 : w2.heap.size < w3.heap.size := by obtain ⟨es, c, h⟩ := hth3.block; exact lt_of_get h
  refine And.intro (up_ok (hu2.trans hu3)) ?_
  push_cast (disch := omega)
  repeat refine And.intro (by omega) ?_
  refine fun d w4 hb4 hs4 hu4 hg4 => ?_
  push_cast (disch := omega)
  repeat refine And.intro (by omega) ?_
  refine And.intro (up_ok ((hu2.trans hu3).trans hu4)) ?_
  push_cast (disch := omega)
  repeat refine And.intro (by omega) ?_
  have hu04 := (hu02.trans hu3).trans hu4
  have hD4 : DrAt w w4 d w2.heap.size (.slice fa (s.free pl.fixed.length).length fc) (.slice none 0 0) (.slice none 0 0) (s.start pl.fixed.length) :=
    ⟨hg4, (SlOf.of_own ho2).up (hu3.trans hu4), ⟨fa, fc, rfl, hfc⟩, World.ownsRow_nil _ _ _ _, SlOf.nil _ _ _, hth3.up hu4, ⟨by have := hu02.size; have := hu3.size; omega, by have := hu02.size; omega⟩, hu04⟩
  repeat refine V_seq (x := .seq _ _) ?_
  first | refine VR [5, 22, 23, 24] (by kernel_rfl) ?_ | refine VR1 [5, 22, 23, 24] (by kernel_rfl) ?_
  push_cast (disch := omega)
  repeat refine And.intro (by omega) ?_
  obtain ⟨Mn, hMn⟩ : ∃ m, m = w2.heap.size := ⟨_, rfl⟩
  rw [← hMn] at hD4
  have hfold : ∀ i, ((l.take i).foldl DrS.step (s.start pl.fixed.length)).ok := fun i => foldl_ok hst (fun c hc => hl2 c (List.mem_of_mem_take hc))
  repeat refine V_seq (x := .seq _ _) ?_
  first | refine V_seq (V_block ?_) | refine V_block ?_
  repeat refine V_seq (x := .seq _ _) ?_
  first | refine V_seq (V_loopE (ι := Nat) [5, 22, 23, 24] (fun i => [(5, .pointer (some ⟨d, 0, none⟩)), (22, .slice la l.length lc), (23, .int .i64 l.length), (24, .int .i64 i)]) (fun i => fun w' => i ≤ l.length ∧ ∃ fv pv, DrAt w w' d Mn fv pv (.slice none 0 0) ((l.take i).foldl DrS.step (s.start pl.fixed.length))) (fun i => l.length - i) (0) (by first | (push_cast; rfl) | (push_cast; done)) (⟨Nat.zero_le _, _, _, hD4⟩) ?_) | refine V_loopE (ι := Nat) [5, 22, 23, 24] (fun i => [(5, .pointer (some ⟨d, 0, none⟩)), (22, .slice la l.length lc), (23, .int .i64 l.length), (24, .int .i64 i)]) (fun i => fun w' => i ≤ l.length ∧ ∃ fv pv, DrAt w w' d Mn fv pv (.slice none 0 0) ((l.take i).foldl DrS.step (s.start pl.fixed.length))) (fun i => l.length - i) (0) (by first | (push_cast; rfl) | (push_cast; done)) (⟨Nat.zero_le _, _, _, hD4⟩) ?_
  rintro i wl hI
  obtain ⟨hi, fv, pv, hD⟩ := hI
  repeat refine V_seq (x := .seq _ _) ?_
  first | refine VR [5, 22, 23, 24, 25] (by kernel_rfl) ?_ | refine VR1 [5, 22, 23, 24, 25] (by kernel_rfl) ?_
  push_cast (disch := omega)
  repeat refine And.intro (by omega) ?_
  repeat refine V_seq (x := .seq _ _) ?_
  first | refine V_seq (V_ifd rfl (fun hlt0 => ?_) (fun hlt0 => ?_)) | refine V_ifd rfl (fun hlt0 => ?_) (fun hlt0 => ?_)
  · first | refine V_seq (V_skip ?_) | refine V_skip ?_
    push_cast (disch := omega)
    have hlt : i < l.length := by omega
    obtain ⟨b0, o0, c0, cs, T, fr, hpv, hb0, hle, htk⟩ := hl.some (by omega)
    injection hpv with hpa _ hpc
    subst hpa hpc
    have hx := ext_of_take htk (i * 3) 3 (by omega)
    rw [chV_get hlt] at hx
    have htk1 : l.take (i + 1) = l.take i ++ [l[i]] := List.take_succ_eq_append_getElem hlt
    have hr := hl2 l[i] (List.getElem_mem hlt)
    have hok' := hfold i
    have hstep : (l.take (i + 1)).foldl DrS.step (s.start pl.fixed.length) = ((l.take i).foldl DrS.step (s.start pl.fixed.length)).step l[i] := by rw [htk1, List.foldl_append]; rfl
    generalize hcc : l[i] = c at *
    generalize (l.take i).foldl DrS.step (s.start pl.fixed.length) = D at *
    repeat refine V_seq (x := .seq _ _) ?_
    first | refine V_seq (V_block ?_) | refine V_block ?_
    repeat refine V_seq (x := .seq _ _) ?_
    first | refine VR [5, 7, 22, 23, 24] (by kernel_rfl) ?_ | refine VR1 [5, 7, 22, 23, 24] (by kernel_rfl) ?_
    push_cast (disch := omega) [Up.get hD.up hb0, hx]
    repeat refine And.intro (by omega) ?_
    refine fun b5 w5 hb5 hs5 hu5 hg5 => ?_
    push_cast (disch := omega)
    repeat refine And.intro (by omega) ?_
    push_cast (disch := omega) [hg5]
    repeat refine And.intro (by omega) ?_
    refine fun w6 hs6 hx6 hg6 => ?_
    push_cast (disch := omega)
    repeat refine And.intro (by omega) ?_
    have hu6 : Up wl w6 := Up.write hu5 hx6 (by omega)
    have hD6 := hD.over hu6
    have hc6 := hD6.cell
    repeat refine V_seq (x := .seq _ _) ?_
    first | refine VR [5, 7, 22, 23, 24, 29] (by kernel_rfl) ?_ | refine VR1 [5, 7, 22, 23, 24, 29] (by kernel_rfl) ?_
    push_cast (disch := omega) [hg6]
    repeat refine And.intro (by omega) ?_
    cases hgo : c.gone with
    | true =>
      rw [hgo] at hg6
      repeat refine V_seq (x := .seq _ _) ?_
      first | refine V_seq (V_ift rfl ?_) | refine V_ift rfl ?_
      repeat refine V_seq (x := .seq _ _) ?_
      first | refine VD [5, 22, 23, 24] [(true, 0), (true, 1), (true, 2), (true, 3), (true, 4), (true, 5), (false, 6)] (by kernel_rfl) (N := [3, 5]) (by kernel_rfl) Tryz.mixed (fun _ _ _ h => h) ?_ | refine VD1 [5, 22, 23, 24] [(true, 0), (true, 1), (true, 2), (true, 3), (true, 4), (true, 5), (false, 6)] (by kernel_rfl) (N := [3, 5]) (by kernel_rfl) Tryz.mixed (fun _ _ _ h => h) ?_
      intro w7 hh7 hu7
      push_cast (disch := omega) [hh7, hc6, hg6]
      repeat refine And.intro (by omega) ?_
      have hD7 := hD6.over hu7
      obtain ⟨⟨es, clock, hm, hv⟩, hsrt⟩ := hD7.things
      refine delMM hm und_mt und_int ?_
      rintro w8 hs8 hx8 hm8
      have hD8 := hD7.remap hx8 (th_del (clock := clock) hv hsrt hm8 hx8 ⟨_, _, hm.cell⟩)
      refine And.intro (ob_no (by kernel_rfl)) ?_
      push_cast (disch := omega)
      repeat refine And.intro (by omega) ?_
      first | refine V_seq (V_exit ?_) | refine V_exit ?_
      push_cast (disch := omega)
      repeat refine V_seq (x := .seq _ _) ?_
      first | refine VR [5, 22, 23, 24] (by kernel_rfl) ?_ | refine VR1 [5, 22, 23, 24] (by kernel_rfl) ?_
      push_cast (disch := omega)
      repeat refine And.intro (by omega) ?_
      refine ⟨i + 1, ?_, ?_, (by dsimp only; omega)⟩ <;> dsimp only
      · push_cast
      · refine ⟨by omega, fv, pv, ?_⟩
        rw [hstep, DrS.step, if_pos hgo]
        exact hD8
    | false =>
      rw [hgo] at hg6
      repeat refine V_seq (x := .seq _ _) ?_
      first | refine V_seq (V_iff rfl ?_) | refine V_iff rfl ?_
      first | refine V_seq (V_skip ?_) | refine V_skip ?_
      push_cast (disch := omega)
      repeat refine V_seq (x := .seq _ _) ?_
      first | refine VDG [5, 22, 23, 24] [(true, 0), (true, 1), (true, 2), (true, 3), (true, 4), (true, 5), (true, 6), (true, 7), (true, 8), (true, 9), (true, 10), (true, 11), (false, 12), (true, 13), (false, 14)] (by kernel_rfl) (N := [3, 5, 7, 8, 11]) (by kernel_rfl) Tryz.mixed (fun _ _ _ h => h) ?_ | refine VDG1 [5, 22, 23, 24] [(true, 0), (true, 1), (true, 2), (true, 3), (true, 4), (true, 5), (true, 6), (true, 7), (true, 8), (true, 9), (true, 10), (true, 11), (false, 12), (true, 13), (false, 14)] (by kernel_rfl) (N := [3, 5, 7, 8, 11]) (by kernel_rfl) Tryz.mixed (fun _ _ _ h => h) ?_
      intro w7 hh7 hu7
      refine ⟨fun w' => w'.heap[b5]? = some (.cells #[.int .i64 c.key, .string c.bytes, .bool false] 32 (0, 0)) ∧ ∃ fv' pv' fu', w'.heap[d]? = some (.cells #[fv', .map (some Mn), pv', .slice none 0 0, .bool fu'] 106 (0, 0)), ⟨by rw [hh7]; exact hg6, fv, pv, D.full, by rw [hh7]; exact hc6⟩, ?_⟩
      push_cast (disch := omega)
      repeat refine And.intro (by omega) ?_
      refine someV_intro (.map (some Mn)) ?_ ?_
      · (rintro w' ⟨hb, fv', pv', fu', hd⟩; push_cast [hd])
      push_cast (disch := omega)
      repeat refine And.intro (by omega) ?_
      refine someV_intro (.int .i64 c.key) ?_ ?_
      · (rintro w' ⟨hb, fv', pv', fu', hd⟩; push_cast [hb])
      push_cast (disch := omega)
      repeat refine And.intro (by omega) ?_
      refine someV_intro (.string c.bytes) ?_ ?_
      · (rintro w' ⟨hb, fv', pv', fu', hd⟩; push_cast [hb])
      push_cast (disch := omega)
      repeat refine And.intro (by omega) ?_
      refine someV_intro (.int .i64 c.bytes.size) ?_ ?_
      · (rintro w' ⟨hb, fv', pv', fu', hd⟩; push_cast [hb])
      push_cast (disch := omega)
      repeat refine And.intro (by omega) ?_
      refine someV_intro (.string c.bytes) ?_ ?_
      · (rintro w' ⟨hb, fv', pv', fu', hd⟩; push_cast [hb])
      push_cast (disch := omega)
      repeat refine And.intro (by omega) ?_
      have hD7 := hD6.over hu7
      have hc7 : w7.heap[b5]? = _ := Up.get hu7 hg6
      refine callM_of (dlay_dr hD7 hok' c.bytes (by omega)) ?_
      rintro v8 w8 ⟨fv8, pv8, hD8, ho8, hkeep⟩
      refine And.intro (up_ok ⟨hkeep _ _ _ hc7 (by decide) (by decide), fv8, pv8, _, hD8.cell⟩) ?_
      obtain ⟨oa, oc, rfl⟩ : ∃ a z, v8 = .slice a (D.out c.bytes).length z := by obtain ⟨_, a, c, h, _⟩ := ho8; exact ⟨a, c, h⟩
      push_cast (disch := omega)
      repeat refine And.intro (by omega) ?_
      obtain ⟨⟨es, clock, hm, hv⟩, hsrt⟩ := hD8.things
      refine updM hm und_mt und_int ?_
      rintro w9 clock' hs9 hx9 hm9
      have hD9 := hD8.remap hx9 (th_put (clock := clock) (x := (c.bytes.size, D.out c.bytes)) hv hsrt hm9 hx9 ⟨_, _, hm.cell⟩ ⟨_, rfl, ho8⟩)
      refine And.intro (ob_no (by kernel_rfl)) ?_
      push_cast (disch := omega)
      repeat refine And.intro (by omega) ?_
      repeat refine V_seq (x := .seq _ _) ?_
      first | refine VR [5, 22, 23, 24] (by kernel_rfl) ?_ | refine VR1 [5, 22, 23, 24] (by kernel_rfl) ?_
      push_cast (disch := omega)
      repeat refine And.intro (by omega) ?_
      refine ⟨i + 1, ?_, ?_, (by dsimp only; omega)⟩ <;> dsimp only
      · push_cast
      · refine ⟨by omega, fv8, pv8, ?_⟩
        rw [hstep, DrS.step, if_neg (by simp [hgo])]
        exact hD9
  · first | refine V_seq (V_exit ?_) | refine V_exit ?_
    push_cast (disch := omega)
    obtain rfl : i = l.length := by omega
    rw [List.take_length] at hD
    have hok' := hfold l.length
    rw [List.take_length] at hok'
    unfold BnS.plan
    generalize l.foldl DrS.step (s.start pl.fixed.length) = D at *
    have hlen := hok'.len
    have hfl := flat_len (c := 12) (fun x hx => (hok'.kv x hx).2.2.1)
    have htl := textL_len D.kv
    repeat refine V_seq (x := .seq _ _) ?_
    first | refine VR [5] (by kernel_rfl) ?_ | refine VR1 [5] (by kernel_rfl) ?_
    push_cast (disch := omega)
    repeat refine And.intro (by omega) ?_
    refine callM_of (dtext_any wl d Mn fv pv (.slice none 0 0) D.full D.kv hD.cell hD.things hok'.kv hlen) ?_
    rintro _ w5 ⟨rfl, hu5⟩
    push_cast (disch := omega)
    repeat refine And.intro (by omega) ?_
    have hD5 := hD.over hu5
    refine callM_of (dlay_dr hD5 hok' D.text (by unfold DrS.text; simp [ByteArray.size]; omega)) ?_
    rintro v6 w6 ⟨fv6, pv6, hD6, ho6, _⟩
    push_cast (disch := omega)
    repeat refine And.intro (by omega) ?_
    obtain ⟨oa, oc, rfl⟩ : ∃ a c, v6 = .slice a (D.out D.text).length c := by obtain ⟨_, a, c, h, _⟩ := ho6; exact ⟨a, c, h⟩
    have hc6 := hD6.cell
    push_cast (disch := omega) [hc6]
    repeat refine And.intro (by omega) ?_
    refine fun w7 hs7 hx7 hg7 => ?_
    push_cast (disch := omega)
    repeat refine And.intro (by omega) ?_
    have hnS : ∀ (g : Nat) (cs : Array Value), w6.heap[g]? = some (.cells cs 3 (0, 0)) → ¬ g = d := fun g cs h' e => cells_ne h' hc6 (by decide) e
    obtain ⟨es6, c6, hM6⟩ := hD6.things.block
    have hnM : ¬ Mn = d := map_ne hM6 hc6
    have hf7 := hD6.free.over hx7 (fun g hg e => by obtain ⟨cs, h'⟩ := hD6.free.block hg; exact hnS _ _ h' e)
    have hp7 := hD6.pages.over hx7 (fun g hg e => (SlOf.of_own hD6.pages).ne hg hc6 (by decide) e)
    have ht7 := ho6.over hx7 (fun g hg e => by obtain ⟨cs, h'⟩ := ho6.block hg; exact hnS _ _ h' e)
    have hth7 := hD6.things.over hx7 hnM (fun g cs h' e => hnS g cs h' e)
    have hu7 : Up w w7 := hD6.up.write hx7 hD6.new.1
    have hfin : ∀ b w9, (b = ((D.lay D.text).full || decide ((D.out D.text).length > 11))) → Ux d w7 w9 → w9.heap[d]? = some (.cells #[fv6, .map (some Mn), pv6, .slice oa (D.out D.text).length oc, .bool b] 106 (0, 0)) → DrAt w w9 d Mn fv6 pv6 (.slice oa (D.out D.text).length oc) D.done := by
      intro b w9 hb hx9 hg9
      subst hb
      have hnS9 : ∀ (g : Nat) (cs : Array Value), w7.heap[g]? = some (.cells cs 3 (0, 0)) → ¬ g = d := fun g cs h' e => cells_ne h' hg7 (by decide) e
      have hM7 := Kp.get hx7 hM6 hnM
      exact ⟨hg9, hf7.over hx9 (fun g hg e => by obtain ⟨cs, h'⟩ := hf7.block hg; exact hnS9 _ _ h' e), hD6.cap, hp7.over hx9 (fun g hg e => (SlOf.of_own hp7).ne hg hg7 (by decide) e), ht7.over hx9 (fun g hg e => by obtain ⟨cs, h'⟩ := ht7.block hg; exact hnS9 _ _ h' e), hth7.over hx9 hnM (fun g cs h' e => hnS9 g cs h' e), hD6.new, hu7.write hx9 hD6.new.1⟩
    cases hfu : (D.lay D.text).full with
    | true =>
      rw [hfu] at hg7
      repeat refine V_seq (x := .seq _ _) ?_
      first | refine VR [5] (by kernel_rfl) ?_ | refine VR1 [5] (by kernel_rfl) ?_
      push_cast (disch := omega) [hg7]
      repeat refine And.intro (by omega) ?_
      refine fun w8 hs8 hx8 hg8 => ?_
      push_cast (disch := omega)
      repeat refine And.intro (by omega) ?_
      repeat refine V_seq (x := .seq _ _) ?_
      first | refine VR [4] (by kernel_rfl) ?_ | refine VR1 [4] (by kernel_rfl) ?_
      push_cast (disch := omega)
      repeat refine And.intro (by omega) ?_
      first | refine V_seq (V_ret ?_) | refine V_ret ?_
      push_cast (disch := omega)
      exact ⟨d, Mn, fv6, pv6, _, rfl, hfin true w8 (by rw [hfu]; rfl) hx8 hg8⟩
    | false =>
      rw [hfu] at hg7
      repeat refine V_seq (x := .seq _ _) ?_
      first | refine VR [5] (by kernel_rfl) ?_ | refine VR1 [5] (by kernel_rfl) ?_
      push_cast (disch := omega) [hg7]
      repeat refine And.intro (by omega) ?_
      refine fun w8 hs8 hx8 hg8 => ?_
      push_cast (disch := omega)
      repeat refine And.intro (by omega) ?_
      repeat refine V_seq (x := .seq _ _) ?_
      first | refine VR [4] (by kernel_rfl) ?_ | refine VR1 [4] (by kernel_rfl) ?_
      push_cast (disch := omega)
      repeat refine And.intro (by omega) ?_
      first | refine V_seq (V_ret ?_) | refine V_ret ?_
      push_cast (disch := omega)
      refine ⟨d, Mn, fv6, pv6, _, rfl, hfin _ w8 ?_ hx8 hg8⟩
      rw [hfu, Bool.false_or]
      by_cases h11 : (D.out D.text).length > 11
      · rw [decide_eq_true h11, decide_eq_true (by omega)]
      · rw [decide_eq_false h11, decide_eq_false (by omega)]
end Go.Proofs
namespace Go.Proofs
open Go Go.Vc Go.RowKit Go.Lib
set_option maxRecDepth 100000
set_option linter.unusedVariables false
set_option linter.unusedSimpArgs false
def PlS.lays (s : PlS) (l : List (Int × ByteArray)) : PlS := l.foldl (fun s x => s.lay x.1 x.2) s
/-- What a commit writes. -/
def PlS.write (s : PlS) (pages : List (Int × ByteArray)) (gen : Int) (table : List Int) : PlS := (((s.lays pages).fix).lay (gen % 2) (slotR gen table).1).fix
theorem lays_keep (l : List (Int × ByteArray)) : ∀ s : PlS, (s.lays l).fixed = s.fixed ∧ (s.lays l).off = s.off ∧ (s.lays l).sn = s.sn := by
  induction l with
  | nil => intro s; exact ⟨rfl, rfl, rfl⟩
  | cons x l ih =>
    intro s
    obtain ⟨h1, h2, h3⟩ := ih (s.lay x.1 x.2)
    exact ⟨h1, h2, h3⟩
theorem fix_keep (s : PlS) : s.fix.fixed.length = s.fixed.length ∧ s.fix.off = s.off ∧ s.fix.sn = s.sn := ⟨by simp [PlS.fix], rfl, rfl⟩
theorem pgV_get {l : List (Int × ByteArray)} {i : Nat} (h : i < l.length) : ((pgV l).drop (i * 2)).take 2 = [.int .i64 l[i].1, .string l[i].2] := by
  induction l generalizing i with
  | nil => simp at h
  | cons c l ih =>
    cases i with
    | zero => rfl
    | succ i =>
      have e : (i + 1) * 2 = i * 2 + 1 + 1 := by omega
      rw [e]
      exact ih (by simpa using h)
theorem slotR_ok {gen : Int} {l : List Int} (hg : 1 ≤ gen ∧ gen ≤ 1000000000) (hl : l.length ≤ 11) (hk : ∀ k ∈ l, 2 ≤ k ∧ k < 250) : slotR gen l = (pageB ⟨(slotL gen l).toArray⟩, 0) ∧ (slotR gen l).1.size = 32 := by
  have e : slotR gen l = (pageB ⟨(slotL gen l).toArray⟩, 0) := by
    unfold slotR
    rw [if_neg (by omega), if_pos (List.all_eq_true.2 fun k h => by simpa using hk k h)]
  refine ⟨e, ?_⟩
  rw [e]
  unfold pageB
  rw [sealB_size, ByteArray.size_append, zerosB_size]
  have : (⟨(slotL gen l).toArray⟩ : ByteArray).size = 6 + l.length := by
    show (List.toArray _).size = _
    rw [List.size_toArray]
    unfold slotL
    simp only [List.length_append, flat1_len, numB_len]
  omega
theorem PlateAt.cells {w : World} {p f m : Nat} {s : PlS} (h : PlateAt w p f m s) : (∃ cs, w.heap[p]? = some (.cells cs 86 (0, 0))) ∧ (∃ cs, w.heap[f]? = some (.cells cs 9 (0, 0))) ∧ ∃ es c, w.heap[m]? = some (.map es c) := by
  obtain ⟨l, c, hm, _⟩ := h.map
  exact ⟨⟨_, h.cell⟩, ⟨_, h.fix⟩, ⟨_, _, hm.cell⟩⟩
/-- What is no plate's block. -/
theorem PlateAt.no {w : World} {p f m : Nat} {s : PlS} (h : PlateAt w p f m s) {b T : Nat} {cs : Array Value} {fr : Nat × Nat} (hb : w.heap[b]? = some (.cells cs T fr)) (h1 : T ≠ 86) (h2 : T ≠ 9) : b ≠ p ∧ b ≠ f ∧ b ≠ m := by
  obtain ⟨⟨c1, hp⟩, ⟨c2, hf⟩, es, c, hm⟩ := h.cells
  exact ⟨cells_ne hb hp h1, cells_ne hb hf h2, fun e => map_ne hm hb e.symm⟩
theorem bwrite_ok (w0 w : World) (B p f m M d M' : Nat) (tv0 fv pv tv : Value) (s : BnS) (pl : PlS) (D : DrS) (h : BnAt w B p M tv0 s) (hp : PlateAt w p f m pl) (hD : DrAt w0 w d M' fv pv tv D) (hsn : pl.sn = false) (hoff : pl.off = false)
    (hpg : ∀ x ∈ D.pages, (0 ≤ x.1 ∧ x.1 < pl.fixed.length) ∧ x.2.size = 32) (hpl : D.pages.length ≤ 1000) (hgen : 0 ≤ s.gen ∧ s.gen < 1000000000) (htl : D.table.length ≤ 11) (htk : ∀ k ∈ D.table, 2 ≤ k ∧ k < 250) (h2 : 2 ≤ pl.fixed.length) :
    CallM Tryz.prog 54 #[.pointer (some ⟨B, 0, none⟩), .pointer (some ⟨d, 0, none⟩)] w fun v w' => v = .int .i64 0 ∧ ∃ m', PlateAt w' p f m' (pl.write D.pages (s.gen + 1) D.table) ∧ w.heap.size ≤ m' ∧ Kp (fun i => i = p ∨ i = f ∨ i = m) w w' := by
  have hc := h.cell
  have hcd := hD.cell
  have hP := SlOf.of_own hD.pages
  obtain ⟨pa, pc, rfl⟩ := hD.pages.shape
  refine callM_V (args := [.pointer (some ⟨B, 0, none⟩), .pointer (some ⟨d, 0, none⟩)]) Tryz.func54 rfl Tryz.ntmps54 rfl (rs := [(.tmp 4)]) rfl ?_
  push_cast (disch := omega)
  repeat refine V_seq (x := .seq _ _) ?_
  first | refine VR [0, 1] (by kernel_rfl) ?_ | refine VR1 [0, 1] (by kernel_rfl) ?_
  push_cast (disch := omega)
  repeat refine And.intro (by omega) ?_
  repeat refine V_seq (x := .seq _ _) ?_
  first | refine VR [0, 1, 16, 17, 18] (by kernel_rfl) ?_ | refine VR1 [0, 1, 16, 17, 18] (by kernel_rfl) ?_
  push_cast (disch := omega) [hcd]
  repeat refine And.intro (by omega) ?_
  repeat refine V_seq (x := .seq _ _) ?_
  first | refine V_seq (V_block ?_) | refine V_block ?_
  repeat refine V_seq (x := .seq _ _) ?_
  first | refine V_seq (V_loopE (ι := Nat) [0, 1, 16, 17, 18] (fun i => [(0, .pointer (some ⟨B, 0, none⟩)), (1, .pointer (some ⟨d, 0, none⟩)), (16, .slice pa D.pages.length pc), (17, .int .i64 D.pages.length), (18, .int .i64 i)]) (fun i => fun w' => i ≤ D.pages.length ∧ PlateAt w' p f m (pl.lays (D.pages.take i)) ∧ Kp (fun i => i = p ∨ i = f ∨ i = m) w w') (fun i => D.pages.length - i) (0) (by first | (push_cast; rfl) | (push_cast; done)) (⟨Nat.zero_le _, hp, Kp.refl _ _⟩) ?_) | refine V_loopE (ι := Nat) [0, 1, 16, 17, 18] (fun i => [(0, .pointer (some ⟨B, 0, none⟩)), (1, .pointer (some ⟨d, 0, none⟩)), (16, .slice pa D.pages.length pc), (17, .int .i64 D.pages.length), (18, .int .i64 i)]) (fun i => fun w' => i ≤ D.pages.length ∧ PlateAt w' p f m (pl.lays (D.pages.take i)) ∧ Kp (fun i => i = p ∨ i = f ∨ i = m) w w') (fun i => D.pages.length - i) (0) (by first | (push_cast; rfl) | (push_cast; done)) (⟨Nat.zero_le _, hp, Kp.refl _ _⟩) ?_
  rintro i wl hI
  obtain ⟨hi, hpi, hK⟩ := hI
  obtain ⟨lk1, lk2, lk3⟩ := lays_keep (D.pages.take i) pl
  have hcw : wl.heap[B]? = _ := Kp.get hK hc (by rintro (e | e | e) <;> have := hp.no hc (by decide) (by decide) <;> omega)
  have hcdw : wl.heap[d]? = _ := Kp.get hK hcd (by rintro (e | e | e) <;> have := hp.no hcd (by decide) (by decide) <;> omega)
  have hPw := hP.over hK (fun g hg e => by obtain ⟨cs, h'⟩ := hP.block hg; have := hp.no h' (by decide) (by decide); rcases e with e | e | e <;> omega)
  have htw := hD.table.over hK (fun g hg e => by obtain ⟨cs, h'⟩ := hD.table.block hg; have := hp.no h' (by decide) (by decide); rcases e with e | e | e <;> omega)
  have hBlt := lt_of_get hc
  repeat refine V_seq (x := .seq _ _) ?_
  first | refine VR [0, 1, 16, 17, 18, 19] (by kernel_rfl) ?_ | refine VR1 [0, 1, 16, 17, 18, 19] (by kernel_rfl) ?_
  push_cast (disch := omega)
  repeat refine And.intro (by omega) ?_
  repeat refine V_seq (x := .seq _ _) ?_
  first | refine V_seq (V_ifd rfl (fun hlt0 => ?_) (fun hlt0 => ?_)) | refine V_ifd rfl (fun hlt0 => ?_) (fun hlt0 => ?_)
  · first | refine V_seq (V_skip ?_) | refine V_skip ?_
    push_cast (disch := omega)
    have hlt : i < D.pages.length := by omega
    obtain ⟨b0, o0, c0, cs, T, fr, hpv, hb0, hle, htk'⟩ := hPw.r.some (by omega)
    injection hpv with hpa _ hpc
    subst hpa hpc
    have hx := ext_of_take htk' (i * 2) 2 (by omega)
    rw [pgV_get hlt] at hx
    have htk1 : D.pages.take (i + 1) = D.pages.take i ++ [D.pages[i]] := List.take_succ_eq_append_getElem hlt
    obtain ⟨hr1, hr2⟩ := hpg D.pages[i] (List.getElem_mem hlt)
    generalize hcc : D.pages[i] = x at *
    obtain ⟨k, b⟩ := x
    dsimp only at hr1 hr2 hx
    repeat refine V_seq (x := .seq _ _) ?_
    first | refine V_seq (V_block ?_) | refine V_block ?_
    repeat refine V_seq (x := .seq _ _) ?_
    first | refine VR [0, 1, 6, 16, 17, 18] (by kernel_rfl) ?_ | refine VR1 [0, 1, 6, 16, 17, 18] (by kernel_rfl) ?_
    push_cast (disch := omega) [hb0, hx]
    repeat refine And.intro (by omega) ?_
    refine fun b5 w5 hb5 hs5 hu5 hg5 => ?_
    push_cast (disch := omega)
    repeat refine And.intro (by omega) ?_
    push_cast (disch := omega) [hg5]
    repeat refine And.intro (by omega) ?_
    refine fun w6 hs6 hx6 hg6 => ?_
    push_cast (disch := omega)
    repeat refine And.intro (by omega) ?_
    have hu6 : Up wl w6 := Up.write hu5 hx6 (by omega)
    repeat refine V_seq (x := .seq _ _) ?_
    first | refine VD [0, 1, 7, 16, 17, 18] [(true, 0), (true, 1), (true, 2), (true, 3), (true, 4), (true, 5), (true, 6), (true, 7), (false, 8), (true, 9)] (by kernel_rfl) (N := [3, 5, 7]) (by kernel_rfl) Tryz.mixed (fun _ _ _ h => h) ?_ | refine VD1 [0, 1, 7, 16, 17, 18] [(true, 0), (true, 1), (true, 2), (true, 3), (true, 4), (true, 5), (true, 6), (true, 7), (false, 8), (true, 9)] (by kernel_rfl) (N := [3, 5, 7]) (by kernel_rfl) Tryz.mixed (fun _ _ _ h => h) ?_
    intro w7 hh7 hu7
    push_cast (disch := omega) [hh7, Up.get hu6 hcw, hg6]
    repeat refine And.intro (by omega) ?_
    have hu67 := hu6.trans hu7
    refine callM_of (play_ok w7 p f m _ k b (hpi.up hu67) (lk3.trans hsn) (lk2.trans hoff) (by rw [lk1]; exact hr1) hr2) ?_
    rintro _ w8 ⟨rfl, hp8, hk8⟩
    refine And.intro (ob_no (by kernel_rfl)) ?_
    push_cast (disch := omega)
    repeat refine And.intro (by omega) ?_
    push_cast (disch := omega)
    repeat refine And.intro (by omega) ?_
    repeat refine V_seq (x := .seq _ _) ?_
    first | refine VR [0, 1, 7, 16, 17, 18, 32] (by kernel_rfl) ?_ | refine VR1 [0, 1, 7, 16, 17, 18, 32] (by kernel_rfl) ?_
    push_cast (disch := omega)
    repeat refine And.intro (by omega) ?_
    repeat refine V_seq (x := .seq _ _) ?_
    first | refine V_seq (V_iff rfl ?_) | refine V_iff rfl ?_
    first | refine V_seq (V_skip ?_) | refine V_skip ?_
    push_cast (disch := omega)
    repeat refine V_seq (x := .seq _ _) ?_
    first | refine VR [0, 1, 16, 17, 18] (by kernel_rfl) ?_ | refine VR1 [0, 1, 16, 17, 18] (by kernel_rfl) ?_
    push_cast (disch := omega)
    repeat refine And.intro (by omega) ?_
    refine ⟨i + 1, ?_, ?_, (by dsimp only; omega)⟩ <;> dsimp only
    · push_cast
    · refine ⟨by omega, ?_, ?_⟩
      · rw [htk1, PlS.lays, List.foldl_append]; exact hp8
      · exact (hK.within hu67).step hk8 (fun i _ e => by rcases e with e | e; exact .inl e; exact .inr (.inr e))
  · first | refine V_seq (V_exit ?_) | refine V_exit ?_
    push_cast (disch := omega)
    obtain rfl : i = D.pages.length := by omega
    rw [List.take_length] at *
    repeat refine V_seq (x := .seq _ _) ?_
    first | refine VR [0, 1, 8] (by kernel_rfl) ?_ | refine VR1 [0, 1, 8] (by kernel_rfl) ?_
    push_cast (disch := omega) [hcw]
    repeat refine And.intro (by omega) ?_
    refine callM_of (pfix_ok wl p f m _ hpi (lk3.trans hsn) (lk2.trans hoff)) ?_
    rintro _ w5 ⟨rfl, m5, hp5, hm5, hk5⟩
    push_cast (disch := omega)
    repeat refine And.intro (by omega) ?_
    obtain ⟨fk1, fk2, fk3⟩ := fix_keep (pl.lays D.pages)
    repeat refine V_seq (x := .seq _ _) ?_
    first | refine VR [0, 1, 8, 41] (by kernel_rfl) ?_ | refine VR1 [0, 1, 8, 41] (by kernel_rfl) ?_
    push_cast (disch := omega)
    repeat refine And.intro (by omega) ?_
    repeat refine V_seq (x := .seq _ _) ?_
    first | refine V_seq (V_iff rfl ?_) | refine V_iff rfl ?_
    first | refine V_seq (V_skip ?_) | refine V_skip ?_
    push_cast (disch := omega)
    have hno := hp.no hc (by decide) (by decide)
    have hc5 := Kp.get hk5 hcw (by rintro (e | e) <;> omega)
    have hnod := hp.no hcd (by decide) (by decide)
    have hcd5 := Kp.get hk5 hcdw (by rintro (e | e) <;> omega)
    have ht5 := htw.over hk5 (fun g hg e => by obtain ⟨cs, h'⟩ := hD.table.block hg; have := hp.no h' (by decide) (by decide); rcases e with e | e <;> omega)
    repeat refine V_seq (x := .seq _ _) ?_
    first | refine VR [0, 1, 9] (by kernel_rfl) ?_ | refine VR1 [0, 1, 9] (by kernel_rfl) ?_
    push_cast (disch := omega) [hc5]
    repeat refine And.intro (by omega) ?_
    repeat refine V_seq (x := .seq _ _) ?_
    first | refine VR [0, 9, 10] (by kernel_rfl) ?_ | refine VR1 [0, 9, 10] (by kernel_rfl) ?_
    push_cast (disch := omega) [hcd5]
    repeat refine And.intro (by omega) ?_
    refine callM_of (slot_any (s.gen + 1) tv D.table w5 ht5.r (by omega)) ?_
    rintro _ w6 ⟨rfl, hu6⟩
    push_cast (disch := omega)
    repeat refine And.intro (by omega) ?_
    obtain ⟨hs1, hs2⟩ := slotR_ok (gen := s.gen + 1) (l := D.table) (by omega) htl htk
    repeat refine V_seq (x := .seq _ _) ?_
    first | refine VR [0, 12] (by kernel_rfl) ?_ | refine VR1 [0, 12] (by kernel_rfl) ?_
    push_cast (disch := omega) [Up.get hu6 hc5]
    repeat refine And.intro (by omega) ?_
    refine callM_of (play_ok w6 p f m5 _ ((s.gen + 1) % 2) _ (hp5.up hu6) (fk3.trans (lk3.trans hsn)) (fk2.trans (lk2.trans hoff)) (by rw [fk1, lk1]; omega) hs2) ?_
    rintro _ w7 ⟨rfl, hp7, hk7⟩
    push_cast (disch := omega)
    repeat refine And.intro (by omega) ?_
    repeat refine V_seq (x := .seq _ _) ?_
    first | refine VR [0, 12, 66] (by kernel_rfl) ?_ | refine VR1 [0, 12, 66] (by kernel_rfl) ?_
    push_cast (disch := omega)
    repeat refine And.intro (by omega) ?_
    repeat refine V_seq (x := .seq _ _) ?_
    first | refine V_seq (V_iff rfl ?_) | refine V_iff rfl ?_
    first | refine V_seq (V_skip ?_) | refine V_skip ?_
    push_cast (disch := omega)
    have hlm : wl.heap.size ≤ m5 := hm5
    have hKl := hK.size
    have hc7 := Kp.get hk7 (Up.get hu6 hc5) (by rintro (e | e) <;> have := lt_of_get hc <;> omega)
    repeat refine V_seq (x := .seq _ _) ?_
    first | refine VR [4] (by kernel_rfl) ?_ | refine VR1 [4] (by kernel_rfl) ?_
    push_cast (disch := omega) [hc7]
    repeat refine And.intro (by omega) ?_
    refine callM_of (pfix_ok w7 p f m5 _ hp7 (fk3.trans (lk3.trans hsn)) (fk2.trans (lk2.trans hoff))) ?_
    rintro _ w8 ⟨rfl, m8, hp8, hm8, hk8⟩
    push_cast (disch := omega)
    repeat refine And.intro (by omega) ?_
    first | refine V_seq (V_ret ?_) | refine V_ret ?_
    push_cast (disch := omega)
    refine ⟨m8, hp8, (by have := hk7.size; have := hu6.size; have := hk5.size; omega), ?_⟩
    have h1 : Kp (fun i => i = p ∨ i = f ∨ i = m) w w5 := hK.step hk5 (fun i _ e => by rcases e with e | e; exact .inl e; exact .inr (.inl e))
    have h2' := h1.within hu6
    have h3 : Kp (fun i => i = p ∨ i = f ∨ i = m) w w7 := h2'.step hk7 (fun i hi e => by rcases e with e | e; exact .inl e; omega)
    exact h3.step hk8 (fun i _ e => by rcases e with e | e; exact .inl e; exact .inr (.inl e))
end Go.Proofs
namespace Go.Proofs
open Go Go.Vc Go.RowKit Go.Lib
set_option maxRecDepth 100000
set_option linter.unusedVariables false
set_option linter.unusedSimpArgs false
theorem layB_size {b : ByteArray} (h : b.size ≤ 27) : (layB b).size = 32 := by
  unfold layB pageB
  rw [sealB_size, ByteArray.size_append, zerosB_size, ByteArray.size_append, oneB_size]
  omega
/-- What a draft lays lies on pages that are there. -/
structure DrS.inn (n : Nat) (s : DrS) : Prop where
  free : ∀ k ∈ s.free, 2 ≤ k ∧ k < n
  pages : ∀ x ∈ s.pages, (2 ≤ x.1 ∧ x.1 < n) ∧ x.2.size = 32
theorem DrS.inn.lay {n : Nat} {s : DrS} (h : s.inn n) (b : ByteArray) : (s.lay b).inn n := by
  refine ⟨fun k hk => h.free k (List.mem_of_mem_drop hk), fun x hx => ?_⟩
  rcases List.mem_append.1 hx with hx | hx
  · exact h.pages x hx
  · obtain ⟨h1, h2⟩ := List.of_mem_zip (show (x.1, x.2) ∈ _ from hx)
    obtain ⟨y, hy, h3⟩ := List.mem_map.1 h2
    exact ⟨h.free _ h1, by rw [← h3]; exact layB_size (partsN_small _ _ y hy)⟩
theorem DrS.inn.step {n : Nat} {s : DrS} (h : s.inn n) (c : ChS) : (s.step c).inn n := by
  unfold DrS.step
  split
  · exact ⟨h.free, h.pages⟩
  · have := h.lay c.bytes
    exact ⟨this.free, this.pages⟩
theorem DrS.inn.foldl {n : Nat} {l : List ChS} {s : DrS} (h : s.inn n) : (l.foldl DrS.step s).inn n := by
  induction l generalizing s with
  | nil => exact h
  | cons c l ih => rw [List.foldl_cons]; exact ih (h.step c)
theorem BnS.start_inn (s : BnS) (n : Nat) : (s.start n).inn n := ⟨fun k hk => (mem_freeN.1 hk).1, fun x hx => by cases hx⟩
theorem DrS.step_full {s : DrS} {c : ChS} (h : (s.step c).full = false) : s.full = false := by
  unfold DrS.step at h
  split at h
  · exact h
  · have : (s.full || decide (s.free.length < (partsB c.bytes).length)) = false := h
    exact (Bool.or_eq_false_iff.1 this).1
theorem foldl_full {l : List ChS} {s : DrS} (h : (l.foldl DrS.step s).full = false) : s.full = false := by
  induction l generalizing s with
  | nil => exact h
  | cons c l ih => rw [List.foldl_cons] at h; exact DrS.step_full (ih h)
theorem DrS.done_full {s : DrS} (h : s.done.full = false) : s.full = false ∧ (partsB s.text).length ≤ s.free.length ∧ (s.out s.text).length ≤ 11 := by
  have h1 : ((s.full || decide (s.free.length < (partsB s.text).length)) || decide ((s.out s.text).length > 11)) = false := h
  simp only [Bool.or_eq_false_iff, decide_eq_false_iff_not] at h1
  exact ⟨h1.1.1, by omega, by omega⟩
/-- What a plan that is not full says. -/
theorem plan_facts {s : BnS} {n : Nat} {l : List ChS} (h : (s.plan n l).full = false) : s.gen < 1000000000 ∧ (s.plan n l).table.length ≤ 11 ∧ (∀ k ∈ (s.plan n l).table, 2 ≤ k ∧ k < n) ∧ ∀ x ∈ (s.plan n l).pages, (2 ≤ x.1 ∧ x.1 < n) ∧ x.2.size = 32 := by
  unfold BnS.plan at *
  have hin : (l.foldl DrS.step (s.start n)).inn n := (s.start_inn n).foldl
  obtain ⟨h1, h2, h3⟩ := DrS.done_full h
  have h4 := foldl_full h1
  have h5 : decide (s.gen ≥ 1000000000) = false := h4
  refine ⟨by have := of_decide_eq_false h5; omega, h3, fun k hk => hin.free k (DrS.out_mem hk), (hin.lay _).pages⟩
theorem plan_few {s : BnS} {n : Nat} {l : List ChS} (hok : s.ok) (hs : SortedK s.kv) (hn : n ≤ 250) (hl : ∀ c ∈ l, (1 ≤ c.key ∧ c.key ≤ 90) ∧ c.bytes.size ≤ 300) : (s.plan n l).pages.length ≤ 250 ∧ KvOk (s.plan n l).kv := by
  have h := foldl_ok (hok.start hs hn) hl
  have h2 := (h.lay (l.foldl DrS.step (s.start n)).text).few
  exact ⟨by unfold BnS.plan; show ((l.foldl DrS.step (s.start n)).lay _).pages.length ≤ 250; omega, h.kv⟩
/-- A commit, where no snag is set. -/
def BnS.commit (s : BnS) (pl : PlS) (l : List ChS) : BnS × PlS × Int :=
  if rightL s.kv none l = true then
    if (s.plan pl.fixed.length l).full = true then (s, pl, 5)
    else (⟨s.gen + 1, (s.plan pl.fixed.length l).table, (s.plan pl.fixed.length l).kv, false⟩, pl.write (s.plan pl.fixed.length l).pages (s.gen + 1) (s.plan pl.fixed.length l).table, 0)
  else (s, pl, 1)
theorem bcommit_any (w : World) (B p f m M : Nat) (tv lv : Value) (s : BnS) (pl : PlS) (l : List ChS) (h : BnAt w B p M tv s) (hp : PlateAt w p f m pl) (hok : s.ok) (hsn : pl.sn = false) (hpo : pl.off = false) (hso : s.off = false) (h2 : 2 ≤ pl.fixed.length)
    (hl : SlR w 3 lv l.length (chV l)) (hn : l.length ≤ 1) :
    CallM Tryz.prog 14 #[.pointer (some ⟨B, 0, none⟩), lv] w fun v w' => v = .int .i64 (s.commit pl l).2.2 ∧ ∃ M' tv' m', BnAt w' B p M' tv' (s.commit pl l).1 ∧ PlateAt w' p f m' (s.commit pl l).2.1 ∧ (m' = m ∨ w.heap.size ≤ m') ∧ Kp (fun i => i = B ∨ i = p ∨ i = f ∨ i = m) w w' := by
  have hc := h.cell
  have hsm := hp.small
  obtain ⟨la, lc, rfl⟩ : ∃ a c, lv = .slice a l.length c := by obtain ⟨_, a, c, h, _⟩ := hl; exact ⟨a, c, h⟩
  unfold BnS.commit
  refine callM_V (args := [.pointer (some ⟨B, 0, none⟩), .slice la l.length lc]) Tryz.func14 rfl Tryz.ntmps14 rfl (rs := [(.tmp 4)]) rfl ?_
  push_cast (disch := omega)
  repeat refine V_seq (x := .seq _ _) ?_
  first | refine VR [0, 1] (by kernel_rfl) ?_ | refine VR1 [0, 1] (by kernel_rfl) ?_
  push_cast (disch := omega)
  repeat refine And.intro (by omega) ?_
  repeat refine V_seq (x := .seq _ _) ?_
  first | refine VR [0, 1, 8] (by kernel_rfl) ?_ | refine VR1 [0, 1, 8] (by kernel_rfl) ?_
  push_cast (disch := omega)
  repeat refine And.intro (by omega) ?_
  refine callM_of (bnone_any w B p M tv s h) ?_
  rintro _ w1 ⟨rfl, rfl⟩
  push_cast (disch := omega)
  repeat refine And.intro (by omega) ?_
  repeat refine V_seq (x := .seq _ _) ?_
  first | refine V_seq (V_iff rfl ?_) | refine V_iff rfl ?_
  first | refine V_seq (V_skip ?_) | refine V_skip ?_
  push_cast (disch := omega)
  repeat refine V_seq (x := .seq _ _) ?_
  first | refine VR [0, 1] (by kernel_rfl) ?_ | refine VR1 [0, 1] (by kernel_rfl) ?_
  push_cast (disch := omega)
  repeat refine And.intro (by omega) ?_
  refine callM_of (cclone_any w1 _ l hl (by omega)) ?_
  rintro v2 w2 ⟨ho2, hu2⟩
  push_cast (disch := omega)
  repeat refine And.intro (by omega) ?_
  repeat refine V_seq (x := .seq _ _) ?_
  first | refine VR [0, 1] (by kernel_rfl) ?_ | refine VR1 [0, 1] (by kernel_rfl) ?_
  push_cast (disch := omega)
  repeat refine And.intro (by omega) ?_
  refine callM_of (csort_any w2 _ v2 l ho2 hn) ?_
  rintro r3 w3 ⟨rfl, ho3, hk3⟩
  push_cast (disch := omega)
  repeat refine And.intro (by omega) ?_
  have hu3 : Up w1 w3 := hu2.turn hk3 (fun i hi => (ho2.lt i hi).1)
  repeat refine V_seq (x := .seq _ _) ?_
  first | refine VR [0, 1, 16] (by kernel_rfl) ?_ | refine VR1 [0, 1, 16] (by kernel_rfl) ?_
  push_cast (disch := omega)
  repeat refine And.intro (by omega) ?_
  refine callM_of (bright_any w3 B p M tv v2 s l (h.up hu3) (SlR.of_own ho3) (by omega)) ?_
  rintro _ w4 ⟨rfl, hu4⟩
  push_cast (disch := omega)
  repeat refine And.intro (by omega) ?_
  have hu04 := hu3.trans hu4
  cases hrt : rightL s.kv none l with
  | false =>
    repeat refine V_seq (x := .seq _ _) ?_
    first | refine V_seq (V_ift rfl ?_) | refine V_ift rfl ?_
    repeat refine V_seq (x := .seq _ _) ?_
    first | refine VR [4] (by kernel_rfl) ?_ | refine VR1 [4] (by kernel_rfl) ?_
    push_cast (disch := omega)
    repeat refine And.intro (by omega) ?_
    first | refine V_seq (V_ret ?_) | refine V_ret ?_
    push_cast (disch := omega)
    exact ⟨M, tv, m, h.up hu04, hp.up hu04, .inl rfl, hu04.mono (fun _ _ e => e.elim)⟩
  | true =>
    repeat refine V_seq (x := .seq _ _) ?_
    first | refine V_seq (V_iff rfl ?_) | refine V_iff rfl ?_
    first | refine V_seq (V_skip ?_) | refine V_skip ?_
    push_cast (disch := omega)
    have hmem := rightL_mem hrt
    obtain ⟨hfew, hkvok⟩ := plan_few (n := pl.fixed.length) hok h.things.sorted hsm hmem
    have hpf := @plan_facts s pl.fixed.length l
    repeat refine V_seq (x := .seq _ _) ?_
    first | refine VR [0, 5] (by kernel_rfl) ?_ | refine VR1 [0, 5] (by kernel_rfl) ?_
    push_cast (disch := omega)
    repeat refine And.intro (by omega) ?_
    refine callM_of (bplan_any w4 B p f m M tv v2 s pl l (h.up hu04) (hp.up hu04) hok ((SlR.of_own ho3).up hu4) (by omega) hmem) ?_
    rintro v5 w5 ⟨d, M', fv, pv, tv', rfl, hD⟩
    push_cast (disch := omega)
    repeat refine And.intro (by omega) ?_
    generalize s.plan pl.fixed.length l = D at *
    have hu05 := hu04.trans hD.up
    have hcd := hD.cell
    have hBl := lt_of_get hc
    have hdB := hD.new.1
    have h48 := hu04.size
    repeat refine V_seq (x := .seq _ _) ?_
    first | refine V_seq (V_block ?_) | refine V_block ?_
    repeat refine V_seq (x := .seq _ _) ?_
    first | refine VR [0, 5, 20] (by kernel_rfl) ?_ | refine VR1 [0, 5, 20] (by kernel_rfl) ?_
    push_cast (disch := omega) [hcd]
    repeat refine And.intro (by omega) ?_
    cases hfu : D.full with
    | true =>
      repeat refine V_seq (x := .seq _ _) ?_
      first | refine V_seq (V_ift rfl ?_) | refine V_ift rfl ?_
      repeat refine V_seq (x := .seq _ _) ?_
      first | refine VR [4] (by kernel_rfl) ?_ | refine VR1 [4] (by kernel_rfl) ?_
      push_cast (disch := omega)
      repeat refine And.intro (by omega) ?_
      first | refine V_seq (V_ret ?_) | refine V_ret ?_
      push_cast (disch := omega)
      exact ⟨M, tv, m, h.up hu05, hp.up hu05, .inl rfl, hu05.mono (fun _ _ e => e.elim)⟩
    | false =>
      rw [hfu] at hcd
      obtain ⟨hg1, hg2, hg3, hg4⟩ := hpf hfu
      repeat refine V_seq (x := .seq _ _) ?_
      first | refine V_seq (V_iff rfl ?_) | refine V_iff rfl ?_
      have hc5 := Up.get hu05 hc
      rw [hso] at hc5
      repeat refine V_seq (x := .seq _ _) ?_
      first | refine VR [0, 5, 25] (by kernel_rfl) ?_ | refine VR1 [0, 5, 25] (by kernel_rfl) ?_
      push_cast (disch := omega) [hc5]
      repeat refine And.intro (by omega) ?_
      repeat refine V_seq (x := .seq _ _) ?_
      first | refine V_seq (V_iff rfl ?_) | refine V_iff rfl ?_
      first | refine V_seq (V_skip ?_) | refine V_skip ?_
      push_cast (disch := omega)
      repeat refine V_seq (x := .seq _ _) ?_
      first | refine VR [0, 5, 6] (by kernel_rfl) ?_ | refine VR1 [0, 5, 6] (by kernel_rfl) ?_
      push_cast (disch := omega)
      repeat refine And.intro (by omega) ?_
      have hp5 := hp.up hu05
      refine callM_of (bwrite_ok w4 w5 B p f m M d M' tv fv pv tv' s pl D (h.up hu05) hp5 hD hsn hpo (fun x hx => by have := hg4 x hx; omega) (by omega) ⟨hok.gen.1, hg1⟩ hg2 (fun k hk => by have := hg3 k hk; omega) h2) ?_
      rintro _ w6 ⟨rfl, m6, hp6, hm6, hk6⟩
      push_cast (disch := omega)
      repeat refine And.intro (by omega) ?_
      repeat refine V_seq (x := .seq _ _) ?_
      first | refine VR [0, 5, 6, 34] (by kernel_rfl) ?_ | refine VR1 [0, 5, 6, 34] (by kernel_rfl) ?_
      push_cast (disch := omega)
      repeat refine And.intro (by omega) ?_
      repeat refine V_seq (x := .seq _ _) ?_
      first | refine V_seq (V_iff rfl ?_) | refine V_iff rfl ?_
      first | refine V_seq (V_skip ?_) | refine V_skip ?_
      push_cast (disch := omega)
      have hnoB := hp5.no hc5 (by decide) (by decide)
      have hnoD := hp5.no hcd (by decide) (by decide)
      have hc6 := Kp.get hk6 hc5 (by rintro (e | e | e) <;> omega)
      have hcd6 := Kp.get hk6 hcd (by rintro (e | e | e) <;> omega)
      have hS6 : ∀ (g : Nat) (cs : Array Value), w5.heap[g]? = some (.cells cs 3 (0, 0)) → ¬ (g = p ∨ g = f ∨ g = m) := fun g cs h' e => by
        have := hp5.no h' (by decide) (by decide)
        rcases e with e | e | e <;> omega
      have ht6 := hD.table.over hk6 (fun g hg e => by obtain ⟨cs, h'⟩ := hD.table.block hg; exact hS6 _ _ h' e)
      obtain ⟨es5, cl5, hM5⟩ := hD.things.block
      obtain ⟨⟨cp, hcp⟩, ⟨cf, hcf⟩, em, cm, hcm⟩ := hp5.cells
      have hMm : M' ≠ m := by have := hD.new.2; have := (hp.up hu04).cells.2.2; obtain ⟨_, _, h'⟩ := this; have := lt_of_get h'; omega
      have hth6 := hD.things.over hk6 (by rintro (e | e | e); exact map_ne hM5 hcp e; exact map_ne hM5 hcf e; exact hMm e) (fun g cs h' e => hS6 g cs h' e)
      obtain ⟨ta, tc, rfl⟩ : ∃ a c, tv' = .slice a D.table.length c := by obtain ⟨_, a, c, h, _⟩ := hD.table; exact ⟨a, c, h⟩
      have hgen : -9223372036854775808 ≤ s.gen + 1 ∧ s.gen + 1 ≤ 9223372036854775807 := by have := hok.gen; omega
      repeat refine V_seq (x := .seq _ _) ?_
      first | refine VD [] [(true, 0), (true, 1), (true, 2), (true, 3), (true, 4), (true, 5), (true, 6), (true, 7), (true, 8), (true, 9), (true, 10), (true, 11), (true, 12), (true, 13), (true, 14), (true, 15), (true, 16), (true, 17), (false, 18), (true, 19), (true, 20), (false, 21), (true, 22), (true, 23), (false, 24)] (by kernel_rfl) (N := [6, 7, 11, 15]) (by kernel_rfl) Tryz.mixed (fun _ _ _ h => h) ?_ | refine VD1 [] [(true, 0), (true, 1), (true, 2), (true, 3), (true, 4), (true, 5), (true, 6), (true, 7), (true, 8), (true, 9), (true, 10), (true, 11), (true, 12), (true, 13), (true, 14), (true, 15), (true, 16), (true, 17), (false, 18), (true, 19), (true, 20), (false, 21), (true, 22), (true, 23), (false, 24)] (by kernel_rfl) (N := [6, 7, 11, 15]) (by kernel_rfl) Tryz.mixed (fun _ _ _ h => h) ?_
      intro w7 hh7 hu7
      push_cast (disch := omega) [hh7, hc6, hcd6]
      repeat refine And.intro (by omega) ?_
      refine fun w8 hs8 hx8 hg8 => ?_
      push_cast (disch := omega)
      repeat refine And.intro (by omega) ?_
      refine And.intro (ob_no (by kernel_rfl)) ?_
      push_cast (disch := omega)
      repeat refine And.intro (by omega) ?_
      push_cast (disch := omega) [hg8]
      repeat refine And.intro (by omega) ?_
      refine fun w9 hs9 hx9 hg9 => ?_
      push_cast (disch := omega)
      repeat refine And.intro (by omega) ?_
      refine And.intro (ob_no (by kernel_rfl)) ?_
      push_cast (disch := omega)
      repeat refine And.intro (by omega) ?_
      push_cast (disch := omega) [hg9]
      repeat refine And.intro (by omega) ?_
      refine fun w10 hs10 hx10 hg10 => ?_
      push_cast (disch := omega)
      repeat refine And.intro (by omega) ?_
      refine And.intro (ob_no (by kernel_rfl)) ?_
      push_cast (disch := omega)
      repeat refine And.intro (by omega) ?_
      repeat refine V_seq (x := .seq _ _) ?_
      first | refine VR [4] (by kernel_rfl) ?_ | refine VR1 [4] (by kernel_rfl) ?_
      push_cast (disch := omega)
      repeat refine And.intro (by omega) ?_
      first | refine V_seq (V_ret ?_) | refine V_ret ?_
      push_cast (disch := omega)
      have hkB : Kp (fun i => i = B) w6 w10 := (((hu7.mono (fun _ _ e => e.elim)).step hx8 (fun _ _ e => e)).step hx9 (fun _ _ e => e)).step hx10 (fun _ _ e => e)
      have hSB : ∀ (g : Nat) (cs : Array Value), w6.heap[g]? = some (.cells cs 3 (0, 0)) → ¬ g = B := fun g cs h' e => cells_ne h' hc6 (by decide) e
      obtain ⟨es6, cl6, hM6⟩ := hth6.block
      refine ⟨M', .slice ta D.table.length tc, m6, ⟨hg10, ht6.over hkB (fun g hg e => by obtain ⟨cs, h'⟩ := ht6.block hg; exact hSB _ _ h' e), hth6.over hkB (map_ne hM6 hc6) (fun g cs h' e => hSB g cs h' e)⟩, ?_, .inr (by have := hu05.size; omega), ?_⟩
      · have hn6 := hp6.no hc6 (by decide) (by decide)
        exact hp6.over hkB (by intro e; exact hn6.1 e.symm) (by intro e; exact hn6.2.1 e.symm) (by intro e; exact hn6.2.2 e.symm)
      · exact (((hu05.mono (fun _ _ e => e.elim)).step hk6 (fun i _ e => .inr e))).step hkB (fun i _ e => .inl e)
end Go.Proofs
