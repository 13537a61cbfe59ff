import Derived.Test.YthknnpojfhohbaaGreatWalkE
namespace Go.Proofs
open Go Go.Vc Go.RowKit Go.Lib
set_option maxRecDepth 100000
set_option linter.unusedVariables false
set_option linter.unusedSimpArgs false
/-- A binder's state in the law: where it stands, and that nothing that was there has turned. -/
structure FW (w0 w : World) (B p f : Nat) (N : Nat) (s : BnS) (pl : PlS) : Prop where
  at_ : ∃ M tv m, BnAt w B p M tv s ∧ PlateAt w p f m pl ∧ w0.heap.size ≤ m
  new : w0.heap.size ≤ B ∧ w0.heap.size ≤ p ∧ w0.heap.size ≤ f
  up : Up w0 w
  fi : FI N s pl
theorem FW.over {w0 w w' : World} {B p f N : Nat} {s : BnS} {pl : PlS} (h : FW w0 w B p f N s pl) (hu : Up w w') : FW w0 w' B p f N s pl := by
  obtain ⟨⟨M, tv, m, h1, h2, h3⟩, h4, h5, h6⟩ := h
  exact ⟨⟨M, tv, m, h1.up hu, h2.up hu, h3⟩, h4, h5.trans hu, h6⟩
/-- A commit of one change, in the law. -/
theorem FW.commit {w0 w : World} {B p f N : Nat} {s : BnS} {pl : PlS} (h : FW w0 w B p f N s pl) (hN : 2 ≤ N) {lv : Value} {c : ChS} (hl : SlR w 3 lv 1 (chV [c])) (hr : rightL s.kv none [c] = true) :
    CallM Tryz.prog 14 #[.pointer (some ⟨B, 0, none⟩), lv] w fun v w' =>
      ((s.plan pl.fixed.length [c]).full = true ∧ v = .int .i64 5 ∧ FW w0 w' B p f N s pl) ∨
      ((s.plan pl.fixed.length [c]).full = false ∧ v = .int .i64 0 ∧ (FI N ⟨s.gen + 1, (s.plan pl.fixed.length [c]).table, (s.plan pl.fixed.length [c]).kv, false⟩ (pl.write (s.plan pl.fixed.length [c]).pages (s.gen + 1) (s.plan pl.fixed.length [c]).table) →
        FW w0 w' B p f N ⟨s.gen + 1, (s.plan pl.fixed.length [c]).table, (s.plan pl.fixed.length [c]).kv, false⟩ (pl.write (s.plan pl.fixed.length [c]).pages (s.gen + 1) (s.plan pl.fixed.length [c]).table))) := by
  obtain ⟨⟨M, tv, m, h1, h2, h3⟩, h4, h5, h6⟩ := h
  refine callM_of (bcommit_any w B p f m M tv lv s pl [c] h1 h2 h6.sok h6.sn h6.poff h6.soff (by rw [h6.len]; exact hN) hl (Nat.le_refl _)) ?_
  rintro v w' ⟨rfl, M', tv', m', hB, hp, hm, hk⟩
  have hu : Up w0 w' := Up.turn h5 hk (fun i hi => by rcases hi with rfl | rfl | rfl | rfl <;> omega)
  have hs := h5.size
  have hm' : w0.heap.size ≤ m' := by omega
  unfold BnS.commit at hB hp ⊢
  rw [if_pos hr] at hB hp ⊢
  cases hf : (s.plan pl.fixed.length [c]).full with
  | true =>
    rw [hf] at hB hp
    exact .inl ⟨rfl, rfl, ⟨M', tv', m', hB, hp, hm'⟩, h4, hu, h6⟩
  | false =>
    rw [hf] at hB hp
    exact .inr ⟨rfl, rfl, fun hfi => ⟨⟨M', tv', m', hB, hp, hm'⟩, h4, hu, hfi⟩⟩
theorem full_any (pages n : Int) (w : World) : CallM Tryz.prog 6 #[.int .i64 pages, .int .i64 n] w fun v w' => v = .bool true ∧ Up w w' := by
  by_cases hin : (6 ≤ pages ∧ pages ≤ 60) ∧ (1 ≤ n ∧ n ≤ 90)
  · refine callM_V (args := [.int .i64 pages, .int .i64 n]) Tryz.func6 rfl Tryz.ntmps6 rfl (rs := [(.tmp 4)]) rfl ?_
    push_cast (disch := omega)
    repeat refine V_seq (x := .seq _ _) ?_
    first | refine VR [0, 1] (by kernel_rfl) ?_ | refine VR1 [0, 1] (by kernel_rfl) ?_
    push_cast (disch := omega)
    repeat refine And.intro (by omega) ?_
    repeat refine V_seq (x := .seq _ _) ?_
    first | refine VR [0, 1, 31] (by kernel_rfl) ?_ | refine VR1 [0, 1, 31] (by kernel_rfl) ?_
    push_cast (disch := omega)
    repeat refine And.intro (by omega) ?_
    refine callM_of (alive_any w) ?_
    rintro _ w1 ⟨rfl, hu1⟩
    push_cast (disch := omega)
    repeat refine And.intro (by omega) ?_
    push_cast (disch := omega)
    repeat refine And.intro (by omega) ?_
    repeat refine V_seq (x := .seq _ _) ?_
    first | refine V_seq (V_iff rfl ?_) | refine V_iff rfl ?_
    first | refine V_seq (V_skip ?_) | refine V_skip ?_
    push_cast (disch := omega)
    repeat refine V_seq (x := .seq _ _) ?_
    first | refine VR [1, 5] (by kernel_rfl) ?_ | refine VR1 [1, 5] (by kernel_rfl) ?_
    push_cast (disch := omega)
    repeat refine And.intro (by omega) ?_
    refine callM_of (pnew_any pages w1 (by omega)) ?_
    rintro v2 w2 ⟨p, f, m, rfl, hp2, hlt2, hu2⟩
    push_cast (disch := omega)
    repeat refine And.intro (by omega) ?_
    push_cast (disch := omega)
    repeat refine And.intro (by omega) ?_
    obtain ⟨N, hN⟩ : ∃ N : Nat, pages = N := ⟨pages.toNat, by omega⟩
    rw [show pages.toNat = N from by omega] at hp2
    have hlen : (PlS.new N).fixed.length = N := by simp [PlS.new]
    repeat refine V_seq (x := .seq _ _) ?_
    first | refine VR [1, 6, 7] (by kernel_rfl) ?_ | refine VR1 [1, 6, 7] (by kernel_rfl) ?_
    push_cast (disch := omega)
    repeat refine And.intro (by omega) ?_
    refine callM_of (bopen_fresh w2 p f m (PlS.new N) hp2 (PlS.ok.new N) rfl (by rw [hlen]; omega) (new_bad (by omega))) ?_
    rintro v3 w3 ⟨B, M, rfl, hB3, hlB, hlM, hu3⟩
    push_cast (disch := omega)
    repeat refine And.intro (by omega) ?_
    push_cast (disch := omega)
    repeat refine And.intro (by omega) ?_
    have hs1 := hu1.size
    have hs2 := hu2.size
    have hF3 : FW w w3 B p f N bn0 (PlS.new N) := ⟨⟨M, _, m, hB3, hp2.up hu3, by omega⟩, by omega, (hu1.trans hu2).trans hu3, FI.zero⟩
    repeat refine V_seq (x := .seq _ _) ?_
    first | refine VR [1, 6, 45] (by kernel_rfl) ?_ | refine VR1 [1, 6, 45] (by kernel_rfl) ?_
    push_cast (disch := omega)
    repeat refine And.intro (by omega) ?_
    repeat refine V_seq (x := .seq _ _) ?_
    first | refine V_seq (V_iff rfl ?_) | refine V_iff rfl ?_
    first | refine V_seq (V_skip ?_) | refine V_skip ?_
    push_cast (disch := omega)
    repeat refine V_seq (x := .seq _ _) ?_
    first | refine VR [1, 6, 8] (by kernel_rfl) ?_ | refine VR1 [1, 6, 8] (by kernel_rfl) ?_
    push_cast (disch := omega)
    repeat refine And.intro (by omega) ?_
    repeat refine V_seq (x := .seq _ _) ?_
    first | refine VR [1, 6, 8, 9] (by kernel_rfl) ?_ | refine VR1 [1, 6, 8, 9] (by kernel_rfl) ?_
    push_cast (disch := omega)
    repeat refine And.intro (by omega) ?_
    repeat refine V_seq (x := .seq _ _) ?_
    first | refine V_seqJ (ι := Nat × BnS × PlS) [1, 6, 8] (fun ⟨j, s, pl⟩ => [(1, .int .i64 n), (6, .pointer (some ⟨B, 0, none⟩)), (8, .int .i64 j)]) (fun ⟨j, s, pl⟩ => fun w' => (j : Int) ≤ n ∧ FW w w' B p f N s pl ∧ (keysK s.kv = (List.range j).map fun i : Nat => ((i + 1 : Nat) : Int)) ∧ s.gen = j) ?_ ?_ | refine V_J (ι := Nat × BnS × PlS) [1, 6, 8] (fun ⟨j, s, pl⟩ => [(1, .int .i64 n), (6, .pointer (some ⟨B, 0, none⟩)), (8, .int .i64 j)]) (fun ⟨j, s, pl⟩ => fun w' => (j : Int) ≤ n ∧ FW w w' B p f N s pl ∧ (keysK s.kv = (List.range j).map fun i : Nat => ((i + 1 : Nat) : Int)) ∧ s.gen = j) ?_ ?_
    · rintro ⟨j, s, pl⟩ wl ⟨hjn, hF, hkeys, hgen⟩
      dsimp only at hjn hF hkeys hgen ⊢
      have hx1 : strEq thingS (⟨#[116, 104, 105, 110, 103]⟩ : ByteArray) = true := by rw [strEq_dec]; exact decide_eq_true rfl
      have hx2 : decide (thingS = (⟨#[116, 104, 105, 110, 103]⟩ : ByteArray)) = true := decide_eq_true rfl
      have hkl : s.kv.length = j := by have := congrArg List.length hkeys; simpa [keysK] using this
      repeat refine V_seq (x := .seq _ _) ?_
      first | refine VR [1, 6, 8, 11] (by kernel_rfl) ?_ | refine VR1 [1, 6, 8, 11] (by kernel_rfl) ?_
      push_cast (disch := omega)
      repeat refine And.intro (by omega) ?_
      repeat refine V_seq (x := .seq _ _) ?_
      first | refine V_seq (V_block ?_) | refine V_block ?_
      repeat refine V_seq (x := .seq _ _) ?_
      first | refine V_seq (V_loopE (ι := Nat) [1, 6, 8, 11] (fun i => [(1, .int .i64 n), (6, .pointer (some ⟨B, 0, none⟩)), (8, .int .i64 j), (11, .int .i64 (i + 1 : Nat))]) (fun i => fun w' => i ≤ j ∧ FW w w' B p f N s pl) (fun i => j - i) (0) (by first | (push_cast; rfl) | (push_cast; done)) (⟨Nat.zero_le _, hF⟩) ?_) | refine V_loopE (ι := Nat) [1, 6, 8, 11] (fun i => [(1, .int .i64 n), (6, .pointer (some ⟨B, 0, none⟩)), (8, .int .i64 j), (11, .int .i64 (i + 1 : Nat))]) (fun i => fun w' => i ≤ j ∧ FW w w' B p f N s pl) (fun i => j - i) (0) (by first | (push_cast; rfl) | (push_cast; done)) (⟨Nat.zero_le _, hF⟩) ?_
      rintro i wl hI
      obtain ⟨hij, hF⟩ := hI
      repeat refine V_seq (x := .seq _ _) ?_
      first | refine VR [1, 6, 8, 11, 63] (by kernel_rfl) ?_ | refine VR1 [1, 6, 8, 11, 63] (by kernel_rfl) ?_
      push_cast (disch := omega)
      repeat refine And.intro (by omega) ?_
      repeat refine V_seq (x := .seq _ _) ?_
      first | refine V_seq (V_ifd rfl (fun hc1 => ?_) (fun hc1 => ?_)) | refine V_ifd rfl (fun hc1 => ?_) (fun hc1 => ?_)
      · first | refine V_seq (V_skip ?_) | refine V_skip ?_
        push_cast (disch := omega)
        have hmem : ((i + 1 : Nat) : Int) ∈ keysK s.kv := by rw [hkeys]; exact List.mem_map.2 ⟨i, List.mem_range.2 (by omega), rfl⟩
        have hget := hF.fi.get hmem
        repeat refine V_seq (x := .seq _ _) ?_
        first | refine V_seq (V_block ?_) | refine V_block ?_
        repeat refine V_seq (x := .seq _ _) ?_
        first | refine VR [1, 6, 8, 11, 12, 13] (by kernel_rfl) ?_ | refine VR1 [1, 6, 8, 11, 12, 13] (by kernel_rfl) ?_
        push_cast (disch := omega)
        repeat refine And.intro (by omega) ?_
        have hF' := hF
        obtain ⟨⟨M4, tv4, m4, hB4, hp4, hm4⟩, _, _, hfi⟩ := hF'
        refine callM_of (bget_any _ B p f m4 M4 tv4 s pl ((i + 1 : Nat) : Int) hB4 hp4 hfi.sok hfi.pok) ?_
        rintro _ w5 ⟨rfl, hu5⟩
        rw [hget]
        push_cast (disch := omega)
        repeat refine And.intro (by omega) ?_
        repeat refine V_seq (x := .seq _ _) ?_
        first | refine VR [1, 6, 8, 11, 77] (by kernel_rfl) ?_ | refine VR1 [1, 6, 8, 11, 77] (by kernel_rfl) ?_
        push_cast (disch := omega) [hx1, hx2]
        repeat refine And.intro (by omega) ?_
        repeat refine V_seq (x := .seq _ _) ?_
        first | refine V_seq (V_iff rfl ?_) | refine V_iff rfl ?_
        first | refine V_seq (V_skip ?_) | refine V_skip ?_
        push_cast (disch := omega)
        repeat refine V_seq (x := .seq _ _) ?_
        first | refine VR [1, 6, 8, 11] (by kernel_rfl) ?_ | refine VR1 [1, 6, 8, 11] (by kernel_rfl) ?_
        push_cast (disch := omega)
        repeat refine And.intro (by omega) ?_
        refine ⟨i + 1, ?_, ?_, (by dsimp only; omega)⟩ <;> dsimp only
        · push_cast
        · exact ⟨by omega, hF.over hu5⟩
      · first | refine V_seq (V_exit ?_) | refine V_exit ?_
        push_cast (disch := omega)
        repeat refine V_seq (x := .seq _ _) ?_
        first | refine VR [6, 8, 80] (by kernel_rfl) ?_ | refine VR1 [6, 8, 80] (by kernel_rfl) ?_
        push_cast (disch := omega)
        repeat refine And.intro (by omega) ?_
        repeat refine V_seq (x := .seq _ _) ?_
        first | refine V_seqJ (ι := BnS × PlS) [6] (fun ⟨s', pl'⟩ => [(6, .pointer (some ⟨B, 0, none⟩))]) (fun ⟨s', pl'⟩ => fun w' => FW w w' B p f N s' pl') ?_ ?_ | refine V_J (ι := BnS × PlS) [6] (fun ⟨s', pl'⟩ => [(6, .pointer (some ⟨B, 0, none⟩))]) (fun ⟨s', pl'⟩ => fun w' => FW w w' B p f N s' pl') ?_ ?_
        · rintro ⟨s', pl'⟩ w5 hF5
          dsimp only at hF5 ⊢
          have hch := hF5.fi.check
          have hup := hF5.up
          obtain ⟨⟨M4, tv4, m4, hB4, hp4, hm4⟩, _, _, hfi⟩ := hF5
          repeat refine V_seq (x := .seq _ _) ?_
          first | refine VR [4] (by kernel_rfl) ?_ | refine VR1 [4] (by kernel_rfl) ?_
          push_cast (disch := omega)
          repeat refine And.intro (by omega) ?_
          refine callM_of (bcheck_any w5 B p f m4 M4 tv4 s' pl' hB4 hp4 hfi.sok hfi.pok) ?_
          rintro v6 w6 ⟨ho6, hu6⟩
          push_cast (disch := omega)
          repeat refine And.intro (by omega) ?_
          rw [hch] at ho6
          obtain ⟨ua, uc, rfl⟩ := ho6.shape
          push_cast (disch := omega)
          repeat refine And.intro (by omega) ?_
          first | refine V_seq (V_ret ?_) | refine V_ret ?_
          push_cast (disch := omega)
          exact hup.trans hu6
        · repeat refine V_seq (x := .seq _ _) ?_
          first | refine V_seq (V_ifd rfl (fun hlast => ?_) (fun hlast => ?_)) | refine V_ifd rfl (fun hlast => ?_) (fun hlast => ?_)
          · have hF' := hF
            obtain ⟨⟨M4, tv4, m4, hB4, hp4, hm4⟩, _, _, hfi⟩ := hF'
            repeat refine V_seq (x := .seq _ _) ?_
            first | refine VR [6, 8, 91] (by kernel_rfl) ?_ | refine VR1 [6, 8, 91] (by kernel_rfl) ?_
            push_cast (disch := omega)
            repeat refine And.intro (by omega) ?_
            refine callM_of (bgen_any _ B p M4 tv4 s hB4) ?_
            rintro _ _ ⟨rfl, rfl⟩
            rw [hgen]
            push_cast (disch := omega)
            repeat refine And.intro (by omega) ?_
            refine callM_of (bkeys_any _ B p M4 tv4 s hB4 hfi.sok) ?_
            rintro v6 w6 ⟨ho6, hu6⟩
            push_cast (disch := omega)
            repeat refine And.intro (by omega) ?_
            rw [hkl] at ho6
            obtain ⟨ua, uc, rfl⟩ := ho6.shape
            push_cast (disch := omega)
            repeat refine And.intro (by omega) ?_
            repeat refine V_seq (x := .seq _ _) ?_
            first | refine V_seq (V_iff rfl ?_) | refine V_iff rfl ?_
            first | refine V_seq (V_skip ?_) | refine V_skip ?_
            push_cast (disch := omega)
            have hF6 := hF.over hu6
            by_cases hj0 : j = 0
            · subst hj0
              repeat refine V_seq (x := .seq _ _) ?_
              first | refine VR [6, 106] (by kernel_rfl) ?_ | refine VR1 [6, 106] (by kernel_rfl) ?_
              push_cast (disch := omega)
              repeat refine And.intro (by omega) ?_
              repeat refine V_seq (x := .seq _ _) ?_
              first | refine V_seq (V_iff rfl ?_) | refine V_iff rfl ?_
              first | refine V_seq (V_skip ?_) | refine V_skip ?_
              push_cast (disch := omega)
              refine ⟨(s, pl), by first | (push_cast; rfl) | (push_cast; done), ?_⟩
              dsimp only
              exact hF6
            · repeat refine V_seq (x := .seq _ _) ?_
              first | refine VR [6, 106] (by kernel_rfl) ?_ | refine VR1 [6, 106] (by kernel_rfl) ?_
              push_cast (disch := omega)
              repeat refine And.intro (by omega) ?_
              refine fun b7 w7 hb7 hs7 hu7 hg7 => ?_
              push_cast (disch := omega)
              repeat refine And.intro (by omega) ?_
              obtain ⟨hr, hdel, hdf⟩ := hF6.fi.del (by omega) (j := j) (by omega) hkeys hgen
              refine callM_of ((hF6.over hu7).commit (by omega) (one_row (c := ⟨((j : Nat) : Int), .empty, true⟩) hg7) hr) ?_
              rintro v8 w8 (⟨hf, rfl, hF8⟩ | ⟨hf, rfl, hF8⟩)
              · have hfr := hdf hf
                have hF8' := hF8
                obtain ⟨⟨M8, tv8, m8, hB8, hp8, hm8⟩, _, _, hfi8⟩ := hF8'
                push_cast (disch := omega)
                repeat refine And.intro (by omega) ?_
                refine callM_of (bFree_any _ B p f m8 M8 tv8 s pl hB8 hp8 (hfi8.sok.len hfi8.srt).2) ?_
                rintro _ w9 ⟨rfl, hu9⟩
                rw [hfi8.len]
                push_cast (disch := omega)
                repeat refine And.intro (by omega) ?_
                repeat refine V_seq (x := .seq _ _) ?_
                first | refine V_seq (V_iff rfl ?_) | refine V_iff rfl ?_
                first | refine V_seq (V_skip ?_) | refine V_skip ?_
                push_cast (disch := omega)
                refine ⟨(s, pl), by first | (push_cast; rfl) | (push_cast; done), ?_⟩
                dsimp only
                exact hF8.over hu9
              · push_cast (disch := omega)
                repeat refine And.intro (by omega) ?_
                repeat refine V_seq (x := .seq _ _) ?_
                first | refine V_seq (V_iff rfl ?_) | refine V_iff rfl ?_
                first | refine V_seq (V_skip ?_) | refine V_skip ?_
                push_cast (disch := omega)
                obtain ⟨s', pl', hF9⟩ : ∃ s' pl', FW w w8 B p f N s' pl' := ⟨_, _, hF8 (hdel hf)⟩
                refine ⟨(s', pl'), by first | (push_cast; rfl) | (push_cast; done), ?_⟩
                dsimp only
                exact hF9
          · first | refine V_seq (V_skip ?_) | refine V_skip ?_
            push_cast (disch := omega)
            refine ⟨(s, pl), by first | (push_cast; rfl) | (push_cast; done), ?_⟩
            dsimp only
            exact hF
    · repeat refine V_seq (x := .seq _ _) ?_
      first | refine V_seq (V_block ?_) | refine V_block ?_
      repeat refine V_seq (x := .seq _ _) ?_
      first | refine V_seq (V_loopE (ι := Nat × BnS × PlS) [1, 6, 8, 9] (fun ⟨j, s, pl⟩ => [(1, .int .i64 n), (6, .pointer (some ⟨B, 0, none⟩)), (8, .int .i64 j), (9, .int .i64 (j + 1 : Nat))]) (fun ⟨j, s, pl⟩ => fun w' => (j : Int) ≤ n ∧ FW w w' B p f N s pl ∧ (keysK s.kv = (List.range j).map fun i : Nat => ((i + 1 : Nat) : Int)) ∧ s.gen = j) (fun ⟨j, s, pl⟩ => n.toNat - j) ((0, bn0, PlS.new N)) (by first | (push_cast; rfl) | (push_cast; done)) (⟨by omega, hF3, rfl, rfl⟩) ?_) | refine V_loopE (ι := Nat × BnS × PlS) [1, 6, 8, 9] (fun ⟨j, s, pl⟩ => [(1, .int .i64 n), (6, .pointer (some ⟨B, 0, none⟩)), (8, .int .i64 j), (9, .int .i64 (j + 1 : Nat))]) (fun ⟨j, s, pl⟩ => fun w' => (j : Int) ≤ n ∧ FW w w' B p f N s pl ∧ (keysK s.kv = (List.range j).map fun i : Nat => ((i + 1 : Nat) : Int)) ∧ s.gen = j) (fun ⟨j, s, pl⟩ => n.toNat - j) ((0, bn0, PlS.new N)) (by first | (push_cast; rfl) | (push_cast; done)) (⟨by omega, hF3, rfl, rfl⟩) ?_
      rintro ⟨j, s, pl⟩ wl hI
      obtain ⟨hjn, hF, hkeys, hgen⟩ := hI
      repeat refine V_seq (x := .seq _ _) ?_
      first | refine VR [1, 6, 8, 9, 48] (by kernel_rfl) ?_ | refine VR1 [1, 6, 8, 9, 48] (by kernel_rfl) ?_
      push_cast (disch := omega)
      repeat refine And.intro (by omega) ?_
      repeat refine V_seq (x := .seq _ _) ?_
      first | refine V_seq (V_ifd rfl (fun hk1 => ?_) (fun hk1 => ?_)) | refine V_ifd rfl (fun hk1 => ?_) (fun hk1 => ?_)
      · first | refine V_seq (V_skip ?_) | refine V_skip ?_
        push_cast (disch := omega)
        repeat refine V_seq (x := .seq _ _) ?_
        first | refine V_seq (V_block ?_) | refine V_block ?_
        repeat refine V_seq (x := .seq _ _) ?_
        first | refine VR [1, 6, 8, 9, 10] (by kernel_rfl) ?_ | refine VR1 [1, 6, 8, 9, 10] (by kernel_rfl) ?_
        push_cast (disch := omega)
        repeat refine And.intro (by omega) ?_
        refine fun b4 w4 hb4 hs4 hu4 hg4 => ?_
        push_cast (disch := omega)
        repeat refine And.intro (by omega) ?_
        obtain ⟨hr, hput⟩ := hF.fi.put (by omega) (by omega) hkeys hgen
        refine callM_of ((hF.over hu4).commit (by omega) (one_row (c := ⟨((j + 1 : Nat) : Int), thingS, false⟩) hg4) hr) ?_
        rintro v5 w5 (⟨hf, rfl, hF5⟩ | ⟨hf, rfl, hF5⟩)
        · push_cast (disch := omega)
          repeat refine And.intro (by omega) ?_
          repeat refine V_seq (x := .seq _ _) ?_
          first | refine VR [1, 6, 8, 9, 10, 57] (by kernel_rfl) ?_ | refine VR1 [1, 6, 8, 9, 10, 57] (by kernel_rfl) ?_
          push_cast (disch := omega)
          repeat refine And.intro (by omega) ?_
          repeat refine V_seq (x := .seq _ _) ?_
          first | refine V_seq (V_ift rfl ?_) | refine V_ift rfl ?_
          first | refine V_seq (V_exit ?_) | refine V_exit ?_
          push_cast (disch := omega)
          refine ⟨(j, s, pl), by first | (push_cast; rfl) | (push_cast; done), ?_⟩
          dsimp only
          exact ⟨hjn, hF5, hkeys, hgen⟩
        · push_cast (disch := omega)
          repeat refine And.intro (by omega) ?_
          repeat refine V_seq (x := .seq _ _) ?_
          first | refine VR [1, 6, 8, 9, 10, 57] (by kernel_rfl) ?_ | refine VR1 [1, 6, 8, 9, 10, 57] (by kernel_rfl) ?_
          push_cast (disch := omega)
          repeat refine And.intro (by omega) ?_
          repeat refine V_seq (x := .seq _ _) ?_
          first | refine V_seq (V_iff rfl ?_) | refine V_iff rfl ?_
          first | refine V_seq (V_skip ?_) | refine V_skip ?_
          push_cast (disch := omega)
          repeat refine V_seq (x := .seq _ _) ?_
          first | refine VR [1, 6, 9, 59] (by kernel_rfl) ?_ | refine VR1 [1, 6, 9, 59] (by kernel_rfl) ?_
          push_cast (disch := omega)
          repeat refine And.intro (by omega) ?_
          repeat refine V_seq (x := .seq _ _) ?_
          first | refine V_seq (V_iff rfl ?_) | refine V_iff rfl ?_
          first | refine V_seq (V_skip ?_) | refine V_skip ?_
          push_cast (disch := omega)
          repeat refine V_seq (x := .seq _ _) ?_
          first | refine VR [1, 6, 8, 9] (by kernel_rfl) ?_ | refine VR1 [1, 6, 8, 9] (by kernel_rfl) ?_
          push_cast (disch := omega)
          repeat refine And.intro (by omega) ?_
          repeat refine V_seq (x := .seq _ _) ?_
          first | refine VR [1, 6, 8, 9] (by kernel_rfl) ?_ | refine VR1 [1, 6, 8, 9] (by kernel_rfl) ?_
          push_cast (disch := omega)
          repeat refine And.intro (by omega) ?_
          obtain ⟨hfi, hk5⟩ := hput hf
          obtain ⟨s', pl', hF6, hk6, hg6⟩ : ∃ s' pl', FW w w5 B p f N s' pl' ∧ (keysK s'.kv = (List.range (j + 1)).map fun i : Nat => ((i + 1 : Nat) : Int)) ∧ s'.gen = ((j + 1 : Nat) : Int) := ⟨_, _, hF5 hfi, hk5, by show s.gen + 1 = _; omega⟩
          refine ⟨(j + 1, s', pl'), ?_, ?_, (by dsimp only; omega)⟩ <;> dsimp only
          · push_cast
          · exact ⟨by omega, hF6, hk6, hg6⟩
      · first | refine V_seq (V_exit ?_) | refine V_exit ?_
        push_cast (disch := omega)
        refine ⟨(j, s, pl), by first | (push_cast; rfl) | (push_cast; done), ?_⟩
        dsimp only
        exact ⟨hjn, hF, hkeys, hgen⟩
  · have h4 : pages < 6 ∨ (¬ pages < 6 ∧ pages > 60) ∨ (¬ pages < 6 ∧ ¬ pages > 60 ∧ n < 1) ∨ (¬ pages < 6 ∧ ¬ pages > 60 ∧ ¬ n < 1 ∧ n > 90) := by omega
    refine callM_V (args := [.int .i64 pages, .int .i64 n]) Tryz.func6 rfl Tryz.ntmps6 rfl (rs := [(.tmp 4)]) rfl ?_
    push_cast (disch := omega)
    repeat refine V_seq (x := .seq _ _) ?_
    first | refine VR [0, 1] (by kernel_rfl) ?_ | refine VR1 [0, 1] (by kernel_rfl) ?_
    push_cast (disch := omega)
    repeat refine And.intro (by omega) ?_
    rcases h4 with h1 | ⟨h1, h2⟩ | ⟨h1, h2, h3⟩ | ⟨h1, h2, h3, h4⟩
    · repeat refine V_seq (x := .seq _ _) ?_
      first | refine VR [0, 1, 31] (by kernel_rfl) ?_ | refine VR1 [0, 1, 31] (by kernel_rfl) ?_
      push_cast (disch := omega)
      repeat refine And.intro (by omega) ?_
      repeat refine V_seq (x := .seq _ _) ?_
      first | refine V_seq (V_ift rfl ?_) | refine V_ift rfl ?_
      repeat refine V_seq (x := .seq _ _) ?_
      first | refine VR [4] (by kernel_rfl) ?_ | refine VR1 [4] (by kernel_rfl) ?_
      push_cast (disch := omega)
      repeat refine And.intro (by omega) ?_
      refine callM_of (alive_any w) ?_
      rintro _ w1 ⟨rfl, hu1⟩
      push_cast (disch := omega)
      repeat refine And.intro (by omega) ?_
      first | refine V_seq (V_ret ?_) | refine V_ret ?_
      push_cast (disch := omega)
      exact hu1
    · repeat refine V_seq (x := .seq _ _) ?_
      first | refine VR [0, 1, 31] (by kernel_rfl) ?_ | refine VR1 [0, 1, 31] (by kernel_rfl) ?_
      push_cast (disch := omega)
      repeat refine And.intro (by omega) ?_
      repeat refine V_seq (x := .seq _ _) ?_
      first | refine V_seq (V_ift rfl ?_) | refine V_ift rfl ?_
      repeat refine V_seq (x := .seq _ _) ?_
      first | refine VR [4] (by kernel_rfl) ?_ | refine VR1 [4] (by kernel_rfl) ?_
      push_cast (disch := omega)
      repeat refine And.intro (by omega) ?_
      refine callM_of (alive_any w) ?_
      rintro _ w1 ⟨rfl, hu1⟩
      push_cast (disch := omega)
      repeat refine And.intro (by omega) ?_
      first | refine V_seq (V_ret ?_) | refine V_ret ?_
      push_cast (disch := omega)
      exact hu1
    · repeat refine V_seq (x := .seq _ _) ?_
      first | refine VR [0, 1, 31] (by kernel_rfl) ?_ | refine VR1 [0, 1, 31] (by kernel_rfl) ?_
      push_cast (disch := omega)
      repeat refine And.intro (by omega) ?_
      repeat refine V_seq (x := .seq _ _) ?_
      first | refine V_seq (V_ift rfl ?_) | refine V_ift rfl ?_
      repeat refine V_seq (x := .seq _ _) ?_
      first | refine VR [4] (by kernel_rfl) ?_ | refine VR1 [4] (by kernel_rfl) ?_
      push_cast (disch := omega)
      repeat refine And.intro (by omega) ?_
      refine callM_of (alive_any w) ?_
      rintro _ w1 ⟨rfl, hu1⟩
      push_cast (disch := omega)
      repeat refine And.intro (by omega) ?_
      first | refine V_seq (V_ret ?_) | refine V_ret ?_
      push_cast (disch := omega)
      exact hu1
    · repeat refine V_seq (x := .seq _ _) ?_
      first | refine VR [0, 1, 31] (by kernel_rfl) ?_ | refine VR1 [0, 1, 31] (by kernel_rfl) ?_
      push_cast (disch := omega)
      repeat refine And.intro (by omega) ?_
      repeat refine V_seq (x := .seq _ _) ?_
      first | refine V_seq (V_ift rfl ?_) | refine V_ift rfl ?_
      repeat refine V_seq (x := .seq _ _) ?_
      first | refine VR [4] (by kernel_rfl) ?_ | refine VR1 [4] (by kernel_rfl) ?_
      push_cast (disch := omega)
      repeat refine And.intro (by omega) ?_
      refine callM_of (alive_any w) ?_
      rintro _ w1 ⟨rfl, hu1⟩
      push_cast (disch := omega)
      repeat refine And.intro (by omega) ?_
      first | refine V_seq (V_ret ?_) | refine V_ret ?_
      push_cast (disch := omega)
      exact hu1
end Go.Proofs
