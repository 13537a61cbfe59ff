import Derived.Test.YthknnpojfhohbaaGreatWalkD
namespace Go.Proofs
open Go Go.Vc Go.RowKit Go.Lib
set_option maxRecDepth 100000
set_option linter.unusedVariables false
set_option linter.unusedSimpArgs false
theorem page_zero : (pageO (zerosB 32)).2 = 6 := by kernel_rfl
/-- A page that is no sealed page names nothing. -/
theorem unslot_bad (b : ByteArray) (w : World) (hb : b.size ≤ 1000000) (h : (pageO b).2 ≠ 0) : CallM Tryz.prog 42 #[.string b] w fun v w' => v = .tuple #[.int .i64 0, .slice none 0 0, .int .i64 (pageO b).2] ∧ Up w w' := by
  refine callM_V (args := [.string b]) Tryz.func42 rfl Tryz.ntmps42 rfl (rs := [(.tmp 2), (.tmp 3), (.tmp 4)]) rfl ?_
  push_cast (disch := omega)
  repeat refine V_seq (x := .seq _ _) ?_
  first | refine VR [0] (by kernel_rfl) ?_ | refine VR1 [0] (by kernel_rfl) ?_
  push_cast (disch := omega)
  repeat refine And.intro (by omega) ?_
  repeat refine V_seq (x := .seq _ _) ?_
  first | refine VR [0, 5, 6] (by kernel_rfl) ?_ | refine VR1 [0, 5, 6] (by kernel_rfl) ?_
  push_cast (disch := omega)
  repeat refine And.intro (by omega) ?_
  refine callM_of (open_leaf b w hb) ?_
  rintro _ w2 ⟨rfl, hu2⟩
  push_cast (disch := omega)
  repeat refine And.intro (by omega) ?_
  push_cast (disch := omega)
  repeat refine And.intro (by omega) ?_
  repeat refine V_seq (x := .seq _ _) ?_
  first | refine VR [0, 5, 6, 18] (by kernel_rfl) ?_ | refine VR1 [0, 5, 6, 18] (by kernel_rfl) ?_
  push_cast (disch := omega)
  repeat refine And.intro (by omega) ?_
  repeat refine V_seq (x := .seq _ _) ?_
  first | refine V_seq (V_ift rfl ?_) | refine V_ift rfl ?_
  repeat refine V_seq (x := .seq _ _) ?_
  first | refine VR [2, 3, 4] (by kernel_rfl) ?_ | refine VR1 [2, 3, 4] (by kernel_rfl) ?_
  push_cast (disch := omega)
  repeat refine And.intro (by omega) ?_
  first | refine V_seq (V_ret ?_) | refine V_ret ?_
  push_cast (disch := omega)
  exact hu2
/-- Open of a plate on which no slot is. -/
theorem bopen_fresh (w : World) (p f m : Nat) (pl : PlS) (hp : PlateAt w p f m pl) (hpok : pl.ok) (hpo : pl.off = false) (h4 : 4 ≤ pl.fixed.length) (hbad : ∀ k : Int, 0 ≤ k ∧ k < 2 → (pageO (pl.get k).1).2 ≠ 0) :
    CallM Tryz.prog 13 #[.pointer (some ⟨p, 0, none⟩)] w fun v w' => ∃ B M, v = .tuple #[.pointer (some ⟨B, 0, none⟩), .int .i64 0] ∧ BnAt w' B p M (.slice none 0 0) ⟨0, [], [], false⟩ ∧ w.heap.size ≤ B ∧ w.heap.size ≤ M ∧ Up w w' := by
  refine callM_V (args := [.pointer (some ⟨p, 0, none⟩)]) Tryz.func13 rfl Tryz.ntmps13 rfl (rs := [(.tmp 2), (.tmp 3)]) rfl ?_
  push_cast (disch := omega)
  repeat refine V_seq (x := .seq _ _) ?_
  first | refine VR [0] (by kernel_rfl) ?_ | refine VR1 [0] (by kernel_rfl) ?_
  push_cast (disch := omega)
  repeat refine And.intro (by omega) ?_
  repeat refine V_seq (x := .seq _ _) ?_
  first | refine V_seq (V_block ?_) | refine V_block ?_
  repeat refine V_seq (x := .seq _ _) ?_
  first | refine VR [0, 14] (by kernel_rfl) ?_ | refine VR1 [0, 14] (by kernel_rfl) ?_
  push_cast (disch := omega)
  repeat refine And.intro (by omega) ?_
  refine callM_of (ppages_any w p f m pl hp) ?_
  rintro _ w1 ⟨rfl, rfl⟩
  push_cast (disch := omega)
  repeat refine And.intro (by omega) ?_
  repeat refine V_seq (x := .seq _ _) ?_
  first | refine V_seq (V_iff rfl ?_) | refine V_iff rfl ?_
  repeat refine V_seq (x := .seq _ _) ?_
  first | refine VR [0, 18] (by kernel_rfl) ?_ | refine VR1 [0, 18] (by kernel_rfl) ?_
  push_cast (disch := omega)
  repeat refine And.intro (by omega) ?_
  refine callM_of (pon_any w1 p f m pl hp) ?_
  rintro _ w2 ⟨rfl, rfl⟩
  push_cast (disch := omega)
  repeat refine And.intro (by omega) ?_
  rw [hpo]
  push_cast (disch := omega)
  repeat refine And.intro (by omega) ?_
  repeat refine V_seq (x := .seq _ _) ?_
  first | refine V_seq (V_iff rfl ?_) | refine V_iff rfl ?_
  first | refine V_seq (V_skip ?_) | refine V_skip ?_
  push_cast (disch := omega)
  repeat refine V_seq (x := .seq _ _) ?_
  first | refine VR [0, 4] (by kernel_rfl) ?_ | refine VR1 [0, 4] (by kernel_rfl) ?_
  push_cast (disch := omega)
  repeat refine And.intro (by omega) ?_
  refine makeMapM (q := .i64) ?_
  rintro M w3 hb3 hs3 hu3 hm3
  push_cast (disch := omega)
  repeat refine And.intro (by omega) ?_
  refine fun B w4 hb4 hs4 hu4 hg4 => ?_
  push_cast (disch := omega)
  repeat refine And.intro (by omega) ?_
  have hm4 := hm3.over hu4 id
  repeat refine V_seq (x := .seq _ _) ?_
  first | refine VR [0, 4, 26] (by kernel_rfl) ?_ | refine VR1 [0, 4, 26] (by kernel_rfl) ?_
  push_cast (disch := omega)
  repeat refine And.intro (by omega) ?_
  have hm4' := hm4
  have hu24 := hu3.trans hu4
  repeat refine V_seq (x := .seq _ _) ?_
  first | refine V_seq (V_block ?_) | refine V_block ?_
  repeat refine V_seq (x := .seq _ _) ?_
  first | refine V_seq (V_loopE (ι := Nat) [0, 4, 26] (fun i => [(0, .pointer (some ⟨p, 0, none⟩)), (4, .pointer (some ⟨B, 0, none⟩)), (26, .int .i64 i)]) (fun i => fun w' => i ≤ 2 ∧ Up w4 w') (fun i => 2 - i) (0) (by first | (push_cast; rfl) | (push_cast; done)) (⟨Nat.zero_le _, Kp.refl _ _⟩) ?_) | refine V_loopE (ι := Nat) [0, 4, 26] (fun i => [(0, .pointer (some ⟨p, 0, none⟩)), (4, .pointer (some ⟨B, 0, none⟩)), (26, .int .i64 i)]) (fun i => fun w' => i ≤ 2 ∧ Up w4 w') (fun i => 2 - i) (0) (by first | (push_cast; rfl) | (push_cast; done)) (⟨Nat.zero_le _, Kp.refl _ _⟩) ?_
  rintro i wl hI
  obtain ⟨hi, hU⟩ := hI
  repeat refine V_seq (x := .seq _ _) ?_
  first | refine VR [0, 4, 26, 27] (by kernel_rfl) ?_ | refine VR1 [0, 4, 26, 27] (by kernel_rfl) ?_
  push_cast (disch := omega)
  repeat refine And.intro (by omega) ?_
  repeat refine V_seq (x := .seq _ _) ?_
  first | refine V_seq (V_ifd rfl (fun hlt0 => ?_) (fun hlt0 => ?_)) | refine V_ifd rfl (fun hlt0 => ?_) (fun hlt0 => ?_)
  · first | refine V_seq (V_skip ?_) | refine V_skip ?_
    push_cast (disch := omega)
    repeat refine V_seq (x := .seq _ _) ?_
    first | refine V_seq (V_block ?_) | refine V_block ?_
    repeat refine V_seq (x := .seq _ _) ?_
    first | refine VR [0, 4, 5, 26] (by kernel_rfl) ?_ | refine VR1 [0, 4, 5, 26] (by kernel_rfl) ?_
    push_cast (disch := omega)
    repeat refine And.intro (by omega) ?_
    repeat refine V_seq (x := .seq _ _) ?_
    first | refine VR [0, 4, 5, 6, 26] (by kernel_rfl) ?_ | refine VR1 [0, 4, 5, 6, 26] (by kernel_rfl) ?_
    push_cast (disch := omega)
    repeat refine And.intro (by omega) ?_
    refine callM_of (pget_any wl p f m pl i (hp.up (hu24.trans hU))) ?_
    rintro _ w5 ⟨rfl, rfl⟩
    push_cast (disch := omega)
    repeat refine And.intro (by omega) ?_
    have hgs := hpok.get i
    push_cast (disch := omega)
    repeat refine And.intro (by omega) ?_
    repeat refine V_seq (x := .seq _ _) ?_
    first | refine VR [0, 4, 5, 8, 9, 10, 26] (by kernel_rfl) ?_ | refine VR1 [0, 4, 5, 8, 9, 10, 26] (by kernel_rfl) ?_
    push_cast (disch := omega)
    repeat refine And.intro (by omega) ?_
    have hbi := hbad i (by omega)
    refine callM_of (unslot_bad (pl.get i).1 w5 (by omega) hbi) ?_
    rintro _ w6 ⟨rfl, hu6⟩
    push_cast (disch := omega)
    repeat refine And.intro (by omega) ?_
    push_cast (disch := omega)
    repeat refine And.intro (by omega) ?_
    repeat refine V_seq (x := .seq _ _) ?_
    first | refine VR [0, 4, 8, 9, 26, 56] (by kernel_rfl) ?_ | refine VR1 [0, 4, 8, 9, 26, 56] (by kernel_rfl) ?_
    push_cast (disch := omega)
    repeat refine And.intro (by omega) ?_
    repeat refine V_seq (x := .seq _ _) ?_
    first | refine V_seq (V_iff rfl ?_) | refine V_iff rfl ?_
    first | refine V_seq (V_skip ?_) | refine V_skip ?_
    push_cast (disch := omega)
    repeat refine V_seq (x := .seq _ _) ?_
    first | refine VR [0, 4, 26] (by kernel_rfl) ?_ | refine VR1 [0, 4, 26] (by kernel_rfl) ?_
    push_cast (disch := omega)
    repeat refine And.intro (by omega) ?_
    refine ⟨i + 1, ?_, ?_, (by dsimp only; omega)⟩ <;> dsimp only
    · push_cast
    · exact ⟨by omega, hU.trans hu6⟩
  · first | refine V_seq (V_exit ?_) | refine V_exit ?_
    push_cast (disch := omega)
    repeat refine V_seq (x := .seq _ _) ?_
    first | refine VR [0, 4, 70] (by kernel_rfl) ?_ | refine VR1 [0, 4, 70] (by kernel_rfl) ?_
    push_cast (disch := omega) [Up.get hU hg4]
    repeat refine And.intro (by omega) ?_
    repeat refine V_seq (x := .seq _ _) ?_
    first | refine V_seq (V_ift rfl ?_) | refine V_ift rfl ?_
    repeat refine V_seq (x := .seq _ _) ?_
    first | refine VR [2, 3] (by kernel_rfl) ?_ | refine VR1 [2, 3] (by kernel_rfl) ?_
    push_cast (disch := omega)
    repeat refine And.intro (by omega) ?_
    first | refine V_seq (V_ret ?_) | refine V_ret ?_
    push_cast (disch := omega)
    have hsz := hu24.size
    refine ⟨B, M, rfl, ⟨Up.get hU hg4, SlOf.nil _ _ _, ⟨⟨[], 0, hm4'.over hU id, fun k => trivial⟩, List.Pairwise.nil⟩⟩, by omega, by omega, hu24.trans hU⟩
end Go.Proofs
namespace Go.Proofs
open Go Go.Vc Go.RowKit Go.Lib
set_option maxRecDepth 100000
set_option linter.unusedVariables false
set_option linter.unusedSimpArgs false
/-! ### What a plate says behind its acts -/
theorem get_lay {s : PlS} (h : s.off = false) (k j : Int) (b : ByteArray) : (s.lay k b).get j = if j = k ∧ 0 ≤ j ∧ j < s.fixed.length then (b, 0) else s.get j := by
  unfold PlS.get
  simp only [PlS.lay, h, Bool.false_eq_true, if_false]
  by_cases h1 : 0 ≤ j ∧ j < s.fixed.length
  · by_cases h2 : j = k
    · subst h2; rw [if_pos h1, if_pos rfl, if_pos ⟨rfl, h1⟩]; rfl
    · simp [h1, h2]
  · simp [h1]
theorem get_fix (s : PlS) (j : Int) : s.fix.get j = s.get j := by
  unfold PlS.get
  have e1 : s.fix.off = s.off := rfl
  have e2 : s.fix.fixed.length = s.fixed.length := by simp [PlS.fix]
  have e3 : s.fix.laid j = none := rfl
  rw [e1, e2, e3]
  by_cases ho : s.off = true
  · rw [if_pos ho, if_pos ho]
  · rw [if_neg ho, if_neg ho]
    by_cases h1 : 0 ≤ j ∧ j < s.fixed.length
    · rw [if_pos h1, if_pos h1]
      have hj : j.toNat < s.fixed.length := by omega
      have hjj : ((j.toNat : Nat) : Int) = j := by omega
      simp only [PlS.fix, Option.getD_none]
      rw [List.getD_eq_getElem?_getD, List.getElem?_map, List.getElem?_range hj]
      simp [hjj]
    · rw [if_neg h1, if_neg h1]
theorem get_lays_not {l : List (Int × ByteArray)} {s : PlS} (h : s.off = false) {k : Int} (hk : k ∉ l.map (·.1)) : (s.lays l).get k = s.get k := by
  induction l generalizing s with
  | nil => rfl
  | cons x l ih =>
    rw [List.map_cons, List.mem_cons, not_or] at hk
    show ((s.lay x.1 x.2).lays l).get k = _
    rw [ih (by exact h) hk.2, get_lay h, if_neg (fun e => hk.1 e.1)]
theorem get_lays_mem {l : List (Int × ByteArray)} {s : PlS} (h : s.off = false) {k : Int} {b : ByteArray} (hk : (k, b) ∈ l) (hn : (l.map (·.1)).Nodup) (hr : 0 ≤ k ∧ k < s.fixed.length) : (s.lays l).get k = (b, 0) := by
  induction l generalizing s with
  | nil => cases hk
  | cons x l ih =>
    rw [List.map_cons, List.nodup_cons] at hn
    show ((s.lay x.1 x.2).lays l).get k = _
    rcases List.mem_cons.1 hk with rfl | hk
    · rw [get_lays_not (by exact h) hn.1, get_lay h, if_pos ⟨rfl, hr⟩]
    · exact ih (by exact h) hk hn.2 hr
theorem write_get {s : PlS} (h : s.off = false) (pages : List (Int × ByteArray)) (gen : Int) (table : List Int) {k : Int} (hk : k ≠ gen % 2) : (s.write pages gen table).get k = (s.lays pages).get k := by
  unfold PlS.write
  have ho : ((s.lays pages).fix).off = false := by rw [(fix_keep _).2.1, (lays_keep _ _).2.1, h]
  rw [get_fix, get_lay ho, if_neg (fun e => hk e.1), get_fix]
theorem write_keep {s : PlS} (pages : List (Int × ByteArray)) (gen : Int) (table : List Int) : (s.write pages gen table).fixed.length = s.fixed.length ∧ (s.write pages gen table).off = s.off ∧ (s.write pages gen table).sn = s.sn := by
  unfold PlS.write
  obtain ⟨a1, a2, a3⟩ := lays_keep pages s
  obtain ⟨b1, b2, b3⟩ := fix_keep (s.lays pages)
  obtain ⟨c1, c2, c3⟩ := fix_keep (((s.lays pages).fix).lay (gen % 2) (slotR gen table).1)
  exact ⟨by rw [c1]; show (s.lays pages).fix.fixed.length = _; rw [b1, a1], by rw [c2]; show (s.lays pages).fix.off = _; rw [b2, a2], by rw [c3]; show (s.lays pages).fix.sn = _; rw [b3, a3]⟩
theorem PlS.ok.lay {s : PlS} (h : s.ok) (k : Int) {b : ByteArray} (hb : b.size = 32) : (s.lay k b).ok :=
  ⟨h.fixed, fun j x hx => by
    simp only [PlS.lay] at hx
    split at hx
    · cases hx; exact hb
    · exact h.laid j x hx⟩
theorem PlS.ok.fix {s : PlS} (h : s.ok) : s.fix.ok := by
  refine ⟨fun b hb => ?_, fun k b hb => by cases hb⟩
  obtain ⟨i, hi, rfl⟩ := List.mem_map.1 hb
  have hi := List.mem_range.1 hi
  cases hl : s.laid (i : Int) with
  | some x => exact h.laid _ x hl
  | none => simp only [Option.getD_none]; rw [List.getD_eq_getElem?_getD, List.getElem?_eq_getElem hi]; exact h.fixed _ (List.getElem_mem hi)
theorem PlS.ok.lays {l : List (Int × ByteArray)} {s : PlS} (h : s.ok) (hl : ∀ x ∈ l, x.2.size = 32) : (s.lays l).ok := by
  induction l generalizing s with
  | nil => exact h
  | cons x l ih => exact ih (h.lay x.1 (hl x List.mem_cons_self)) (fun y hy => hl y (List.mem_cons_of_mem _ hy))
theorem PlS.ok.write {s : PlS} (h : s.ok) {pages : List (Int × ByteArray)} {gen : Int} {table : List Int} (hl : ∀ x ∈ pages, x.2.size = 32) (hs : (slotR gen table).1.size = 32) : (s.write pages gen table).ok := (((h.lays hl).fix).lay _ hs).fix
theorem PlS.ok.new (n : Nat) : (PlS.new n).ok := ⟨fun b hb => by rw [(List.mem_replicate.1 hb).2]; exact zerosB_size 32, fun k b hb => by cases hb⟩
theorem get_new {n : Nat} {k : Int} (h : 0 ≤ k ∧ k < n) : (PlS.new n).get k = (zerosB 32, 0) := by
  unfold PlS.get
  have e : (PlS.new n).fixed.length = n := by simp [PlS.new]
  rw [if_neg (by simp [PlS.new]), e, if_pos h]
  have hk : k.toNat < n := by omega
  simp [PlS.new, hk]
/-! ### Where a plan lays -/
theorem zip_fst {α β : Type} (l : List α) (r : List β) : (l.zip r).map (·.1) = l.take r.length := by
  induction l generalizing r with
  | nil => simp
  | cons x l ih =>
    cases r with
    | nil => simp
    | cons y r => simp [ih]
theorem lay_free (s : DrS) (b : ByteArray) : (s.lay b).pages.map (·.1) ++ (s.lay b).free = s.pages.map (·.1) ++ s.free := by
  show (s.pages ++ s.free.zip ((partsB b).map layB)).map (·.1) ++ s.free.drop (partsB b).length = _
  rw [List.map_append, zip_fst, List.length_map, List.append_assoc, List.take_append_drop]
theorem step_free (s : DrS) (c : ChS) : (s.step c).pages.map (·.1) ++ (s.step c).free = s.pages.map (·.1) ++ s.free := by
  unfold DrS.step
  split
  · rfl
  · exact lay_free s c.bytes
theorem foldl_free (l : List ChS) (s : DrS) : (l.foldl DrS.step s).pages.map (·.1) ++ (l.foldl DrS.step s).free = s.pages.map (·.1) ++ s.free := by
  induction l generalizing s with
  | nil => rfl
  | cons c l ih => rw [List.foldl_cons, ih, step_free]
theorem plan_free (s : BnS) (n : Nat) (l : List ChS) : (s.plan n l).pages.map (·.1) ++ (s.plan n l).free = s.free n := by
  unfold BnS.plan
  refine (lay_free (l.foldl DrS.step (s.start n)) (l.foldl DrS.step (s.start n)).text).trans ?_
  rw [foldl_free]
  rfl
theorem plan_nodup (s : BnS) (n : Nat) (l : List ChS) : ((s.plan n l).pages.map (·.1)).Nodup := by
  have h := freeN_nodup s.used n
  have e := plan_free s n l
  unfold BnS.free at e
  rw [← e] at h
  exact (List.nodup_append.1 h).1
theorem plan_unused {s : BnS} {n : Nat} {l : List ChS} {k : Int} (h : k ∈ (s.plan n l).pages.map (·.1)) : k ∉ s.used := by
  have : k ∈ s.free n := by rw [← plan_free s n l]; exact List.mem_append_left _ h
  exact (mem_freeN.1 this).2
theorem mem_used {s : BnS} {k : Int} : k ∈ s.used ↔ k ∈ s.table ∨ k ∈ pagesK s.kv := by rw [BnS.used, mem_sortI, List.mem_append]
/-- What is named stays as it is. -/
theorem commit_keeps {s : BnS} {pl : PlS} {l : List ChS} (ho : pl.off = false) (hg : (s.plan pl.fixed.length l).full = false) {k : Int} (hk : k ∈ s.used) (h2 : 2 ≤ k) : (pl.write (s.plan pl.fixed.length l).pages (s.gen + 1) (s.plan pl.fixed.length l).table).get k = pl.get k := by
  rw [write_get ho _ _ _ (by omega), get_lays_not ho (fun h => plan_unused h hk)]
theorem len_of_nodup {l : List Int} (h : l.Nodup) (lo n : Nat) (hr : ∀ k ∈ l, (lo : Int) ≤ k ∧ k < lo + n) : l.length ≤ n := by
  have hs : SortedK ((sortI l).map fun k => (k, 0, [])) := by
    refine List.pairwise_map.2 ?_
    have h1 := sortI_sorted l
    have h2 : (sortI l).Nodup := (List.mergeSort_perm l _).nodup_iff.2 h
    exact (h1.and h2).imp (by intro a b hab; show a < b; omega)
  have := sorted_len hs lo n (fun x hx => by
    obtain ⟨k, hk, rfl⟩ := List.mem_map.1 hx
    exact hr k (mem_sortI.1 hk))
  simpa [sortI_len] using this
end Go.Proofs
namespace Go.Proofs
open Go Go.Vc Go.RowKit Go.Lib
set_option maxRecDepth 100000
set_option linter.unusedVariables false
set_option linter.unusedSimpArgs false
/-- The bytes of 'thing'. -/
def thingS : ByteArray := ⟨#[116, 104, 105, 110, 103]⟩
theorem thing_parts : partsB thingS = [thingS] := by kernel_rfl
theorem thing_read : readB (layB thingS) = (thingS, 0) := by kernel_rfl
theorem catB_one (b : ByteArray) : (⟨(catB [b]).toArray⟩ : ByteArray) = b := by simp [catB]
/-- A binder on n pages all whose things are 'thing', each on a page of its own. -/
structure FI (n : Nat) (s : BnS) (pl : PlS) : Prop where
  soff : s.off = false
  sn : pl.sn = false
  poff : pl.off = false
  len : pl.fixed.length = n
  pok : pl.ok
  sok : s.ok
  srt : SortedK s.kv
  th : ∀ x ∈ s.kv, x.2.1 = 5 ∧ ∃ q, x.2.2 = [q] ∧ (2 ≤ q ∧ q < n) ∧ pl.get q = (layB thingS, 0)
  nd : (pagesK s.kv).Nodup
theorem FI.get {n : Nat} {s : BnS} {pl : PlS} (h : FI n s pl) {k : Int} (hk : k ∈ keysK s.kv) : s.get pl k = (thingS, 0) := by
  obtain ⟨x, hx, rfl⟩ := List.mem_map.1 hk
  obtain ⟨h5, q, hq, _, hg⟩ := h.th x hx
  have hr : pl.readL [q] = ([thingS], 0) := by
    simp only [PlS.readL, hg, thing_read, if_true]
  unfold BnS.get
  rw [h.soff, h.poff, getK_of_mem h.srt hx]
  dsimp only
  rw [hq, hr, catB_one, thing_parts]
  have hc : (catB [thingS]).length = x.2.1 := by rw [h5]; rfl
  simp [hc]
theorem FI.check {n : Nat} {s : BnS} {pl : PlS} (h : FI n s pl) : s.check pl = [] := by
  unfold BnS.check
  rw [List.filter_eq_nil_iff]
  intro k hk
  rw [h.get hk]
  decide
theorem pagesK_mem {kv : KV} {x : Int × Nat × List Int} {q : Int} (hx : x ∈ kv) (hq : q ∈ x.2.2) : q ∈ pagesK kv := List.mem_flatMap.2 ⟨x, hx, hq⟩
theorem mem_pagesK {kv : KV} {q : Int} (h : q ∈ pagesK kv) : ∃ x ∈ kv, q ∈ x.2.2 := List.mem_flatMap.1 h
theorem pagesK_del (kv : KV) (k : Int) : (pagesK (delK kv k)).Sublist (pagesK kv) := by
  induction kv with
  | nil => exact List.Sublist.slnil
  | cons x r ih =>
    unfold pagesK delK at ih ⊢
    rw [List.filter_cons, List.flatMap_cons]
    split
    · rw [List.flatMap_cons]
      exact List.Sublist.append (List.Sublist.refl _) ih
    · exact ih.trans (List.sublist_append_right _ _)
theorem putK_end {kv : KV} {k : Int} {v : Nat × List Int} (h : ∀ x ∈ kv, x.1 < k) : putK kv k v = kv ++ [(k, v)] := by
  induction kv with
  | nil => rfl
  | cons x r ih =>
    have := h x List.mem_cons_self
    rw [putK, if_neg (by omega), if_neg (by omega), ih (fun y hy => h y (List.mem_cons_of_mem _ hy))]
    rfl
theorem FI.len_kv {n : Nat} {s : BnS} {pl : PlS} (h : FI n s pl) : (pagesK s.kv).length = s.kv.length ∧ s.kv.length ≤ n := by
  have h1 : ∀ kv : KV, (∀ x ∈ kv, x.2.2.length = 1) → (pagesK kv).length = kv.length := by
    intro kv
    induction kv with
    | nil => intro _; rfl
    | cons x r ih =>
      intro hx
      unfold pagesK at ih ⊢
      rw [List.flatMap_cons, List.length_append, List.length_cons, hx x List.mem_cons_self, ih (fun y hy => hx y (List.mem_cons_of_mem _ hy))]
      omega
  have h2 := h1 s.kv (fun x hx => by obtain ⟨_, q, hq, _⟩ := h.th x hx; rw [hq]; rfl)
  have h3 := len_of_nodup h.nd 0 n (fun k hk => by
    obtain ⟨x, hx, hk⟩ := mem_pagesK hk
    obtain ⟨_, q, hq, hr, _⟩ := h.th x hx
    rw [hq] at hk
    have : k = q := by simpa using hk
    omega)
  exact ⟨h2, by omega⟩
theorem FI.keep {n : Nat} {s : BnS} {pl : PlS} (h : FI n s pl) {l : List ChS} (hf : (s.plan pl.fixed.length l).full = false) {x : Int × Nat × List Int} (hx : x ∈ s.kv) :
    x.2.1 = 5 ∧ ∃ q, x.2.2 = [q] ∧ (2 ≤ q ∧ q < n) ∧ (pl.write (s.plan pl.fixed.length l).pages (s.gen + 1) (s.plan pl.fixed.length l).table).get q = (layB thingS, 0) := by
  obtain ⟨h5, q, hq, hr, hg⟩ := h.th x hx
  refine ⟨h5, q, hq, hr, ?_⟩
  rw [commit_keeps h.poff hf (mem_used.2 (.inr (pagesK_mem hx (by rw [hq]; simp)))) hr.1, hg]
/-- The parts of the law that do not hang on what was changed. -/
theorem FI.write {n : Nat} {s : BnS} {pl : PlS} (h : FI n s pl) {l : List ChS} (hl : ∀ c ∈ l, (1 ≤ c.key ∧ c.key ≤ 90) ∧ c.bytes.size ≤ 300) (hn : n ≤ 250) (hf : (s.plan pl.fixed.length l).full = false)
    (hsrt : SortedK (s.plan pl.fixed.length l).kv)
    (hth : ∀ x ∈ (s.plan pl.fixed.length l).kv, x.2.1 = 5 ∧ ∃ q, x.2.2 = [q] ∧ (2 ≤ q ∧ q < n) ∧ (pl.write (s.plan pl.fixed.length l).pages (s.gen + 1) (s.plan pl.fixed.length l).table).get q = (layB thingS, 0))
    (hnd : (pagesK (s.plan pl.fixed.length l).kv).Nodup) :
    FI n ⟨s.gen + 1, (s.plan pl.fixed.length l).table, (s.plan pl.fixed.length l).kv, false⟩ (pl.write (s.plan pl.fixed.length l).pages (s.gen + 1) (s.plan pl.fixed.length l).table) := by
  obtain ⟨f1, f2, f3, f4⟩ := plan_facts hf
  obtain ⟨g1, g2⟩ := plan_few (n := pl.fixed.length) h.sok h.srt (by rw [h.len]; exact hn) hl
  have hgen := h.sok.gen
  obtain ⟨w1, w2, w3⟩ := write_keep (s := pl) (s.plan pl.fixed.length l).pages (s.gen + 1) (s.plan pl.fixed.length l).table
  have hlen := h.len
  have hslot := (slotR_ok (gen := s.gen + 1) (l := (s.plan pl.fixed.length l).table) (by omega) f2 (fun k hk => by have := f3 k hk; omega)).2
  exact ⟨rfl, w3.trans h.sn, w2.trans h.poff, w1.trans h.len, h.pok.write (fun x hx => (f4 x hx).2) hslot, ⟨g2, by show (s.plan pl.fixed.length l).table.length ≤ 255; omega, ⟨by show 0 ≤ s.gen + 1; omega, by show s.gen + 1 ≤ 1000000000; omega⟩⟩, hsrt, hth, hnd⟩
/-- One more thing. -/
theorem FI.put {n j : Nat} {s : BnS} {pl : PlS} (h : FI n s pl) (hn : n ≤ 250) (hj : j + 1 ≤ 90) (hk : keysK s.kv = (List.range j).map fun i : Nat => ((i + 1 : Nat) : Int)) (hg : s.gen = j) :
    rightL s.kv none [⟨((j + 1 : Nat) : Int), thingS, false⟩] = true ∧ ((s.plan pl.fixed.length [⟨((j + 1 : Nat) : Int), thingS, false⟩]).full = false →
      FI n ⟨s.gen + 1, (s.plan pl.fixed.length [⟨((j + 1 : Nat) : Int), thingS, false⟩]).table, (s.plan pl.fixed.length [⟨((j + 1 : Nat) : Int), thingS, false⟩]).kv, false⟩ (pl.write (s.plan pl.fixed.length [⟨((j + 1 : Nat) : Int), thingS, false⟩]).pages (s.gen + 1) (s.plan pl.fixed.length [⟨((j + 1 : Nat) : Int), thingS, false⟩]).table) ∧
      keysK (s.plan pl.fixed.length [⟨((j + 1 : Nat) : Int), thingS, false⟩]).kv = (List.range (j + 1)).map fun i : Nat => ((i + 1 : Nat) : Int)) := by
  have hl : ∀ c ∈ [(⟨((j + 1 : Nat) : Int), thingS, false⟩ : ChS)], (1 ≤ c.key ∧ c.key ≤ 90) ∧ c.bytes.size ≤ 300 := by
    intro c hc
    simp at hc
    subst hc
    refine ⟨⟨by show (1 : Int) ≤ ((j + 1 : Nat) : Int); omega, by show ((j + 1 : Nat) : Int) ≤ 90; omega⟩, ?_⟩
    show thingS.size ≤ 300
    decide
  refine ⟨?_, fun hf => ?_⟩
  · have h1 : ¬ (((j + 1 : Nat) : Int) < 1) := by omega
    have h2 : ¬ (((j + 1 : Nat) : Int) > 90) := by omega
    have h3 : thingS.size ≤ 300 := by decide
    simp only [rightL, rightC, decide_eq_false h1, decide_eq_false h2, decide_eq_true h3]
    rfl
  · have hw := h.write hl hn hf
    have hkeep := @FI.keep n s pl h _ hf
    have hfr := plan_nodup s pl.fixed.length [⟨((j + 1 : Nat) : Int), thingS, false⟩]
    have hun := @plan_unused s pl.fixed.length [⟨((j + 1 : Nat) : Int), thingS, false⟩]
    obtain ⟨f1, f2, f3, f4⟩ := plan_facts hf
    -- the plan, written out
    have hp1 : (partsB thingS).length = 1 := by rw [thing_parts]; rfl
    obtain ⟨hd1, _, _⟩ := DrS.done_full (show ((s.start pl.fixed.length).step ⟨((j + 1 : Nat) : Int), thingS, false⟩).done.full = false from hf)
    have hfree : 1 ≤ (s.free pl.fixed.length).length := by
      have : ((s.start pl.fixed.length).full || decide ((s.free pl.fixed.length).length < (partsB thingS).length)) = false := hd1
      rw [Bool.or_eq_false_iff] at this
      have := of_decide_eq_false this.2
      omega
    obtain ⟨q, rest, hq⟩ : ∃ q rest, s.free pl.fixed.length = q :: rest := by
      cases hx : s.free pl.fixed.length with
      | nil => rw [hx] at hfree; simp at hfree
      | cons q rest => exact ⟨q, rest, rfl⟩
    have hout : (s.start pl.fixed.length).out thingS = [q] := by
      unfold DrS.out
      show (if (partsB thingS).length ≤ (s.free pl.fixed.length).length then (s.free pl.fixed.length).take (partsB thingS).length else []) = [q]
      rw [if_pos (by omega), hp1, hq]; rfl
    have hkv : (s.plan pl.fixed.length [⟨((j + 1 : Nat) : Int), thingS, false⟩]).kv = s.kv ++ [(((j + 1 : Nat) : Int), 5, [q])] := by
      show putK s.kv ((j + 1 : Nat) : Int) (thingS.size, (s.start pl.fixed.length).out thingS) = _
      rw [hout, putK_end (fun x hx => by
        have : x.1 ∈ keysK s.kv := List.mem_map_of_mem (f := fun x : Int × Nat × List Int => x.1) hx
        rw [hk] at this
        obtain ⟨i, hi, h1⟩ := List.mem_map.1 this
        have := List.mem_range.1 hi
        omega)]
      rfl
    have hmem : (q, layB thingS) ∈ (s.plan pl.fixed.length [⟨((j + 1 : Nat) : Int), thingS, false⟩]).pages := by
      show (q, layB thingS) ∈ ([] ++ (s.free pl.fixed.length).zip ((partsB thingS).map layB)) ++ _
      refine List.mem_append_left _ ?_
      rw [thing_parts, hq]
      simp
    have hqr := (f4 _ hmem).1
    have hqu := hun (List.mem_map_of_mem (f := fun x : Int × ByteArray => x.1) hmem)
    have hlen := h.len
    refine ⟨hw ?_ ?_ ?_, ?_⟩
    · rw [hkv]
      refine List.pairwise_append.2 ⟨h.srt, List.pairwise_singleton _ _, fun x hx y hy => ?_⟩
      simp at hy
      subst hy
      have : x.1 ∈ keysK s.kv := List.mem_map_of_mem (f := fun x : Int × Nat × List Int => x.1) hx
      rw [hk] at this
      obtain ⟨i, hi, h1⟩ := List.mem_map.1 this
      have := List.mem_range.1 hi
      show x.1 < ((j + 1 : Nat) : Int)
      omega
    · intro x hx
      rw [hkv] at hx
      rcases List.mem_append.1 hx with hx | hx
      · exact hkeep hx
      · simp at hx
        subst hx
        refine ⟨rfl, q, rfl, by omega, ?_⟩
        rw [write_get h.poff _ _ _ (by omega), get_lays_mem h.poff hmem hfr (by omega)]
    · rw [hkv]
      unfold pagesK
      rw [List.flatMap_append]
      refine List.nodup_append.2 ⟨h.nd, by simp, ?_⟩
      intro a ha b hb e
      simp at hb
      subst hb
      subst e
      exact hqu (mem_used.2 (.inr ha))
    · rw [hkv]
      unfold keysK at hk ⊢
      rw [List.map_append, hk, List.range_succ, List.map_append]
      rfl
/-- A thing that goes. -/
theorem FI.del {n j : Nat} {s : BnS} {pl : PlS} (h : FI n s pl) (hn : n ≤ 60) (hj : 1 ≤ j ∧ j ≤ 90) (hk : keysK s.kv = (List.range j).map fun i : Nat => ((i + 1 : Nat) : Int)) (hg : s.gen = j) :
    rightL s.kv none [⟨((j : Nat) : Int), .empty, true⟩] = true ∧ ((s.plan pl.fixed.length [⟨((j : Nat) : Int), .empty, true⟩]).full = false →
      FI n ⟨s.gen + 1, (s.plan pl.fixed.length [⟨((j : Nat) : Int), .empty, true⟩]).table, (s.plan pl.fixed.length [⟨((j : Nat) : Int), .empty, true⟩]).kv, false⟩ (pl.write (s.plan pl.fixed.length [⟨((j : Nat) : Int), .empty, true⟩]).pages (s.gen + 1) (s.plan pl.fixed.length [⟨((j : Nat) : Int), .empty, true⟩]).table)) ∧
      ((s.plan pl.fixed.length [⟨((j : Nat) : Int), .empty, true⟩]).full = true → (s.free n).length < 11) := by
  have hl : ∀ c ∈ [(⟨((j : Nat) : Int), .empty, true⟩ : ChS)], (1 ≤ c.key ∧ c.key ≤ 90) ∧ c.bytes.size ≤ 300 := by
    intro c hc
    simp at hc
    subst hc
    refine ⟨⟨by show (1 : Int) ≤ ((j : Nat) : Int); omega, by show ((j : Nat) : Int) ≤ 90; omega⟩, ?_⟩
    show ByteArray.empty.size ≤ 300
    decide
  have hkv : (s.plan pl.fixed.length [⟨((j : Nat) : Int), .empty, true⟩]).kv = delK s.kv ((j : Nat) : Int) := rfl
  refine ⟨?_, fun hf => ?_, fun hf => ?_⟩
  · have h1 : ¬ (((j : Nat) : Int) < 1) := by omega
    have h2 : ¬ (((j : Nat) : Int) > 90) := by omega
    have h3 : ByteArray.empty.size ≤ 300 := by decide
    have h4 : (getK s.kv ((j : Nat) : Int)).isSome = true := by
      refine (mem_keysK h.srt).1 ?_
      rw [hk]
      exact List.mem_map.2 ⟨j - 1, List.mem_range.2 (by omega), by omega⟩
    simp only [rightL, rightC, decide_eq_false h1, decide_eq_false h2, decide_eq_true h3, h4]
    rfl
  · refine h.write hl (by omega) hf ?_ ?_ ?_
    · rw [hkv]; exact delK_sorted h.srt _
    · intro x hx
      rw [hkv] at hx
      exact h.keep hf (List.filter_sublist.subset hx)
    · rw [hkv]
      exact (pagesK_del s.kv _).nodup h.nd
  · have hlk := h.len_kv
    have hD : (s.start pl.fixed.length).step ⟨((j : Nat) : Int), .empty, true⟩ = { s.start pl.fixed.length with kv := delK s.kv ((j : Nat) : Int) } := rfl
    have hfull : ((((decide (s.gen ≥ 1000000000)) || decide ((s.free pl.fixed.length).length < (partsB ⟨(textL (delK s.kv ((j : Nat) : Int))).toArray⟩).length))) || decide ((DrS.out { s.start pl.fixed.length with kv := delK s.kv ((j : Nat) : Int) } ⟨(textL (delK s.kv ((j : Nat) : Int))).toArray⟩).length > 11)) = true := hf
    have hsz : (⟨(textL (delK s.kv ((j : Nat) : Int))).toArray⟩ : ByteArray).size ≤ 241 := by
      show (List.toArray _).size ≤ 241
      rw [List.size_toArray, textL_len]
      have h1 : (delK s.kv ((j : Nat) : Int)).length ≤ s.kv.length := List.length_filter_le _ _
      have h2 := (pagesK_del s.kv ((j : Nat) : Int)).length_le
      omega
    have hnp := partsB_need ⟨(textL (delK s.kv ((j : Nat) : Int))).toArray⟩
    have hol := DrS.out_len { s.start pl.fixed.length with kv := delK s.kv ((j : Nat) : Int) } ⟨(textL (delK s.kv ((j : Nat) : Int))).toArray⟩
    rw [h.len] at hfull
    rw [Bool.or_eq_true, Bool.or_eq_true] at hfull
    rcases hfull with (hfull | hfull) | hfull
    · have := of_decide_eq_true hfull; omega
    · have := of_decide_eq_true hfull; omega
    · have := of_decide_eq_true hfull
      rw [h.len] at hol
      omega
end Go.Proofs
namespace Go.Proofs
open Go Go.Vc Go.RowKit Go.Lib
set_option maxRecDepth 100000
set_option linter.unusedVariables false
set_option linter.unusedSimpArgs false
def xS : ByteArray := ⟨#[120]⟩
def bn0 : BnS := ⟨0, [], [], false⟩
theorem x_parts : partsB xS = [xS] := by kernel_rfl
theorem x_read : readB (layB xS) = (xS, 0) := by kernel_rfl
theorem used_none (g : Int) (o : Bool) : BnS.used ⟨g, [], [], o⟩ = [] := sortI_of (l := [] ++ pagesK []) List.Pairwise.nil
theorem bn0_ok : bn0.ok := ⟨fun x hx => (by cases hx), Nat.zero_le _, by decide⟩
theorem FI.zero {n : Nat} : FI n bn0 (PlS.new n) := ⟨rfl, rfl, rfl, by simp [PlS.new], PlS.ok.new n, bn0_ok, List.Pairwise.nil, fun x hx => (by cases hx), List.nodup_nil⟩
theorem new_bad {n : Nat} (h : 2 ≤ n) (k : Int) (hk : 0 ≤ k ∧ k < 2) : (pageO ((PlS.new n).get k).1).2 ≠ 0 := by
  rw [get_new (by omega)]
  show (pageO (zerosB 32)).2 ≠ 0
  rw [page_zero]; decide
def aliveC : List ChS := [⟨5, xS, false⟩]
theorem alive_free : bn0.free 8 = [2, 3, 4, 5, 6, 7] := by unfold BnS.free bn0; rw [used_none]; kernel_rfl
def aliveT : ByteArray := ⟨(textL [(5, 1, [2])]).toArray⟩
theorem alive_plan : bn0.plan 8 aliveC = ⟨[4, 5, 6, 7], [(5, 1, [2])], [(2, layB xS), (3, layB aliveT)], [3], false⟩ := by
  unfold BnS.plan BnS.start
  rw [alive_free]
  kernel_rfl
def bn1 : BnS := ⟨1, [3], [(5, 1, [2])], false⟩
def pl1 : PlS := (PlS.new 8).write [(2, layB xS), (3, layB aliveT)] 1 [3]
theorem alive_commit : bn0.commit (PlS.new 8) aliveC = (bn1, pl1, 0) := by
  have e : (PlS.new 8).fixed.length = 8 := by simp [PlS.new]
  have hr : rightL bn0.kv none aliveC = true := by kernel_rfl
  unfold BnS.commit
  rw [e, alive_plan, if_pos hr]
  rfl
theorem bn1_ok : bn1.ok := ⟨fun x hx => by
  have : x = (5, 1, [2]) := by simpa [bn1] using hx
  subst this
  refine ⟨by decide, by decide, by decide, fun k hk => ?_⟩
  have : k = 2 := by simpa using hk
  omega, by decide, by decide⟩
theorem pl1_ok : pl1.ok ∧ pl1.sn = false ∧ pl1.off = false ∧ pl1.fixed.length = 8 := by
  obtain ⟨a1, a2, a3⟩ := write_keep (s := PlS.new 8) [(2, layB xS), (3, layB aliveT)] 1 [3]
  refine ⟨(PlS.ok.new 8).write (fun x hx => ?_) (slotR_ok (by decide) (by decide) (by decide)).2, a3, a2, by rw [pl1, a1]; simp [PlS.new]⟩
  have : x = (2, layB xS) ∨ x = (3, layB aliveT) := by simpa using hx
  rcases this with rfl | rfl
  · exact layB_size (by decide)
  · exact layB_size (by decide)
theorem alive_get : bn1.get pl1 5 = (xS, 0) := by
  have hg : pl1.get 2 = (layB xS, 0) := by
    rw [pl1, write_get rfl _ _ _ (by decide), get_lays_mem (b := layB xS) rfl (by simp) (by decide) ⟨by decide, by decide⟩]
  have hr : pl1.readL [2] = ([xS], 0) := by simp only [PlS.readL, hg, x_read, if_true]
  obtain ⟨_, _, ho, _⟩ := pl1_ok
  unfold BnS.get
  have hk : getK bn1.kv 5 = some (1, [2]) := by kernel_rfl
  have h0 : bn1.off = false := rfl
  rw [ho, h0, hk]
  dsimp only
  rw [hr, catB_one, x_parts]
  have hc : (catB [xS]).length = 1 := by kernel_rfl
  simp [hc]
theorem alive_used : bn1.used = [2, 3] := by
  have : sortI ([3] ++ pagesK [(5, 1, [2])]) = sortI [2, 3] := sortI_perm (by decide)
  show sortI ([3] ++ pagesK [(5, 1, [2])]) = [2, 3]
  rw [this]
  exact sortI_of (by decide)
theorem alive_left : (bn1.free 8).length = 4 := by unfold BnS.free; rw [alive_used]; kernel_rfl
end Go.Proofs
namespace Go.Proofs
open Go Go.Vc Go.RowKit Go.Lib
set_option maxRecDepth 100000
set_option linter.unusedVariables false
set_option linter.unusedSimpArgs false
theorem one_row {w : World} {b : Nat} {c : ChS} (h : w.heap[b]? = some (.cells #[.int .i64 c.key, .string c.bytes, .bool c.gone] 32 (0, 0))) : SlR w 3 (.slice (some ⟨b, 0, none⟩) 1 1) 1 (chV [c]) :=
  ⟨rfl, _, _, rfl, .inr ⟨b, 0, _, _, _, rfl, h, rfl, Nat.le_refl _⟩⟩
theorem alive_any (w : World) : CallM Tryz.prog 11 #[] w fun v w' => v = .bool true ∧ Up w w' := by
  obtain ⟨p1ok, p1sn, p1off, p1len⟩ := pl1_ok
  refine callM_V (args := []) Tryz.func11 rfl Tryz.ntmps11 rfl (rs := [(.tmp 0)]) rfl ?_
  push_cast (disch := omega)
  repeat refine V_seq (x := .seq _ _) ?_
  first | refine VR [] (by kernel_rfl) ?_ | refine VR1 [] (by kernel_rfl) ?_
  push_cast (disch := omega)
  repeat refine And.intro (by omega) ?_
  repeat refine V_seq (x := .seq _ _) ?_
  first | refine VR [1] (by kernel_rfl) ?_ | refine VR1 [1] (by kernel_rfl) ?_
  push_cast (disch := omega)
  repeat refine And.intro (by omega) ?_
  refine callM_of (pnew_any 8 w (by omega)) ?_
  rintro v1 w1 ⟨p, f, m, rfl, hp1, hlt1, hu1⟩
  push_cast (disch := omega)
  repeat refine And.intro (by omega) ?_
  push_cast (disch := omega)
  repeat refine And.intro (by omega) ?_
  repeat refine V_seq (x := .seq _ _) ?_
  first | refine VR [1, 2, 3] (by kernel_rfl) ?_ | refine VR1 [1, 2, 3] (by kernel_rfl) ?_
  push_cast (disch := omega)
  repeat refine And.intro (by omega) ?_
  refine callM_of (bopen_fresh w1 p f m (PlS.new 8) hp1 (PlS.ok.new 8) rfl (by decide) (new_bad (by omega))) ?_
  rintro v2 w2 ⟨B, M, rfl, hB2, hlB, hlM, hu2⟩
  push_cast (disch := omega)
  repeat refine And.intro (by omega) ?_
  push_cast (disch := omega)
  repeat refine And.intro (by omega) ?_
  repeat refine V_seq (x := .seq _ _) ?_
  first | refine VR [2, 29] (by kernel_rfl) ?_ | refine VR1 [2, 29] (by kernel_rfl) ?_
  push_cast (disch := omega)
  repeat refine And.intro (by omega) ?_
  refine fun b3 w3 hb3 hs3 hu3 hg3 => ?_
  push_cast (disch := omega)
  repeat refine And.intro (by omega) ?_
  refine callM_of (bcommit_any w3 B p f m M _ _ bn0 (PlS.new 8) aliveC (hB2.up hu3) ((hp1.up hu2).up hu3) bn0_ok rfl rfl rfl (by decide) (one_row (c := ⟨5, xS, false⟩) hg3) (by decide)) ?_
  rw [alive_commit]
  rintro _ w4 ⟨rfl, M4, tv4, m4, hB4, hp4, hm4, hk4⟩
  have hs1 := hu1.size
  have hU : Up w w4 := Up.turn ((hu1.trans hu2).trans hu3) hk4 (fun i hi => by rcases hi with rfl | rfl | rfl | rfl <;> omega)
  dsimp only at hB4 hp4
  push_cast (disch := omega)
  repeat refine And.intro (by omega) ?_
  repeat refine V_seq (x := .seq _ _) ?_
  first | refine V_seq (V_iff rfl ?_) | refine V_iff rfl ?_
  first | refine V_seq (V_skip ?_) | refine V_skip ?_
  push_cast (disch := omega)
  repeat refine V_seq (x := .seq _ _) ?_
  first | refine VR [2, 4, 5] (by kernel_rfl) ?_ | refine VR1 [2, 4, 5] (by kernel_rfl) ?_
  push_cast (disch := omega)
  repeat refine And.intro (by omega) ?_
  refine callM_of (bget_any w4 B p f m4 M4 tv4 bn1 pl1 5 hB4 hp4 bn1_ok p1ok) ?_
  rintro _ w5 ⟨rfl, hu5⟩
  push_cast (disch := omega)
  repeat refine And.intro (by omega) ?_
  rw [alive_get]
  push_cast (disch := omega)
  repeat refine And.intro (by omega) ?_
  repeat refine V_seq (x := .seq _ _) ?_
  first | refine VR [2, 4, 5, 6] (by kernel_rfl) ?_ | refine VR1 [2, 4, 5, 6] (by kernel_rfl) ?_
  push_cast (disch := omega)
  repeat refine And.intro (by omega) ?_
  refine callM_of (bused_any w5 B p M4 tv4 bn1 (hB4.up hu5) (by rw [alive_used]; decide)) ?_
  rintro v6 w6 ⟨ho6, hu6⟩
  push_cast (disch := omega)
  repeat refine And.intro (by omega) ?_
  rw [alive_used] at ho6
  obtain ⟨ua, uc, rfl⟩ := ho6.shape
  obtain ⟨b0, o0, c0, cs, T, fr, hpv, hb0, hle, htk⟩ := (SlR.of_own ho6).some (by decide)
  injection hpv with hpa _ hpc
  subst hpa hpc
  have hc0 : cs[o0]? = some (.int .i64 2) := cell_of_take (i := 0) htk rfl
  have hc1 : cs[o0 + 1]? = some (.int .i64 3) := cell_of_take (i := 1) htk rfl
  have hu46 := hu5.trans hu6
  push_cast (disch := omega)
  repeat refine And.intro (by omega) ?_
  have hx1 : strEq xS (⟨#[120]⟩ : ByteArray) = true := by rw [strEq_dec]; exact decide_eq_true rfl
  have hx2 : decide (xS = (⟨#[120]⟩ : ByteArray)) = true := decide_eq_true rfl
  repeat refine V_seq (x := .seq _ _) ?_
  first | refine VR [0] (by kernel_rfl) ?_ | refine VR1 [0] (by kernel_rfl) ?_
  push_cast (disch := omega) [hx1, hx2]
  repeat refine And.intro (by omega) ?_
  refine callM_of (bgen_any w6 B p M4 tv4 bn1 (hB4.up hu46)) ?_
  rintro _ _ ⟨rfl, rfl⟩
  have hgn : bn1.gen = 1 := rfl
  rw [hgn]
  push_cast (disch := omega) [hb0, hc0, hc1]
  repeat refine And.intro (by omega) ?_
  refine callM_of (bFree_any _ B p f m4 M4 tv4 bn1 pl1 (hB4.up hu46) (hp4.up hu46) (by rw [alive_used]; decide)) ?_
  rintro _ w8 ⟨rfl, hu8⟩
  rw [p1len, alive_left]
  push_cast (disch := omega)
  repeat refine And.intro (by omega) ?_
  first | refine V_seq (V_ret ?_) | refine V_ret ?_
  push_cast (disch := omega)
  exact (hU.trans hu46).trans hu8
end Go.Proofs
