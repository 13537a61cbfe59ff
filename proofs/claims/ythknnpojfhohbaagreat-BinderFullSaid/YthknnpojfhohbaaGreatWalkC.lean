import Derived.Test.YthknnpojfhohbaaGreatWalkB
import Derived.Test.YthknnpojfhohbaaGreatShelfB
namespace Go.Proofs
open Go Go.Vc Go.RowKit Go.Lib Go.Sort
set_option maxRecDepth 100000
set_option linter.unusedVariables false
/-- The pages of the things of some entries. -/
def pagesOf (kv : KV) (l : List Ent) : List Int := l.flatMap fun e => ((getK kv e.1).map (·.2)).getD []
theorem pagesOf_perm {kv : KV} {l : List Ent} (hs : SortedK kv) (h : (l.map (·.1)).Perm (keysK kv)) : (pagesOf kv l).Perm (pagesK kv) := by
  rw [← flat_getK hs]
  unfold pagesOf
  have := h.flatMap_right (fun k => ((getK kv k).map (·.2)).getD [])
  rwa [List.flatMap_map] at this
theorem sortI_sorted (l : List Int) : (sortI l).Pairwise (· ≤ ·) := by
  have := List.pairwise_mergeSort (le := fun x y : Int => decide (x ≤ y)) (by intro a b c h1 h2; simp at *; omega) (by intro a b; simp; omega) l
  exact this.imp (by intro a b h; simpa using h)
theorem sortI_perm {l r : List Int} (h : l.Perm r) : sortI l = sortI r := by
  refine List.Perm.eq_of_pairwise (le := (· ≤ ·)) (by intro a b _ _ h1 h2; omega) (sortI_sorted l) (sortI_sorted r) ?_
  exact ((List.mergeSort_perm l _).trans h).trans (List.mergeSort_perm r _).symm
theorem mem_sortI {l : List Int} {k : Int} : k ∈ sortI l ↔ k ∈ l := (List.mergeSort_perm l _).mem_iff
theorem sortI_of {l : List Int} (h : l.Pairwise (· ≤ ·)) : sortI l = l := by
  refine List.Perm.eq_of_pairwise (le := (· ≤ ·)) (by intro a b _ _ h1 h2; omega) (sortI_sorted l) h (List.mergeSort_perm l _)
/-- All pages that are named. -/
def BnS.used (s : BnS) : List Int := sortI (s.table ++ pagesK s.kv)
theorem BnS.used_len (s : BnS) : s.used.length = s.table.length + (pagesK s.kv).length := by rw [BnS.used, sortI_len, List.length_append]
theorem und_mt : Tryz.prog.underlying 88 = some (.map 3 113) := by kernel_rfl
theorem bused_any (w : World) (B p M : Nat) (tv : Value) (s : BnS) (h : BnAt w B p M tv s) (hsz : s.used.length ≤ 100000) :
    CallM Tryz.prog 19 #[.pointer (some ⟨B, 0, none⟩)] w fun v w' => w'.ownsRow w.heap.size 3 1 v s.used.length (intV s.used) ∧ Up w w' := by
  have hc := h.cell
  rw [BnS.used_len] at hsz
  obtain ⟨⟨l, clock, hm, hvals⟩, hsrt⟩ := h.things
  have hkp := keys_perm hm.keys hsrt hvals
  have hpp := pagesOf_perm hsrt hkp
  have hpl := hpp.length_eq
  refine callM_V (args := [.pointer (some ⟨B, 0, none⟩)]) Tryz.func19 rfl Tryz.ntmps19 rfl (rs := [(.tmp 2)]) rfl ?_
  push_cast (disch := omega)
  repeat refine V_seq (x := .seq _ _) ?_
  first | refine VR [0] (by kernel_rfl) ?_ | refine VR1 [0] (by kernel_rfl) ?_
  push_cast (disch := omega)
  repeat refine And.intro (by omega) ?_
  repeat refine V_seq (x := .seq _ _) ?_
  first | refine VR [0, 7] (by kernel_rfl) ?_ | refine VR1 [0, 7] (by kernel_rfl) ?_
  push_cast (disch := omega)
  repeat refine And.intro (by omega) ?_
  refine callM_of (bnone_any w B p M tv s h) ?_
  rintro _ w1 ⟨rfl, rfl⟩
  push_cast (disch := omega)
  repeat refine And.intro (by omega) ?_
  repeat refine V_seq (x := .seq _ _) ?_
  first | refine V_seq (V_iff rfl ?_) | refine V_iff rfl ?_
  first | refine V_seq (V_skip ?_) | refine V_skip ?_
  push_cast (disch := omega)
  repeat refine V_seq (x := .seq _ _) ?_
  first | refine VR [0, 3] (by kernel_rfl) ?_ | refine VR1 [0, 3] (by kernel_rfl) ?_
  push_cast (disch := omega) [hc]
  repeat refine And.intro (by omega) ?_
  refine callM_of (iclone_any w1 tv s.table h.table.r (by omega)) ?_
  rintro v2 w2 ⟨ho2, hu2⟩
  push_cast (disch := omega)
  repeat refine And.intro (by omega) ?_
  have hc2 := Up.get hu2 hc
  repeat refine V_seq (x := .seq _ _) ?_
  first | refine VR [3, 17] (by kernel_rfl) ?_ | refine VR1 [3, 17] (by kernel_rfl) ?_
  push_cast (disch := omega) [hc2]
  repeat refine And.intro (by omega) ?_
  refine rangeM (hm.over hu2 id) und_mt ?_
  rintro it w3 hb3 hs3 hu3 hg3
  push_cast (disch := omega)
  repeat refine And.intro (by omega) ?_
  have hB0 := hu2.size
  have hB1 := hu3.size
  repeat refine V_seq (x := .seq _ _) ?_
  first | refine V_seq (V_block ?_) | refine V_block ?_
  repeat refine V_seq (x := .seq _ _) ?_
  first | refine V_seq (V_loopE (ι := List Nat × Nat × Value × Nat) [3, 17] (fun ⟨seen, c0, v, n⟩ => [(3, v), (17, .pointer (some ⟨it, 0, none⟩))]) (fun ⟨seen, c0, v, n⟩ => fun w' => clock ≤ c0 ∧ w'.heap[it]? = some (.mapIter (some M) clock seen.toArray c0) ∧ Up w1 w' ∧ (∃ done rest, Visit l done rest seen ∧ w'.ownsRow w1.heap.size 3 1 v n (intV (s.table ++ pagesOf s.kv done))) ∧ v.ownBlock ≠ some it) (fun ⟨seen, c0, v, n⟩ => leftN l seen) (([], clock, v2, s.table.length)) (by first | (push_cast; rfl) | (push_cast; done)) (⟨Nat.le_refl _, hg3, hu2.trans hu3, ⟨[], l, Visit.start l, by simpa [pagesOf] using ho2.over hu3 (fun _ _ e => e)⟩, fun e => by have := (ho2.lt _ e).2; omega⟩) ?_) | refine V_loopE (ι := List Nat × Nat × Value × Nat) [3, 17] (fun ⟨seen, c0, v, n⟩ => [(3, v), (17, .pointer (some ⟨it, 0, none⟩))]) (fun ⟨seen, c0, v, n⟩ => fun w' => clock ≤ c0 ∧ w'.heap[it]? = some (.mapIter (some M) clock seen.toArray c0) ∧ Up w1 w' ∧ (∃ done rest, Visit l done rest seen ∧ w'.ownsRow w1.heap.size 3 1 v n (intV (s.table ++ pagesOf s.kv done))) ∧ v.ownBlock ≠ some it) (fun ⟨seen, c0, v, n⟩ => leftN l seen) (([], clock, v2, s.table.length)) (by first | (push_cast; rfl) | (push_cast; done)) (⟨Nat.le_refl _, hg3, hu2.trans hu3, ⟨[], l, Visit.start l, by simpa [pagesOf] using ho2.over hu3 (fun _ _ e => e)⟩, fun e => by have := (ho2.lt _ e).2; omega⟩) ?_
  rintro ⟨seen, c0, v, n⟩ wl hI
  obtain ⟨hcl, hit, hU, ⟨done, rest, hvis, ho⟩, hne⟩ := hI
  have hml : MapAt wl M .i64 l clock := hm.over hU id
  repeat refine V_seq (x := .seq _ _) ?_
  first | refine VR [3, 17, 19] (by kernel_rfl) ?_ | refine VR1 [3, 17, 19] (by kernel_rfl) ?_
  push_cast (disch := omega)
  repeat refine And.intro (by omega) ?_
  refine nextM hml hit hm.old hcl ?_ ?_
  · intro hall
    push_cast (disch := omega)
    repeat refine And.intro (by omega) ?_
    repeat refine V_seq (x := .seq _ _) ?_
    first | refine V_seq (V_iff rfl ?_) | refine V_iff rfl ?_
    first | refine V_seq (V_exit ?_) | refine V_exit ?_
    push_cast (disch := omega)
    have hperm := hvis.ended hm.born hall
    have hpp2 : (pagesOf s.kv done).Perm (pagesK s.kv) := (hperm.flatMap_right _).trans hpp
    have hsame : sortI (s.table ++ pagesOf s.kv done) = s.used := sortI_perm (hpp2.append_left _)
    have hn : n = (s.table ++ pagesOf s.kv done).length := by have := ho.1; rw [intV_len] at this; omega
    subst hn
    have hpl2 := hpp2.length_eq
    repeat refine V_seq (x := .seq _ _) ?_
    first | refine VR [3] (by kernel_rfl) ?_ | refine VR1 [3] (by kernel_rfl) ?_
    push_cast (disch := omega)
    repeat refine And.intro (by omega) ?_
    refine callM_of (isort_any wl _ v _ ho (by rw [List.length_append]; omega)) ?_
    rintro r w5 ⟨rfl, ho5, hk5⟩
    push_cast (disch := omega)
    repeat refine And.intro (by omega) ?_
    repeat refine V_seq (x := .seq _ _) ?_
    first | refine VR [2] (by kernel_rfl) ?_ | refine VR1 [2] (by kernel_rfl) ?_
    push_cast (disch := omega)
    repeat refine And.intro (by omega) ?_
    first | refine V_seq (V_ret ?_) | refine V_ret ?_
    push_cast (disch := omega)
    rw [← hsame, sortI_len]
    exact ⟨ho5, hU.turn hk5 (fun i hi => (ho.lt i hi).1)⟩
  · intro e he hn w4 hs4 hx4 hg4
    push_cast (disch := omega)
    repeat refine And.intro (by omega) ?_
    repeat refine V_seq (x := .seq _ _) ?_
    first | refine V_seq (V_ift rfl ?_) | refine V_ift rfl ?_
    first | refine V_seq (V_skip ?_) | refine V_skip ?_
    push_cast (disch := omega)
    repeat refine V_seq (x := .seq _ _) ?_
    first | refine V_seq (V_block ?_) | refine V_block ?_
    obtain ⟨rest', hvis'⟩ := hvis.step he hn
    obtain ⟨⟨nn, ps⟩, hv3, pv, hv1, hv2⟩ := ent_val hm.keys hvals he
    obtain ⟨pa, pc, rfl⟩ : ∃ a c, pv = .slice a ps.length c := by obtain ⟨_, a, c, h, _⟩ := hv2; exact ⟨a, c, h⟩
    have hltM := lt_of_get hm.cell
    have hml4 : MapAt w4 M .i64 l clock := hml.over hx4 (by show M ≠ it; omega)
    have hU4 : Up w1 w4 := Up.write hU hx4 (by omega)
    have ho4 := ho.over hx4 (fun g hg e => hne (by rw [hg, e]))
    repeat refine V_seq (x := .seq _ _) ?_
    first | refine VR [3, 5, 17] (by kernel_rfl) ?_ | refine VR1 [3, 5, 17] (by kernel_rfl) ?_
    push_cast (disch := omega)
    repeat refine And.intro (by omega) ?_
    refine entryM hml4 hg4 he ?_
    rw [hv1]
    push_cast (disch := omega)
    repeat refine And.intro (by omega) ?_
    refine fun t5 w5 hb5 hs5 hu5 hg5 => ?_
    push_cast (disch := omega)
    repeat refine And.intro (by omega) ?_
    push_cast (disch := omega) [hg5]
    repeat refine And.intro (by omega) ?_
    refine fun w6 hs6 hx6 hg6 => ?_
    push_cast (disch := omega)
    repeat refine And.intro (by omega) ?_
    have hB4 := hU4.size
    have hU6 : Up w1 w6 := Up.write (hU4.trans hu5) hx6 (by omega)
    have ho6 := (ho4.over hu5 (fun _ _ e => e)).over hx6 (fun g hg e => by have := (ho4.lt g hg).2; omega)
    repeat refine V_seq (x := .seq _ _) ?_
    first | refine VR [3, 17] (by kernel_rfl) ?_ | refine VR1 [3, 17] (by kernel_rfl) ?_
    push_cast (disch := omega) [hg6]
    repeat refine And.intro (by omega) ?_
    have hnl : n = (s.table ++ pagesOf s.kv done).length := by have := ho.1; rw [intV_len] at this; omega
    have hdp : pagesOf s.kv (done ++ [e]) = pagesOf s.kv done ++ ps := by simp [pagesOf, hv3]
    have hl7 : (pagesOf s.kv done).length + ps.length ≤ (pagesOf s.kv l).length := by
      have := (hvis'.perm.flatMap_right (fun e : Ent => ((getK s.kv e.1).map (·.2)).getD [])).length_eq
      rw [List.flatMap_append, List.length_append] at this
      have e2 : ((done ++ [e]).flatMap fun e : Ent => ((getK s.kv e.1).map (·.2)).getD []) = pagesOf s.kv done ++ ps := hdp
      rw [e2, List.length_append] at this
      unfold pagesOf at *
      omega
    rw [List.length_append] at hnl
    refine appSl slT_ints ho6 hU6.size (hv2.up hU6).r (intV_one _) (by show n + ps.length ≤ _; omega) (by decide) ?_
    rintro v7 w7 ho7 hk7 hg7
    push_cast (disch := omega)
    repeat refine And.intro (by omega) ?_
    refine ⟨(seen ++ [e.2.2], clock, v7, n + ps.length), rfl, ?_, leftN_less he hn⟩
    dsimp only
    have hit6 : w6.heap[it]? = some (.mapIter (some M) clock (seen ++ [e.2.2]).toArray clock) := Kp.get hx6 (Up.get hu5 hg4) (by show it ≠ t5; have := lt_of_get hg4; omega)
    have hne6 : ¬ v.ownBlock = some it := hne
    refine ⟨Nat.le_refl _, Kp.get hk7 hit6 hne, hU6.turn hk7 (fun i hi => (ho6.lt i hi).1), ⟨done ++ [e], rest', hvis', ?_⟩, ?_⟩
    · rw [hdp, ← List.append_assoc]
      simpa [intV] using ho7
    · intro e7
      rcases hg7 with e8 | ⟨g, e8, hle⟩
      · exact hne (by rw [← e8]; exact e7)
      · rw [e8] at e7; injection e7 with e7; have := lt_of_get hit6; omega
end Go.Proofs
namespace Go.Proofs
open Go Go.Vc Go.RowKit Go.Lib
set_option maxRecDepth 100000
set_option linter.unusedVariables false
theorem drewN_up (w : World) (q : Nat) : Up w (w.drewN q) := ⟨rfl, rfl, rfl, Nat.le_refl _, fun _ _ _ => rfl⟩
/-- slices.BinarySearch over whole numbers in order: is it there? -/
theorem isearch_any (w : World) (v : Value) (l : List Int) (x : Int) (h : SlR w 1 v l.length (intV l)) (hl : l.length ≤ 1000000) (hs : l.Pairwise (· ≤ ·)) :
    CallM Tryz.prog 138 #[v, .int .i64 x] w fun r w' => (∃ n : Nat, r = .tuple #[.int .i64 n, .bool (l.contains x)]) ∧ Up w w' := by
  obtain ⟨hlen, a, c, rfl, h2⟩ := h
  rcases h2 with ⟨rfl, h0, rfl⟩ | ⟨b, o, cs, T, fr, rfl, hb, htk, hle⟩
  · have : l = [] := List.eq_nil_of_length_eq_zero h0
    subst this
    refine callM_kit (Tryz.slices_BinarySearch_int_empty none 0 x w) ?_
    rintro w' rfl
    exact ⟨⟨0, rfl⟩, Kp.refl _ _⟩
  · refine callM_kit (Tryz.slices_BinarySearch_int b o l.length c l x w (Nat.le_refl _) (by omega) (fun j hj => by
      rw [Vc.cell_of_heap hb, cell_of_take htk (intV_get hj)]
      simp [hj]) (by rw [List.take_length]; exact hs)) ?_
    rintro w' ⟨q, rfl⟩
    rw [List.take_length]
    exact ⟨⟨_, rfl⟩, drewN_up w q⟩
/-- The pages that are not named, of the first n. -/
def freeN (u : List Int) (n : Nat) : List Int := ((List.range n).map fun i : Nat => (i : Int)).filter fun k => decide (2 ≤ k) && !(u.contains k)
theorem freeN_succ (u : List Int) (n : Nat) : freeN u (n + 1) = freeN u n ++ if 2 ≤ n ∧ u.contains (n : Int) = false then [(n : Int)] else [] := by
  unfold freeN
  rw [List.range_succ, List.map_append, List.filter_append]
  congr 1
  simp only [List.map_cons, List.map_nil, List.filter_cons, List.filter_nil]
  by_cases h : 2 ≤ n
  · have : decide ((2 : Int) ≤ (n : Int)) = true := by simpa using by omega
    rw [this]
    cases hc : u.contains (n : Int) with
    | true => simp
    | false => simp [h]
  · have : decide ((2 : Int) ≤ (n : Int)) = false := by simpa using by omega
    rw [this]
    simp [h]
theorem freeN_small (u : List Int) {n : Nat} (h : n ≤ 2) : freeN u n = [] := by
  unfold freeN
  rw [List.filter_eq_nil_iff]
  intro a ha
  obtain ⟨i, hi, rfl⟩ := List.mem_map.1 ha
  have := List.mem_range.1 hi
  have : decide ((2 : Int) ≤ (i : Int)) = false := by simpa using by omega
  rw [this]; simp
theorem mem_freeN {u : List Int} {n : Nat} {k : Int} : k ∈ freeN u n ↔ (2 ≤ k ∧ k < n) ∧ k ∉ u := by
  unfold freeN
  rw [List.mem_filter, List.mem_map]
  constructor
  · rintro ⟨⟨i, hi, rfl⟩, h⟩
    have := List.mem_range.1 hi
    simp at h
    exact ⟨⟨by omega, by omega⟩, h.2⟩
  · rintro ⟨⟨h1, h2⟩, h3⟩
    refine ⟨⟨k.toNat, List.mem_range.2 (by omega), by omega⟩, ?_⟩
    simp; exact ⟨h1, h3⟩
theorem freeN_nodup (u : List Int) (n : Nat) : (freeN u n).Nodup := by
  unfold freeN
  refine List.Pairwise.filter _ ?_
  refine (List.pairwise_map.2 ?_)
  exact (List.nodup_range (n := n)).imp (by intro a b h; omega)
theorem freeN_len (u : List Int) (n : Nat) : (freeN u n).length ≤ n := by
  unfold freeN
  refine Nat.le_trans (List.length_filter_le _ _) ?_
  simp
def BnS.free (s : BnS) (n : Nat) : List Int := freeN s.used n
theorem bfree_any (w : World) (B p f m M : Nat) (tv : Value) (s : BnS) (pl : PlS) (h : BnAt w B p M tv s) (hp : PlateAt w p f m pl) (hsz : s.used.length ≤ 100000) :
    CallM Tryz.prog 60 #[.pointer (some ⟨B, 0, none⟩)] w fun v w' => w'.ownsRow w.heap.size 3 1 v (s.free pl.fixed.length).length (intV (s.free pl.fixed.length)) ∧ Up w w' := by
  have hc := h.cell
  have hsm := hp.small
  refine callM_V (args := [.pointer (some ⟨B, 0, none⟩)]) Tryz.func60 rfl Tryz.ntmps60 rfl (rs := [(.tmp 2)]) rfl ?_
  push_cast (disch := omega)
  repeat refine V_seq (x := .seq _ _) ?_
  first | refine VR [0] (by kernel_rfl) ?_ | refine VR1 [0] (by kernel_rfl) ?_
  push_cast (disch := omega)
  repeat refine And.intro (by omega) ?_
  repeat refine V_seq (x := .seq _ _) ?_
  first | refine VR [0, 3] (by kernel_rfl) ?_ | refine VR1 [0, 3] (by kernel_rfl) ?_
  push_cast (disch := omega)
  repeat refine And.intro (by omega) ?_
  refine callM_of (bused_any w B p M tv s h hsz) ?_
  rintro v1 w1 ⟨ho1, hu1⟩
  push_cast (disch := omega)
  repeat refine And.intro (by omega) ?_
  repeat refine V_seq (x := .seq _ _) ?_
  first | refine VR [0, 3, 4] (by kernel_rfl) ?_ | refine VR1 [0, 3, 4] (by kernel_rfl) ?_
  push_cast (disch := omega)
  repeat refine And.intro (by omega) ?_
  repeat refine V_seq (x := .seq _ _) ?_
  first | refine VR [0, 3, 4, 5] (by kernel_rfl) ?_ | refine VR1 [0, 3, 4, 5] (by kernel_rfl) ?_
  push_cast (disch := omega)
  repeat refine And.intro (by omega) ?_
  repeat refine V_seq (x := .seq _ _) ?_
  first | refine V_seq (V_block ?_) | refine V_block ?_
  repeat refine V_seq (x := .seq _ _) ?_
  first | refine V_seq (V_loopE (ι := Nat × Value) [0, 3, 4, 5] (fun ⟨k, v⟩ => [(0, .pointer (some ⟨B, 0, none⟩)), (3, v1), (4, v), (5, .int .i64 k)]) (fun ⟨k, v⟩ => fun w' => (2 ≤ k ∧ (k ≤ pl.fixed.length ∨ k = 2)) ∧ w'.ownsRow w.heap.size 3 1 v (freeN s.used k).length (intV (freeN s.used k)) ∧ Up w w' ∧ SlOf w' 3 1 v1 s.used.length (intV s.used) ∧ (∀ g, v.ownBlock = some g → v1.ownBlock ≠ some g)) (fun ⟨k, v⟩ => pl.fixed.length - k) ((2, .slice none 0 0)) (by first | (push_cast; rfl) | (push_cast; done)) (⟨by omega, by rw [freeN_small _ (Nat.le_refl _)]; exact World.ownsRow_nil _ _ _ _, hu1, SlOf.of_own ho1, fun g e => by cases e⟩) ?_) | refine V_loopE (ι := Nat × Value) [0, 3, 4, 5] (fun ⟨k, v⟩ => [(0, .pointer (some ⟨B, 0, none⟩)), (3, v1), (4, v), (5, .int .i64 k)]) (fun ⟨k, v⟩ => fun w' => (2 ≤ k ∧ (k ≤ pl.fixed.length ∨ k = 2)) ∧ w'.ownsRow w.heap.size 3 1 v (freeN s.used k).length (intV (freeN s.used k)) ∧ Up w w' ∧ SlOf w' 3 1 v1 s.used.length (intV s.used) ∧ (∀ g, v.ownBlock = some g → v1.ownBlock ≠ some g)) (fun ⟨k, v⟩ => pl.fixed.length - k) ((2, .slice none 0 0)) (by first | (push_cast; rfl) | (push_cast; done)) (⟨by omega, by rw [freeN_small _ (Nat.le_refl _)]; exact World.ownsRow_nil _ _ _ _, hu1, SlOf.of_own ho1, fun g e => by cases e⟩) ?_
  rintro ⟨k, v⟩ wl hI
  obtain ⟨hk, ho, hU, hs1, hap⟩ := hI
  repeat refine V_seq (x := .seq _ _) ?_
  first | refine VR [0, 3, 4, 5, 16] (by kernel_rfl) ?_ | refine VR1 [0, 3, 4, 5, 16] (by kernel_rfl) ?_
  push_cast (disch := omega) [Up.get hU hc]
  repeat refine And.intro (by omega) ?_
  refine callM_of (ppages_any wl p f m pl (hp.up hU)) ?_
  rintro _ w3 ⟨rfl, rfl⟩
  push_cast (disch := omega)
  repeat refine And.intro (by omega) ?_
  repeat refine V_seq (x := .seq _ _) ?_
  first | refine V_seq (V_ifd rfl (fun hlt => ?_) (fun hlt => ?_)) | refine V_ifd rfl (fun hlt => ?_) (fun hlt => ?_)
  · first | refine V_seq (V_skip ?_) | refine V_skip ?_
    push_cast (disch := omega)
    repeat refine V_seq (x := .seq _ _) ?_
    first | refine V_seq (V_block ?_) | refine V_block ?_
    repeat refine V_seq (x := .seq _ _) ?_
    first | refine VR [0, 3, 4, 5, 7] (by kernel_rfl) ?_ | refine VR1 [0, 3, 4, 5, 7] (by kernel_rfl) ?_
    push_cast (disch := omega)
    repeat refine And.intro (by omega) ?_
    refine callM_of (isearch_any w3 v1 s.used k hs1.r (by omega) (sortI_sorted _)) ?_
    rintro r w4 ⟨⟨n, rfl⟩, hu4⟩
    push_cast (disch := omega)
    repeat refine And.intro (by omega) ?_
    push_cast (disch := omega)
    repeat refine And.intro (by omega) ?_
    repeat refine V_seq (x := .seq _ _) ?_
    first | refine VR [0, 3, 4, 5, 26] (by kernel_rfl) ?_ | refine VR1 [0, 3, 4, 5, 26] (by kernel_rfl) ?_
    push_cast (disch := omega)
    repeat refine And.intro (by omega) ?_
    have hsl := freeN_len s.used k
    have hsuc := freeN_succ s.used k
    cases hcon : s.used.contains (k : Int) with
    | true =>
      rw [hcon, if_neg (by simp), List.append_nil] at hsuc
      repeat refine V_seq (x := .seq _ _) ?_
      first | refine V_seq (V_iff rfl ?_) | refine V_iff rfl ?_
      first | refine V_seq (V_skip ?_) | refine V_skip ?_
      push_cast (disch := omega)
      repeat refine V_seq (x := .seq _ _) ?_
      first | refine VR [0, 3, 4, 5] (by kernel_rfl) ?_ | refine VR1 [0, 3, 4, 5] (by kernel_rfl) ?_
      push_cast (disch := omega)
      repeat refine And.intro (by omega) ?_
      refine ⟨(k + 1, v), ?_, ?_, (by dsimp only; omega)⟩ <;> dsimp only
      · push_cast
      · rw [hsuc]
        exact ⟨by omega, ho.over hu4 (fun _ _ e => e), hU.trans hu4, hs1.up hu4, hap⟩
    | false =>
      rw [hcon, if_pos ⟨hk.1, rfl⟩] at hsuc
      repeat refine V_seq (x := .seq _ _) ?_
      first | refine V_seq (V_ift rfl ?_) | refine V_ift rfl ?_
      repeat refine V_seq (x := .seq _ _) ?_
      first | refine VR [0, 3, 4, 5] (by kernel_rfl) ?_ | refine VR1 [0, 3, 4, 5] (by kernel_rfl) ?_
      push_cast (disch := omega)
      repeat refine And.intro (by omega) ?_
      refine fun b5 w5 hb5 hs5 hu5 hg5 => ?_
      push_cast (disch := omega)
      repeat refine And.intro (by omega) ?_
      refine appM slT_ints (ho.over (hu4.trans hu5) (fun _ _ e => e)) hg5 (by simp) (by simp [one']) (by omega) (by decide) (by have := hU.size; have := hu4.size; omega) ?_
      rintro v6 w6 ho6 hk6 hg6
      push_cast (disch := omega)
      repeat refine And.intro (by omega) ?_
      repeat refine V_seq (x := .seq _ _) ?_
      first | refine VR [0, 3, 4, 5] (by kernel_rfl) ?_ | refine VR1 [0, 3, 4, 5] (by kernel_rfl) ?_
      push_cast (disch := omega)
      repeat refine And.intro (by omega) ?_
      have h46 := hu4.trans hu5
      have hl4 := hu4.size
      refine ⟨(k + 1, v6), ?_, ?_, (by dsimp only; omega)⟩ <;> dsimp only
      · push_cast
      · rw [hsuc]
        refine ⟨by omega, by simpa [intV] using ho6, Up.turn (hU.trans h46) hk6 (fun i hi => (ho.lt i hi).1), (hs1.up h46).over hk6 (fun g hg e => hap g e hg), ?_⟩
        intro g hg e
        rcases hg6 with e6 | e6
        · exact hap g (by rw [← e6]; exact hg) e
        · rw [e6] at hg; injection hg with hg
          have := hs1.r.lt g e
          omega
  · first | refine V_seq (V_exit ?_) | refine V_exit ?_
    push_cast (disch := omega)
    repeat refine V_seq (x := .seq _ _) ?_
    first | refine VR [2] (by kernel_rfl) ?_ | refine VR1 [2] (by kernel_rfl) ?_
    push_cast (disch := omega)
    repeat refine And.intro (by omega) ?_
    first | refine V_seq (V_ret ?_) | refine V_ret ?_
    push_cast (disch := omega)
    have hfe : freeN s.used pl.fixed.length = freeN s.used k := by
      rcases hk.2 with hk2 | hk2
      · rw [show k = pl.fixed.length from by omega]
      · rw [freeN_small _ (show pl.fixed.length ≤ 2 by omega), freeN_small _ (show k ≤ 2 by omega)]
    unfold BnS.free
    rw [hfe]
    exact ⟨ho, hU⟩
theorem bFree_any (w : World) (B p f m M : Nat) (tv : Value) (s : BnS) (pl : PlS) (h : BnAt w B p M tv s) (hp : PlateAt w p f m pl) (hsz : s.used.length ≤ 100000) :
    CallM Tryz.prog 21 #[.pointer (some ⟨B, 0, none⟩)] w fun v w' => v = .int .i64 (s.free pl.fixed.length).length ∧ Up w w' := by
  have hc := h.cell
  refine callM_V (args := [.pointer (some ⟨B, 0, none⟩)]) Tryz.func21 rfl Tryz.ntmps21 rfl (rs := [(.tmp 2)]) rfl ?_
  push_cast (disch := omega)
  repeat refine V_seq (x := .seq _ _) ?_
  first | refine VR [0] (by kernel_rfl) ?_ | refine VR1 [0] (by kernel_rfl) ?_
  push_cast (disch := omega)
  repeat refine And.intro (by omega) ?_
  repeat refine V_seq (x := .seq _ _) ?_
  first | refine VR [0, 4] (by kernel_rfl) ?_ | refine VR1 [0, 4] (by kernel_rfl) ?_
  push_cast (disch := omega)
  repeat refine And.intro (by omega) ?_
  refine callM_of (bnone_any w B p M tv s h) ?_
  rintro _ w1 ⟨rfl, rfl⟩
  push_cast (disch := omega)
  repeat refine And.intro (by omega) ?_
  repeat refine V_seq (x := .seq _ _) ?_
  first | refine V_seq (V_iff rfl ?_) | refine V_iff rfl ?_
  first | refine V_seq (V_skip ?_) | refine V_skip ?_
  push_cast (disch := omega)
  repeat refine V_seq (x := .seq _ _) ?_
  first | refine VR [2] (by kernel_rfl) ?_ | refine VR1 [2] (by kernel_rfl) ?_
  push_cast (disch := omega)
  repeat refine And.intro (by omega) ?_
  refine callM_of (bfree_any w1 B p f m M tv s pl h hp hsz) ?_
  rintro v2 w2 ⟨ho2, hu2⟩
  push_cast (disch := omega)
  repeat refine And.intro (by omega) ?_
  obtain ⟨a, c, rfl⟩ := ho2.shape
  push_cast (disch := omega)
  repeat refine And.intro (by omega) ?_
  first | refine V_seq (V_ret ?_) | refine V_ret ?_
  push_cast (disch := omega)
  exact hu2
end Go.Proofs
namespace Go.Proofs
open Go Go.Vc Go.RowKit Go.Lib
set_option maxRecDepth 100000
set_option linter.unusedVariables false
/-- slices.Equal over texts. -/
theorem sequal_any (w : World) (v u : Value) (l r : List ByteArray) (h : SlR w 1 v l.length (strV l)) (h' : SlR w 1 u r.length (strV r)) (hl : l.length ≤ 1000000) (hr : r.length ≤ 1000000) :
    CallM Tryz.prog 44 #[v, u] w fun x w' => x = .bool (decide (l = r)) ∧ Up w w' := by
  obtain ⟨_, a, c, rfl, h2⟩ := h
  obtain ⟨_, a', c', rfl, h2'⟩ := h'
  by_cases hlen : l.length = r.length
  · by_cases h0 : l.length = 0
    · have e1 : l = [] := List.eq_nil_of_length_eq_zero h0
      have e2 : r = [] := List.eq_nil_of_length_eq_zero (by omega)
      subst e1 e2
      refine callM_kit (Tryz.slices_Equal_string_empty a a' c 0 c' w (by omega)) ?_
      rintro w' rfl
      exact ⟨rfl, Kp.refl _ _⟩
    · rcases h2 with ⟨_, h2, _⟩ | ⟨b, o, cs, T, fr, rfl, hb, htk, hle⟩
      · exact absurd h2 h0
      · rcases h2' with ⟨_, h2', _⟩ | ⟨b', o', cs', T', fr', rfl, hb', htk', hle'⟩
        · omega
        · refine callM_kit (Tryz.slices_Equal_string b o l.length c b' o' r.length c' l r w (Nat.le_refl _) (Nat.le_refl _) (by omega) (by omega) (fun j hj => by
            rw [Vc.cell_of_heap hb, cell_of_take htk (strV_get hj)]
            simp [hj]) (fun j hj => by
            rw [Vc.cell_of_heap hb', cell_of_take htk' (strV_get hj)]
            simp [hj])) ?_
          rintro w' ⟨q, rfl⟩
          rw [List.take_length, List.take_length]
          exact ⟨rfl, drewN_up w q⟩
  · refine callM_kit (Tryz.slices_Equal_string_lens a a' l.length c r.length c' w hlen) ?_
    rintro w' rfl
    have : ¬ l = r := fun e => hlen (by rw [e])
    rw [decide_eq_false this]
    exact ⟨rfl, Kp.refl _ _⟩
/-- A state that may be. -/
structure BnS.ok (s : BnS) : Prop where
  rng : ∀ x ∈ s.kv, (1 ≤ x.1 ∧ x.1 ≤ 90) ∧ x.2.1 ≤ 300 ∧ x.2.2.length ≤ 12 ∧ ∀ k ∈ x.2.2, 2 ≤ k ∧ k < 250
  tbl : s.table.length ≤ 255
  gen : 0 ≤ s.gen ∧ s.gen ≤ 1000000000
theorem sorted_len {kv : KV} (hs : SortedK kv) (lo n : Nat) (h : ∀ x ∈ kv, (lo : Int) ≤ x.1 ∧ x.1 < lo + n) : kv.length ≤ n := by
  induction n generalizing kv lo with
  | zero =>
    cases kv with
    | nil => exact Nat.le_refl _
    | cons x r => have := h x List.mem_cons_self; omega
  | succ n ih =>
    cases kv with
    | nil => exact Nat.zero_le _
    | cons x r =>
      obtain ⟨h1, h2⟩ := List.pairwise_cons.1 hs
      have hx := h x List.mem_cons_self
      have := ih h2 (lo + 1) (fun y hy => by have := h1 y hy; have := h y (List.mem_cons_of_mem _ hy); omega)
      rw [List.length_cons]; omega
theorem flat_len {kv : KV} {c : Nat} (h : ∀ x ∈ kv, x.2.2.length ≤ c) : (pagesK kv).length ≤ kv.length * c := by
  induction kv with
  | nil => exact Nat.zero_le _
  | cons x r ih =>
    unfold pagesK at ih ⊢
    rw [List.flatMap_cons, List.length_append, List.length_cons, Nat.add_mul]
    have := h x List.mem_cons_self
    have := ih (fun y hy => h y (List.mem_cons_of_mem _ hy))
    omega
theorem BnS.ok.len {s : BnS} (h : s.ok) (hs : SortedK s.kv) : s.kv.length ≤ 90 ∧ s.used.length ≤ 100000 := by
  have h1 := sorted_len hs 1 90 (fun x hx => by have := (h.rng x hx).1; omega)
  have h2 := flat_len (c := 12) (fun x hx => (h.rng x hx).2.2.1)
  have h3 := h.tbl
  refine ⟨h1, ?_⟩
  rw [BnS.used_len]
  omega
/-- A thing's bytes; or what is wrong. -/
def BnS.get (s : BnS) (pl : PlS) (key : Int) : ByteArray × Int :=
  if (s.off || pl.off) = true then (.empty, 7) else match getK s.kv key with
  | none => (.empty, 2)
  | some x => if (pl.readL x.2).2 = 0 ∧ (catB (pl.readL x.2).1).length = x.1 ∧ (pl.readL x.2).1 = partsB ⟨(catB (pl.readL x.2).1).toArray⟩ then (⟨(catB (pl.readL x.2).1).toArray⟩, 0) else (.empty, 6)
theorem zero_thing : zeroOf Tryz.prog 113 = some (.agg #[.int .i64 0, .slice none 0 0]) := by kernel_rfl
theorem readL_len (s : PlS) (l : List Int) : (s.readL l).1.length ≤ l.length ∧ (catB (s.readL l).1).length ≤ 27 * l.length := by
  induction l with
  | nil => exact ⟨Nat.le_refl _, Nat.le_refl _⟩
  | cons k r ih =>
    rw [PlS.readL]
    split
    · split
      · split
        · have := readB_size (s.get k).1
          have e : (readB (s.get k).1).1.data.toList.length = (readB (s.get k).1).1.size := by simp
          simp only [List.length_cons, catB, List.length_append]
          omega
        · exact ⟨Nat.zero_le _, Nat.zero_le _⟩
      · exact ⟨Nat.zero_le _, Nat.zero_le _⟩
    · exact ⟨Nat.zero_le _, Nat.zero_le _⟩
theorem partsN_len (n : Nat) (b : ByteArray) : (partsN n b).length ≤ n := by
  induction n generalizing b with
  | zero => exact Nat.le_refl _
  | succ n ih =>
    rw [partsN]
    split
    · exact Nat.zero_le _
    · rw [List.length_cons]; have := ih (b.extract (min b.size 27) b.size); omega
theorem bget_any (w : World) (B p f m M : Nat) (tv : Value) (s : BnS) (pl : PlS) (key : Int) (h : BnAt w B p M tv s) (hp : PlateAt w p f m pl) (hok : s.ok) (hpok : pl.ok) :
    CallM Tryz.prog 24 #[.pointer (some ⟨B, 0, none⟩), .int .i64 key] w fun v w' => v = .tuple #[.string (s.get pl key).1, .int .i64 (s.get pl key).2] ∧ Up w w' := by
  have hc := h.cell
  obtain ⟨⟨l, clock, hm, hvals⟩, hsrt⟩ := h.things
  unfold BnS.get
  refine callM_V (args := [.pointer (some ⟨B, 0, none⟩), .int .i64 key]) Tryz.func24 rfl Tryz.ntmps24 rfl (rs := [(.tmp 4), (.tmp 5)]) rfl ?_
  push_cast (disch := omega)
  repeat refine V_seq (x := .seq _ _) ?_
  first | refine VR [0, 1] (by kernel_rfl) ?_ | refine VR1 [0, 1] (by kernel_rfl) ?_
  push_cast (disch := omega)
  repeat refine And.intro (by omega) ?_
  repeat refine V_seq (x := .seq _ _) ?_
  first | refine V_seq (V_block ?_) | refine V_block ?_
  repeat refine V_seq (x := .seq _ _) ?_
  first | refine VR [0, 1, 11] (by kernel_rfl) ?_ | refine VR1 [0, 1, 11] (by kernel_rfl) ?_
  push_cast (disch := omega)
  repeat refine And.intro (by omega) ?_
  refine callM_of (bnone_any w B p M tv s h) ?_
  rintro _ w1 ⟨rfl, rfl⟩
  push_cast (disch := omega)
  repeat refine And.intro (by omega) ?_
  repeat refine V_seq (x := .seq _ _) ?_
  first | refine V_seq (V_iff rfl ?_) | refine V_iff rfl ?_
  cases hoff : s.off with
  | true =>
    rw [hoff] at hc
    repeat refine V_seq (x := .seq _ _) ?_
    first | refine VR [0, 1, 14] (by kernel_rfl) ?_ | refine VR1 [0, 1, 14] (by kernel_rfl) ?_
    push_cast (disch := omega) [hc]
    repeat refine And.intro (by omega) ?_
    repeat refine V_seq (x := .seq _ _) ?_
    first | refine V_seq (V_ift rfl ?_) | refine V_ift rfl ?_
    repeat refine V_seq (x := .seq _ _) ?_
    first | refine VR [4, 5] (by kernel_rfl) ?_ | refine VR1 [4, 5] (by kernel_rfl) ?_
    push_cast (disch := omega)
    repeat refine And.intro (by omega) ?_
    first | refine V_seq (V_ret ?_) | refine V_ret ?_
    push_cast (disch := omega)
    exact ⟨rfl, Kp.refl _ _⟩
  | false =>
    rw [hoff] at hc
    repeat refine V_seq (x := .seq _ _) ?_
    first | refine VR [0, 1, 14] (by kernel_rfl) ?_ | refine VR1 [0, 1, 14] (by kernel_rfl) ?_
    push_cast (disch := omega) [hc]
    repeat refine And.intro (by omega) ?_
    refine callM_of (pon_any w1 p f m pl hp) ?_
    rintro _ w2 ⟨rfl, rfl⟩
    push_cast (disch := omega)
    repeat refine And.intro (by omega) ?_
    cases hpo : pl.off with
    | true =>
      repeat refine V_seq (x := .seq _ _) ?_
      first | refine V_seq (V_ift rfl ?_) | refine V_ift rfl ?_
      repeat refine V_seq (x := .seq _ _) ?_
      first | refine VR [4, 5] (by kernel_rfl) ?_ | refine VR1 [4, 5] (by kernel_rfl) ?_
      push_cast (disch := omega)
      repeat refine And.intro (by omega) ?_
      first | refine V_seq (V_ret ?_) | refine V_ret ?_
      push_cast (disch := omega)
      exact ⟨rfl, Kp.refl _ _⟩
    | false =>
      repeat refine V_seq (x := .seq _ _) ?_
      first | refine V_seq (V_iff rfl ?_) | refine V_iff rfl ?_
      first | refine V_seq (V_skip ?_) | refine V_skip ?_
      push_cast (disch := omega)
      repeat refine V_seq (x := .seq _ _) ?_
      first | refine VR [0, 6, 7] (by kernel_rfl) ?_ | refine VR1 [0, 6, 7] (by kernel_rfl) ?_
      push_cast (disch := omega) [hc]
      repeat refine And.intro (by omega) ?_
      refine lookM hm und_mt und_int zero_thing ?_
      have hk := hvals key
      cases hgk : getK s.kv key with
      | none =>
        rw [hgk] at hk
        have hgm : getM l key = none := by cases hx : getM l key with | none => rfl | some v => rw [hx] at hk; exact hk.elim
        rw [hgm]
        simp only [Option.getD_none, Option.isSome_none]
        push_cast (disch := omega)
        repeat refine And.intro (by omega) ?_
        refine fun b3 w3 hb3 hs3 hu3 hg3 => ?_
        push_cast (disch := omega)
        repeat refine And.intro (by omega) ?_
        push_cast (disch := omega) [hg3]
        repeat refine And.intro (by omega) ?_
        refine fun w4 hs4 hx4 hg4 => ?_
        push_cast (disch := omega)
        repeat refine And.intro (by omega) ?_
        repeat refine V_seq (x := .seq _ _) ?_
        first | refine VR [0, 6, 37] (by kernel_rfl) ?_ | refine VR1 [0, 6, 37] (by kernel_rfl) ?_
        push_cast (disch := omega)
        repeat refine And.intro (by omega) ?_
        repeat refine V_seq (x := .seq _ _) ?_
        first | refine V_seq (V_ift rfl ?_) | refine V_ift rfl ?_
        repeat refine V_seq (x := .seq _ _) ?_
        first | refine VR [4, 5] (by kernel_rfl) ?_ | refine VR1 [4, 5] (by kernel_rfl) ?_
        push_cast (disch := omega)
        repeat refine And.intro (by omega) ?_
        first | refine V_seq (V_ret ?_) | refine V_ret ?_
        push_cast (disch := omega)
        exact ⟨rfl, Up.write hu3 hx4 (by omega)⟩
      | some x =>
        rw [hgk] at hk
        obtain ⟨n, ps⟩ := x
        obtain ⟨v, hgm, hv⟩ : ∃ v, getM l key = some v ∧ okV w2 v (n, ps) := by cases hx : getM l key with | none => rw [hx] at hk; exact hk.elim | some v => rw [hx] at hk; exact ⟨v, rfl, hk⟩
        obtain ⟨pv, rfl, hpv⟩ := hv
        have hrng := (hok.rng _ (mem_of_getK hgk)).2
        have hrng1 : n ≤ 300 := hrng.1
        have hrng2 : ps.length ≤ 12 := hrng.2.1
        obtain ⟨pa, pc, rfl⟩ : ∃ a c, pv = .slice a ps.length c := by obtain ⟨_, a, c, h, _⟩ := hpv; exact ⟨a, c, h⟩
        rw [hgm]
        simp only [Option.getD_some, Option.isSome_some]
        push_cast (disch := omega)
        repeat refine And.intro (by omega) ?_
        refine fun b3 w3 hb3 hs3 hu3 hg3 => ?_
        push_cast (disch := omega)
        repeat refine And.intro (by omega) ?_
        push_cast (disch := omega) [hg3]
        repeat refine And.intro (by omega) ?_
        refine fun w4 hs4 hx4 hg4 => ?_
        push_cast (disch := omega)
        repeat refine And.intro (by omega) ?_
        have hu4 : Up w2 w4 := Up.write hu3 hx4 (by omega)
        have hc4 := Up.get hu4 hc
        repeat refine V_seq (x := .seq _ _) ?_
        first | refine VR [0, 6, 37] (by kernel_rfl) ?_ | refine VR1 [0, 6, 37] (by kernel_rfl) ?_
        push_cast (disch := omega)
        repeat refine And.intro (by omega) ?_
        repeat refine V_seq (x := .seq _ _) ?_
        first | refine V_seq (V_iff rfl ?_) | refine V_iff rfl ?_
        first | refine V_seq (V_skip ?_) | refine V_skip ?_
        push_cast (disch := omega)
        repeat refine V_seq (x := .seq _ _) ?_
        first | refine VD [6, 8, 9, 10] [(true, 0), (true, 1), (true, 2), (true, 3), (true, 4), (true, 5), (false, 6), (true, 7), (true, 8), (true, 9), (true, 10), (true, 11), (true, 12), (true, 13)] (by kernel_rfl) (N := [3, 5]) (by kernel_rfl) Tryz.mixed (fun _ _ _ h => h) ?_ | refine VD1 [6, 8, 9, 10] [(true, 0), (true, 1), (true, 2), (true, 3), (true, 4), (true, 5), (false, 6), (true, 7), (true, 8), (true, 9), (true, 10), (true, 11), (true, 12), (true, 13)] (by kernel_rfl) (N := [3, 5]) (by kernel_rfl) Tryz.mixed (fun _ _ _ h => h) ?_
        intro w5 hh5 hu5
        push_cast (disch := omega) [hh5, hc4, hg4]
        repeat refine And.intro (by omega) ?_
        have hu25 := hu4.trans hu5
        have hrl := readL_len pl ps
        refine callM_of (bread_any w5 p f m pl _ ps (hp.up hu25) hpok (hpv.up hu25).r (by omega)) ?_
        rintro _ w6 ⟨⟨v6, rfl, ho6⟩, hu6⟩
        refine And.intro (up_ok (hu6)) ?_
        push_cast (disch := omega)
        repeat refine And.intro (by omega) ?_
        push_cast (disch := omega)
        repeat refine And.intro (by omega) ?_
        generalize hT : (⟨(catB (pl.readL ps).1).toArray⟩ : ByteArray) = T
        have hTs : T.size = (catB (pl.readL ps).1).length := by rw [← hT]; simp [ByteArray.size]
        generalize hX : (pl.readL ps).1 = X at *
        obtain ⟨va, vc, rfl⟩ := ho6.shape
        have hg6 := Up.get hu6 (Up.get hu5 hg4)
        have hu26 := hu25.trans hu6
        simp only [Bool.or_self, Bool.false_eq_true, if_false]
        by_cases h1 : (pl.readL ps).2 = 0
        · by_cases h2 : T.size = n
          · repeat refine V_seq (x := .seq _ _) ?_
            first | refine VR [8, 64] (by kernel_rfl) ?_ | refine VR1 [8, 64] (by kernel_rfl) ?_
            push_cast (disch := omega) [hg6]
            repeat refine And.intro (by omega) ?_
            refine callM_of (parts_any T w6 (by omega)) ?_
            rintro v7 w7 ⟨ho7, hu7⟩
            push_cast (disch := omega)
            repeat refine And.intro (by omega) ?_
            have hpl : (partsB T).length ≤ 1000 := by have := partsN_len T.size T; unfold partsB; omega
            refine callM_of (sequal_any w7 _ v7 X (partsB T) (SlR.of_own (ho6.over hu7 (fun _ _ e => e))) (SlR.of_own ho7) (by omega) (by omega)) ?_
            rintro _ w8 ⟨rfl, hu8⟩
            push_cast (disch := omega)
            repeat refine And.intro (by omega) ?_
            by_cases h3 : X = partsB T
            · rw [decide_eq_true h3, if_pos ⟨h1, by omega, h3⟩]
              repeat refine V_seq (x := .seq _ _) ?_
              first | refine V_seq (V_iff rfl ?_) | refine V_iff rfl ?_
              first | refine V_seq (V_skip ?_) | refine V_skip ?_
              push_cast (disch := omega)
              repeat refine V_seq (x := .seq _ _) ?_
              first | refine VR [4, 5] (by kernel_rfl) ?_ | refine VR1 [4, 5] (by kernel_rfl) ?_
              push_cast (disch := omega)
              repeat refine And.intro (by omega) ?_
              first | refine V_seq (V_ret ?_) | refine V_ret ?_
              push_cast (disch := omega)
              exact (hu26.trans hu7).trans hu8
            · rw [decide_eq_false h3, if_neg (fun e => h3 e.2.2)]
              repeat refine V_seq (x := .seq _ _) ?_
              first | refine V_seq (V_ift rfl ?_) | refine V_ift rfl ?_
              repeat refine V_seq (x := .seq _ _) ?_
              first | refine VR [4, 5] (by kernel_rfl) ?_ | refine VR1 [4, 5] (by kernel_rfl) ?_
              push_cast (disch := omega)
              repeat refine And.intro (by omega) ?_
              first | refine V_seq (V_ret ?_) | refine V_ret ?_
              push_cast (disch := omega)
              exact ⟨rfl, (hu26.trans hu7).trans hu8⟩
          · rw [if_neg (fun e => h2 (by omega))]
            repeat refine V_seq (x := .seq _ _) ?_
            first | refine VR [8, 64] (by kernel_rfl) ?_ | refine VR1 [8, 64] (by kernel_rfl) ?_
            push_cast (disch := omega) [hg6]
            repeat refine And.intro (by omega) ?_
            repeat refine V_seq (x := .seq _ _) ?_
            first | refine V_seq (V_ift rfl ?_) | refine V_ift rfl ?_
            repeat refine V_seq (x := .seq _ _) ?_
            first | refine VR [4, 5] (by kernel_rfl) ?_ | refine VR1 [4, 5] (by kernel_rfl) ?_
            push_cast (disch := omega)
            repeat refine And.intro (by omega) ?_
            first | refine V_seq (V_ret ?_) | refine V_ret ?_
            push_cast (disch := omega)
            exact ⟨rfl, hu26⟩
        · rw [if_neg (fun e => h1 e.1)]
          repeat refine V_seq (x := .seq _ _) ?_
          first | refine VR [8, 64] (by kernel_rfl) ?_ | refine VR1 [8, 64] (by kernel_rfl) ?_
          push_cast (disch := omega) [hg6]
          repeat refine And.intro (by omega) ?_
          repeat refine V_seq (x := .seq _ _) ?_
          first | refine V_seq (V_ift rfl ?_) | refine V_ift rfl ?_
          repeat refine V_seq (x := .seq _ _) ?_
          first | refine VR [4, 5] (by kernel_rfl) ?_ | refine VR1 [4, 5] (by kernel_rfl) ?_
          push_cast (disch := omega)
          repeat refine And.intro (by omega) ?_
          first | refine V_seq (V_ret ?_) | refine V_ret ?_
          push_cast (disch := omega)
          exact ⟨rfl, hu26⟩
end Go.Proofs
namespace Go.Proofs
open Go Go.Vc Go.RowKit Go.Lib Go.Sort Go.Maps
set_option maxRecDepth 100000
set_option linter.unusedVariables false
theorem sortsA (m : Nat) : AnyZI.SortsIn Tryz.prog Tryz.sortedA_ren Fence.wide m :=
  ⟨fun blk off cap ss W hH hblk hsz => callsIn_wide.2 (AnyM.slices_Sort_int Tryz.sortA blk off cap ss W hH hblk hsz),
   fun p cap W => callsIn_wide.2 (AnyM.slices_Sort_int_none Tryz.sortA p cap W)⟩
theorem alloc_up (w : World) (o : Obj) : Up w (w.alloc o) := ⟨rfl, rfl, rfl, by simp, fun k hk _ => heap_alloc_old w _ hk⟩
/-- maps.Keys: a function over a new block that holds the map. -/
theorem mkeys_any (w : World) (M : Nat) : CallM Tryz.prog 56 #[.map (some M)] w fun v w' =>
    v = .func (.func 135) #[] #[.pointer (some ⟨w.heap.size, 0, none⟩)] ∧ w' = w.alloc (.cells #[.map (some M)] 88) := by
  refine callM_kit ((callsIn_wide (n := 6)).1 (AnyZI.keys_in Tryz.keysA Fence.wide 6 trivial rfl (some M) w)) ?_
  rintro w' rfl
  exact ⟨rfl, rfl⟩
def anyR : Value → Option (DataW Unit × List MemPlace) := fun _ => some (.nil, [])
theorem mapAt_owns {w : World} {M clock : Nat} {l : List Ent} (h : MapAt w M .i64 l clock) (hr : ∀ e ∈ l, 0 ≤ e.1 ∧ e.1 ≤ 1000000) (hlen : l.length ≤ 1000000) :
    ∃ D : DataW Unit, w.ownsMap Tryz.prog 3 anyR M l.length D ∧ (l.map (·.1)).Perm (intKeys D) ∧ Maps.size D = l.length := by
  have hrd : ∀ e ∈ l, WideElems.rd Tryz.prog 3 anyR (entV .i64 e) = some (.int .i64 e.1, .nil) := by
    intro e he
    have := hr e he
    refine WideElems.rd_mk (yv := (.nil, [])) (keyOf_int_mk und_int ?_) rfl
    have h1 : IntKind.i64.max = 9223372036854775807 := by decide
    have h2 : IntKind.i64.min = -9223372036854775808 := by decide
    simp only [Lit.wf, Bool.and_eq_true, decide_eq_true_eq, h1, h2]
    omega
  refine ⟨_, ⟨_, clock, h.cell, ⟨?_, ⟨?_, ?_, ?_⟩, ?_⟩, by simp, rfl⟩, ?_, ?_⟩
  · simp [maxLen]; omega
  · intro x hx
    obtain ⟨e, he, rfl⟩ := List.mem_map.1 (show x ∈ l.map (entV .i64) from hx)
    exact h.old e he
  · simpa [entV, Function.comp_def] using h.born
  · have : (l.map (entV .i64)).map (·.key) = (l.map (·.1)).map (Value.int .i64) := by simp [entV, Function.comp_def]
    show ((l.map (entV .i64)).map (·.key)).Nodup
    rw [this]
    exact (List.pairwise_map.2 (h.keys.imp (by intro a b hab e; injection e with _ e; exact hab e)))
  · intro x hx
    obtain ⟨e, he, rfl⟩ := List.mem_map.1 (show x ∈ l.map (entV .i64) from hx)
    exact ⟨_, hrd e he⟩
  · simp only [List.map_map]
    have hm : l.map (WideElems.rg Tryz.prog 3 anyR ∘ entV .i64) = l.map fun e => (Lit.int .i64 e.1, DataW.nil) := by
      apply List.map_congr_left
      intro e he
      exact WideElems.rg_of (hrd e he)
    rw [hm]
    have hp := (WideShapes.sorted_perm (l.map fun e => (Lit.int .i64 e.1, (DataW.nil : DataW Unit)))).map (fun p => _root_.Go.intOf p.1)
    rw [List.map_map] at hp
    exact hp.symm
  · show (List.foldr DataW.insert [] _).length = _
    rw [length_sorted]; simp
/-- slices.Sorted over the keys of a map. -/
theorem msorted_any (w : World) (M clock : Nat) (l : List Ent) (h : MapAt w M .i64 l clock) (hr : ∀ e ∈ l, 0 ≤ e.1 ∧ e.1 ≤ 1000000) (hlen : l.length ≤ 1000000) :
    CallM Tryz.prog 55 #[.func (.func 135) #[] #[.pointer (some ⟨w.heap.size, 0, none⟩)]] (w.alloc (.cells #[.map (some M)] 88)) fun v w' =>
      w'.ownsRow w.heap.size 3 1 v l.length (intV (sortI (l.map (·.1)))) ∧ Up w w' := by
  have hA := alloc_up w (.cells #[.map (some M)] 88)
  obtain ⟨D, hown, hperm, hsz⟩ := mapAt_owns (h.over hA id) hr hlen
  have hseq := AnyZI.keys_gives (ρ := Tryz.keysA_ren) { Tryz.keysA with } Fence.wide 2 trivial rfl (by omega) w.heap.size M l.length D (w.alloc (.cells #[.map (some M)] 88)) (by simp) (by simp) hown
  have cS := AnyZI.sorted_in Tryz.sortedA Fence.wide 5 trivial trivial trivial trivial rfl (by omega) (sortsA _) (enters_of Tryz.func58 (by kernel_rfl) rfl) 135 #[.pointer (some ⟨w.heap.size, 0, none⟩)] trivial (enters_of Tryz.func135 (by kernel_rfl) rfl) _ _ (by rw [hsz]; simp only [maxLen]; omega) (by rw [hsz]; omega) _ hseq
  refine Calls.mono (callsIn_wide.1 cS) fun e w' he => ?_
  obtain ⟨v, ss, rfl, hS, hrow, _, hb⟩ := he
  have e1 : ss.mergeSort (fun x y => decide (x ≤ y)) = sortI (l.map (·.1)) := sortI_perm (hS.trans hperm.symm)
  have e2 : ss.length = l.length := by rw [(hS.trans hperm.symm).length_eq]; simp
  rw [e1, e2] at hrow
  exact ⟨ownsRow_base_a hrow (by simp), hA.trans (Up.of_below hb)⟩
/-- Keys: the keys, in order. -/
theorem bkeys_any (w : World) (B p M : Nat) (tv : Value) (s : BnS) (h : BnAt w B p M tv s) (hok : s.ok) : CallM Tryz.prog 15 #[.pointer (some ⟨B, 0, none⟩)] w fun v w' =>
    w'.ownsRow w.heap.size 3 1 v s.kv.length (intV (keysK s.kv)) ∧ Up w w' := by
  have hc := h.cell
  obtain ⟨⟨l, clock, hm, hvals⟩, hsrt⟩ := h.things
  have hkp := keys_perm hm.keys hsrt hvals
  have hl : l.length = s.kv.length := by have := hkp.length_eq; simpa [keysK] using this
  have hr : ∀ e ∈ l, 0 ≤ e.1 ∧ e.1 ≤ 1000000 := by
    intro e he
    have : e.1 ∈ keysK s.kv := hkp.mem_iff.1 (List.mem_map_of_mem (f := fun e : Ent => e.1) he)
    obtain ⟨x, hx, h1⟩ := List.mem_map.1 this
    have := (hok.rng x hx).1
    omega
  have hlen := (hok.len hsrt).1
  refine callM_V (args := [.pointer (some ⟨B, 0, none⟩)]) Tryz.func15 rfl Tryz.ntmps15 rfl (rs := [(.tmp 2)]) rfl ?_
  push_cast (disch := omega)
  repeat refine V_seq (x := .seq _ _) ?_
  first | refine VR [0] (by kernel_rfl) ?_ | refine VR1 [0] (by kernel_rfl) ?_
  push_cast (disch := omega)
  repeat refine And.intro (by omega) ?_
  repeat refine V_seq (x := .seq _ _) ?_
  first | refine VR [0, 4] (by kernel_rfl) ?_ | refine VR1 [0, 4] (by kernel_rfl) ?_
  push_cast (disch := omega)
  repeat refine And.intro (by omega) ?_
  refine callM_of (bnone_any w B p M tv s h) ?_
  rintro _ w1 ⟨rfl, rfl⟩
  push_cast (disch := omega)
  repeat refine And.intro (by omega) ?_
  repeat refine V_seq (x := .seq _ _) ?_
  first | refine V_seq (V_iff rfl ?_) | refine V_iff rfl ?_
  first | refine V_seq (V_skip ?_) | refine V_skip ?_
  push_cast (disch := omega)
  repeat refine V_seq (x := .seq _ _) ?_
  first | refine VR [2] (by kernel_rfl) ?_ | refine VR1 [2] (by kernel_rfl) ?_
  push_cast (disch := omega) [hc]
  repeat refine And.intro (by omega) ?_
  refine callM_of (mkeys_any w1 M) ?_
  rintro _ _ ⟨rfl, rfl⟩
  push_cast (disch := omega)
  repeat refine And.intro (by omega) ?_
  refine callM_of (msorted_any w1 M clock l hm hr (by omega)) ?_
  rintro v2 w2 ⟨ho2, hu2⟩
  push_cast (disch := omega)
  repeat refine And.intro (by omega) ?_
  push_cast (disch := omega)
  repeat refine And.intro (by omega) ?_
  first | refine V_seq (V_ret ?_) | refine V_ret ?_
  push_cast (disch := omega)
  rw [hl, sortI_perm hkp, sortI_of ((keysK_sorted hsrt).imp (fun h => by omega))] at ho2
  exact ⟨ho2, hu2⟩
end Go.Proofs
namespace Go.Proofs
open Go Go.Vc Go.RowKit Go.Lib
set_option maxRecDepth 100000
set_option linter.unusedVariables false
/-- The things that can't be read. -/
def BnS.check (s : BnS) (pl : PlS) : List Int := (keysK s.kv).filter fun k => decide ((s.get pl k).2 = 6)
theorem bcheck_any (w : World) (B p f m M : Nat) (tv : Value) (s : BnS) (pl : PlS) (h : BnAt w B p M tv s) (hp : PlateAt w p f m pl) (hok : s.ok) (hpok : pl.ok) :
    CallM Tryz.prog 23 #[.pointer (some ⟨B, 0, none⟩)] w fun v w' => w'.ownsRow w.heap.size 3 1 v (s.check pl).length (intV (s.check pl)) ∧ Up w w' := by
  have hlen := (hok.len h.things.sorted).1
  have hkl : (keysK s.kv).length = s.kv.length := by simp [keysK]
  refine callM_V (args := [.pointer (some ⟨B, 0, none⟩)]) Tryz.func23 rfl Tryz.ntmps23 rfl (rs := [(.tmp 2)]) rfl ?_
  push_cast (disch := omega)
  repeat refine V_seq (x := .seq _ _) ?_
  first | refine VR [0] (by kernel_rfl) ?_ | refine VR1 [0] (by kernel_rfl) ?_
  push_cast (disch := omega)
  repeat refine And.intro (by omega) ?_
  repeat refine V_seq (x := .seq _ _) ?_
  first | refine VR [0, 3] (by kernel_rfl) ?_ | refine VR1 [0, 3] (by kernel_rfl) ?_
  push_cast (disch := omega)
  repeat refine And.intro (by omega) ?_
  repeat refine V_seq (x := .seq _ _) ?_
  first | refine VR [0, 3, 9, 10, 11] (by kernel_rfl) ?_ | refine VR1 [0, 3, 9, 10, 11] (by kernel_rfl) ?_
  push_cast (disch := omega)
  repeat refine And.intro (by omega) ?_
  refine callM_of (bkeys_any w B p M tv s h hok) ?_
  rintro v1 w1 ⟨ho1, hu1⟩
  push_cast (disch := omega)
  repeat refine And.intro (by omega) ?_
  obtain ⟨va, vc, rfl⟩ := ho1.shape
  push_cast (disch := omega)
  repeat refine And.intro (by omega) ?_
  have hS1 := SlOf.of_own ho1
  rw [← hkl] at hS1 ⊢
  repeat refine V_seq (x := .seq _ _) ?_
  first | refine V_seq (V_block ?_) | refine V_block ?_
  repeat refine V_seq (x := .seq _ _) ?_
  first | refine V_seq (V_loopE (ι := Nat × Value) [0, 3, 9, 10, 11] (fun ⟨i, v⟩ => [(0, .pointer (some ⟨B, 0, none⟩)), (3, v), (9, .slice va (keysK s.kv).length vc), (10, .int .i64 (keysK s.kv).length), (11, .int .i64 i)]) (fun ⟨i, v⟩ => fun w' => i ≤ (keysK s.kv).length ∧ w'.ownsRow w.heap.size 3 1 v (((keysK s.kv).take i).filter fun k => decide ((s.get pl k).2 = 6)).length (intV (((keysK s.kv).take i).filter fun k => decide ((s.get pl k).2 = 6))) ∧ Up w w' ∧ SlOf w' 3 1 (.slice va (keysK s.kv).length vc) (keysK s.kv).length (intV (keysK s.kv)) ∧ (∀ g, v.ownBlock = some g → (Value.slice va (keysK s.kv).length vc).ownBlock ≠ some g)) (fun ⟨i, v⟩ => (keysK s.kv).length - i) ((0, .slice none 0 0)) (by first | (push_cast; rfl) | (push_cast; done)) (⟨Nat.zero_le _, World.ownsRow_nil _ _ _ _, hu1, hS1, fun g e => by cases e⟩) ?_) | refine V_loopE (ι := Nat × Value) [0, 3, 9, 10, 11] (fun ⟨i, v⟩ => [(0, .pointer (some ⟨B, 0, none⟩)), (3, v), (9, .slice va (keysK s.kv).length vc), (10, .int .i64 (keysK s.kv).length), (11, .int .i64 i)]) (fun ⟨i, v⟩ => fun w' => i ≤ (keysK s.kv).length ∧ w'.ownsRow w.heap.size 3 1 v (((keysK s.kv).take i).filter fun k => decide ((s.get pl k).2 = 6)).length (intV (((keysK s.kv).take i).filter fun k => decide ((s.get pl k).2 = 6))) ∧ Up w w' ∧ SlOf w' 3 1 (.slice va (keysK s.kv).length vc) (keysK s.kv).length (intV (keysK s.kv)) ∧ (∀ g, v.ownBlock = some g → (Value.slice va (keysK s.kv).length vc).ownBlock ≠ some g)) (fun ⟨i, v⟩ => (keysK s.kv).length - i) ((0, .slice none 0 0)) (by first | (push_cast; rfl) | (push_cast; done)) (⟨Nat.zero_le _, World.ownsRow_nil _ _ _ _, hu1, hS1, fun g e => by cases e⟩) ?_
  rintro ⟨i, v⟩ wl hI
  obtain ⟨hi, ho, hU, hS, hap⟩ := hI
  repeat refine V_seq (x := .seq _ _) ?_
  first | refine VR [0, 3, 9, 10, 11, 12] (by kernel_rfl) ?_ | refine VR1 [0, 3, 9, 10, 11, 12] (by kernel_rfl) ?_
  push_cast (disch := omega)
  repeat refine And.intro (by omega) ?_
  repeat refine V_seq (x := .seq _ _) ?_
  first | refine V_seq (V_ifd rfl (fun hc => ?_) (fun hc => ?_)) | refine V_ifd rfl (fun hc => ?_) (fun hc => ?_)
  · first | refine V_seq (V_skip ?_) | refine V_skip ?_
    push_cast (disch := omega)
    have hlt : i < (keysK s.kv).length := by omega
    obtain ⟨b0, o0, c0, cs, T, fr, hpv, hb0, hle, htk⟩ := hS.r.some (by omega)
    injection hpv with hpa _ hpc
    subst hpa hpc
    have hcell := cell_of_take htk (intV_get hlt)
    have htk1 : (keysK s.kv).take (i + 1) = (keysK s.kv).take i ++ [(keysK s.kv)[i]] := List.take_succ_eq_append_getElem hlt
    have hfl : (((keysK s.kv).take i).filter fun k => decide ((s.get pl k).2 = 6)).length ≤ i := by
      refine Nat.le_trans (List.length_filter_le _ _) ?_
      rw [List.length_take]; omega
    repeat refine V_seq (x := .seq _ _) ?_
    first | refine V_seq (V_block ?_) | refine V_block ?_
    repeat refine V_seq (x := .seq _ _) ?_
    first | refine VR [0, 3, 5, 9, 10, 11] (by kernel_rfl) ?_ | refine VR1 [0, 3, 5, 9, 10, 11] (by kernel_rfl) ?_
    push_cast (disch := omega) [hb0, hcell]
    repeat refine And.intro (by omega) ?_
    repeat refine V_seq (x := .seq _ _) ?_
    first | refine VR [0, 3, 5, 7, 9, 10, 11] (by kernel_rfl) ?_ | refine VR1 [0, 3, 5, 7, 9, 10, 11] (by kernel_rfl) ?_
    push_cast (disch := omega)
    repeat refine And.intro (by omega) ?_
    refine callM_of (bget_any wl B p f m M tv s pl _ (h.up hU) (hp.up hU) hok hpok) ?_
    rintro r w4 ⟨rfl, hu4⟩
    push_cast (disch := omega)
    repeat refine And.intro (by omega) ?_
    push_cast (disch := omega)
    repeat refine And.intro (by omega) ?_
    repeat refine V_seq (x := .seq _ _) ?_
    first | refine VR [0, 3, 5, 9, 10, 11, 22] (by kernel_rfl) ?_ | refine VR1 [0, 3, 5, 9, 10, 11, 22] (by kernel_rfl) ?_
    push_cast (disch := omega)
    repeat refine And.intro (by omega) ?_
    repeat refine V_seq (x := .seq _ _) ?_
    first | refine V_seq (V_ifd rfl (fun h6 => ?_) (fun h6 => ?_)) | refine V_ifd rfl (fun h6 => ?_) (fun h6 => ?_)
    · repeat refine V_seq (x := .seq _ _) ?_
      first | refine VR [0, 3, 9, 10, 11] (by kernel_rfl) ?_ | refine VR1 [0, 3, 9, 10, 11] (by kernel_rfl) ?_
      push_cast (disch := omega)
      repeat refine And.intro (by omega) ?_
      refine fun b5 w5 hb5 hs5 hu5 hg5 => ?_
      push_cast (disch := omega)
      repeat refine And.intro (by omega) ?_
      refine appM slT_ints (ho.over (hu4.trans hu5) (fun _ _ e => e)) hg5 (by simp) (by simp [one']) (by omega) (by decide) (by have := hU.size; have := hu4.size; omega) ?_
      rintro v6 w6 ho6 hk6 hg6
      push_cast (disch := omega)
      repeat refine And.intro (by omega) ?_
      repeat refine V_seq (x := .seq _ _) ?_
      first | refine VR [0, 3, 9, 10, 11] (by kernel_rfl) ?_ | refine VR1 [0, 3, 9, 10, 11] (by kernel_rfl) ?_
      push_cast (disch := omega)
      repeat refine And.intro (by omega) ?_
      have h46 := hu4.trans hu5
      have hl4 := hu4.size
      refine ⟨(i + 1, v6), ?_, ?_, (by dsimp only; omega)⟩ <;> dsimp only
      · push_cast
      · rw [htk1, List.filter_append]
        have e1 : ([(keysK s.kv)[i]].filter fun k => decide ((s.get pl k).2 = 6)) = [(keysK s.kv)[i]] := by simp [h6]
        rw [e1]
        refine ⟨by omega, by simpa [intV] using ho6, Up.turn (hU.trans h46) hk6 (fun i hi => (ho.lt i hi).1), (hS.up h46).over hk6 (fun g hg e => hap g e hg), ?_⟩
        intro g hg e
        rcases hg6 with e6 | e6
        · exact hap g (by rw [← e6]; exact hg) e
        · rw [e6] at hg; injection hg with hg
          have := hS.r.lt g e
          omega
    · first | refine V_seq (V_skip ?_) | refine V_skip ?_
      push_cast (disch := omega)
      repeat refine V_seq (x := .seq _ _) ?_
      first | refine VR [0, 3, 9, 10, 11] (by kernel_rfl) ?_ | refine VR1 [0, 3, 9, 10, 11] (by kernel_rfl) ?_
      push_cast (disch := omega)
      repeat refine And.intro (by omega) ?_
      refine ⟨(i + 1, v), ?_, ?_, (by dsimp only; omega)⟩ <;> dsimp only
      · push_cast
      · rw [htk1, List.filter_append]
        have e1 : ([(keysK s.kv)[i]].filter fun k => decide ((s.get pl k).2 = 6)) = [] := by simp [h6]
        rw [e1, List.append_nil]
        exact ⟨by omega, ho.over hu4 (fun _ _ e => e), hU.trans hu4, hS.up hu4, hap⟩
  · first | refine V_seq (V_exit ?_) | refine V_exit ?_
    push_cast (disch := omega)
    repeat refine V_seq (x := .seq _ _) ?_
    first | refine VR [2] (by kernel_rfl) ?_ | refine VR1 [2] (by kernel_rfl) ?_
    push_cast (disch := omega)
    repeat refine And.intro (by omega) ?_
    first | refine V_seq (V_ret ?_) | refine V_ret ?_
    push_cast (disch := omega)
    obtain rfl : i = (keysK s.kv).length := by omega
    rw [List.take_length] at ho
    exact ⟨ho, hU⟩
end Go.Proofs
namespace Go.Proofs
open Go Go.Vc Go.RowKit Go.Lib
set_option maxRecDepth 100000
set_option linter.unusedVariables false
/-- A change. -/
structure ChS where
  key : Int
  bytes : ByteArray
  gone : Bool
def chV (l : List ChS) : List Value := l.flatMap fun c => [.int .i64 c.key, .string c.bytes, .bool c.gone]
theorem chV_len (l : List ChS) : (chV l).length = l.length * 3 := by
  unfold chV
  induction l with
  | nil => rfl
  | cons c l ih => rw [List.flatMap_cons, List.length_append, ih, List.length_cons]; simp; omega
theorem chV_one (l : List ChS) : (chV l).all one' = true := by
  rw [List.all_eq_true]
  intro x hx
  obtain ⟨c, _, hc⟩ := List.mem_flatMap.1 hx
  simp at hc
  rcases hc with rfl | rfl | rfl <;> rfl
theorem slT_chs : SlT Tryz.prog 22 32 3 32 := ⟨by kernel_rfl, ⟨_, _, rfl, rfl, rfl, rfl, rfl⟩, by decide⟩
/-- slices.Clone of changes: a copy on new ground. -/
theorem cclone_any (w : World) (v : Value) (l : List ChS) (h : SlR w 3 v l.length (chV l)) (hl : l.length ≤ 1000000) : CallM Tryz.prog 49 #[v] w fun r w' => w'.ownsRow w.heap.size 32 3 r l.length (chV l) ∧ Up w w' := by
  have h0 := h
  obtain ⟨hlen, a, c, rfl, h2⟩ := h
  refine callM_V (args := [.slice a l.length c]) Tryz.func49 rfl Tryz.ntmps49 rfl (rs := [(.tmp 2)]) rfl ?_
  push_cast (disch := omega)
  repeat refine V_seq (x := .seq _ _) ?_
  first | refine VR [0] (by kernel_rfl) ?_ | refine VR1 [0] (by kernel_rfl) ?_
  push_cast (disch := omega)
  repeat refine And.intro (by omega) ?_
  rcases h2 with ⟨rfl, hz, rfl⟩ | ⟨b, o, cs, T, fr, rfl, hb, htk, hle⟩
  · have : l = [] := List.eq_nil_of_length_eq_zero hz
    subst this
    repeat refine V_seq (x := .seq _ _) ?_
    first | refine VR [0, 4] (by kernel_rfl) ?_ | refine VR1 [0, 4] (by kernel_rfl) ?_
    push_cast (disch := omega)
    repeat refine And.intro (by omega) ?_
    repeat refine V_seq (x := .seq _ _) ?_
    first | refine V_seq (V_ift rfl ?_) | refine V_ift rfl ?_
    repeat refine V_seq (x := .seq _ _) ?_
    first | refine VR [2] (by kernel_rfl) ?_ | refine VR1 [2] (by kernel_rfl) ?_
    push_cast (disch := omega)
    repeat refine And.intro (by omega) ?_
    first | refine V_seq (V_ret ?_) | refine V_ret ?_
    push_cast (disch := omega)
    exact ⟨World.ownsRow_nil _ _ _ _, Kp.refl _ _⟩
  · repeat refine V_seq (x := .seq _ _) ?_
    first | refine VR [0, 4] (by kernel_rfl) ?_ | refine VR1 [0, 4] (by kernel_rfl) ?_
    push_cast (disch := omega)
    repeat refine And.intro (by omega) ?_
    repeat refine V_seq (x := .seq _ _) ?_
    first | refine V_seq (V_iff rfl ?_) | refine V_iff rfl ?_
    first | refine V_seq (V_skip ?_) | refine V_skip ?_
    push_cast (disch := omega)
    repeat refine V_seq (x := .seq _ _) ?_
    first | refine VR [2] (by kernel_rfl) ?_ | refine VR1 [2] (by kernel_rfl) ?_
    push_cast (disch := omega)
    repeat refine And.intro (by omega) ?_
    refine fun b1 w1 hb1 hs1 hu1 hg1 => ?_
    push_cast (disch := omega)
    repeat refine And.intro (by omega) ?_
    have ho1 : w1.ownsRow w.heap.size 32 3 (.slice (some ⟨b1, 0, none⟩) 0 0) 0 [] := ⟨rfl, .inr ⟨b1, 0, #[], rfl, by omega, hg1, Nat.le_refl _, by decide, rfl, rfl⟩⟩
    refine appSl slT_chs ho1 hu1.size (h0.up hu1) (chV_one _) (by omega) (by decide) ?_
    rintro v2 w2 ho2 hk2 hg2
    push_cast (disch := omega)
    repeat refine And.intro (by omega) ?_
    first | refine V_seq (V_ret ?_) | refine V_ret ?_
    push_cast (disch := omega)
    rw [Nat.zero_add, List.nil_append] at ho2
    exact ⟨ho2, hu1.turn hk2 (fun i hi => by have : b1 = i := (by simpa [Value.ownBlock] using hi); omega)⟩
/-- slices.SortStableFunc of no change or one. -/
theorem csort_any (w : World) (base : Nat) (v : Value) (l : List ChS) (h : w.ownsRow base 32 3 v l.length (chV l)) (hl : l.length ≤ 1) : CallM Tryz.prog 50 #[v, .func (.func 51) #[] #[]] w fun r w' =>
    r = .tuple #[] ∧ w'.ownsRow base 32 3 v l.length (chV l) ∧ Kp (fun i => v.ownBlock = some i) w w' := by
  obtain ⟨a, c, rfl⟩ := h.shape
  refine callM_V (args := [.slice a l.length c, .func (.func 51) #[] #[]]) Tryz.func50 rfl Tryz.ntmps50 rfl (rs := []) rfl ?_
  push_cast (disch := omega)
  repeat refine V_seq (x := .seq _ _) ?_
  first | refine VR [] (by kernel_rfl) ?_ | refine VR1 [] (by kernel_rfl) ?_
  push_cast (disch := omega)
  repeat refine And.intro (by omega) ?_
  refine callM_of (R := fun r w' => r = .tuple #[] ∧ w' = w) ?_ ?_
  · refine callM_V (args := [.slice a l.length c, .int .i64 l.length, .func (.func 51) #[] #[]]) Tryz.func129 rfl Tryz.ntmps129 rfl (rs := []) rfl ?_
    push_cast (disch := omega)
    repeat refine V_seq (x := .seq _ _) ?_
    first | refine VR [0, 1, 2, 6] (by kernel_rfl) ?_ | refine VR1 [0, 1, 2, 6] (by kernel_rfl) ?_
    push_cast (disch := omega)
    repeat refine And.intro (by omega) ?_
    repeat refine V_seq (x := .seq _ _) ?_
    first | refine VR [0, 1, 2, 6, 7, 8] (by kernel_rfl) ?_ | refine VR1 [0, 1, 2, 6, 7, 8] (by kernel_rfl) ?_
    push_cast (disch := omega)
    repeat refine And.intro (by omega) ?_
    repeat refine V_seq (x := .seq _ _) ?_
    first | refine V_seq (V_block ?_) | refine V_block ?_
    repeat refine V_seq (x := .seq _ _) ?_
    first | refine V_seq (V_roll (VL_round ?_)) | refine V_roll (VL_round ?_)
    repeat refine V_seq (x := .seq _ _) ?_
    first | refine VR [0, 1, 2, 6, 7, 8, 13] (by kernel_rfl) ?_ | refine VR1 [0, 1, 2, 6, 7, 8, 13] (by kernel_rfl) ?_
    push_cast (disch := omega)
    repeat refine And.intro (by omega) ?_
    repeat refine V_seq (x := .seq _ _) ?_
    first | refine V_seq (V_iff rfl ?_) | refine V_iff rfl ?_
    first | refine V_seq (V_exit ?_) | refine V_exit ?_
    push_cast (disch := omega)
    repeat refine V_seq (x := .seq _ _) ?_
    first | refine VR [0, 1, 2, 6] (by kernel_rfl) ?_ | refine VR1 [0, 1, 2, 6] (by kernel_rfl) ?_
    push_cast (disch := omega)
    repeat refine And.intro (by omega) ?_
    refine callM_of (R := fun r w' => r = .tuple #[] ∧ w' = w) ?_ ?_
    · refine callM_V (args := [.slice a l.length c, .int .i64 0, .int .i64 l.length, .func (.func 51) #[] #[]]) Tryz.func172 rfl Tryz.ntmps172 rfl (rs := []) rfl ?_
      push_cast (disch := omega)
      repeat refine V_seq (x := .seq _ _) ?_
      first | refine VR [0, 1, 2, 3, 8] (by kernel_rfl) ?_ | refine VR1 [0, 1, 2, 3, 8] (by kernel_rfl) ?_
      push_cast (disch := omega)
      repeat refine And.intro (by omega) ?_
      repeat refine V_seq (x := .seq _ _) ?_
      first | refine V_seq (V_block ?_) | refine V_block ?_
      repeat refine V_seq (x := .seq _ _) ?_
      first | refine V_seq (V_roll (VL_round ?_)) | refine V_roll (VL_round ?_)
      repeat refine V_seq (x := .seq _ _) ?_
      first | refine VR [0, 1, 2, 3, 8, 14] (by kernel_rfl) ?_ | refine VR1 [0, 1, 2, 3, 8, 14] (by kernel_rfl) ?_
      push_cast (disch := omega)
      repeat refine And.intro (by omega) ?_
      repeat refine V_seq (x := .seq _ _) ?_
      first | refine V_seq (V_iff rfl ?_) | refine V_iff rfl ?_
      first | refine V_seq (V_exit ?_) | refine V_exit ?_
      push_cast (disch := omega)
    · rintro _ _ ⟨rfl, rfl⟩
      push_cast (disch := omega)
      repeat refine And.intro (by omega) ?_
      repeat refine V_seq (x := .seq _ _) ?_
      first | refine V_seq (V_block ?_) | refine V_block ?_
      repeat refine V_seq (x := .seq _ _) ?_
      first | refine V_seq (V_roll (VL_round ?_)) | refine V_roll (VL_round ?_)
      repeat refine V_seq (x := .seq _ _) ?_
      first | refine VR [0, 1, 2, 6, 30] (by kernel_rfl) ?_ | refine VR1 [0, 1, 2, 6, 30] (by kernel_rfl) ?_
      push_cast (disch := omega)
      repeat refine And.intro (by omega) ?_
      repeat refine V_seq (x := .seq _ _) ?_
      first | refine V_seq (V_iff rfl ?_) | refine V_iff rfl ?_
      first | refine V_seq (V_exit ?_) | refine V_exit ?_
      push_cast (disch := omega)
  · rintro _ _ ⟨rfl, rfl⟩
    push_cast (disch := omega)
    repeat refine And.intro (by omega) ?_
    exact Kp.refl _ _
end Go.Proofs
namespace Go.Proofs
open Go Go.Vc Go.RowKit Go.Lib
set_option maxRecDepth 100000
set_option linter.unusedVariables false
set_option linter.unusedSimpArgs false
theorem ext_of_take {cs : Array Value} {o m : Nat} {xs : List Value} (h : (cs.toList.drop o).take m = xs) (i s : Nat) (hi : i + s ≤ m) : cs.extract (o + i) (o + i + s) = ((xs.drop i).take s).toArray := by
  apply Array.ext'
  rw [Array.toList_extract, List.extract_eq_take_drop, ← h, List.drop_take, List.take_take, List.drop_drop, Nat.min_eq_left (by omega), show o + i + s - (o + i) = s from by omega]
theorem chV_get {l : List ChS} {i : Nat} (h : i < l.length) : ((chV l).drop (i * 3)).take 3 = [.int .i64 l[i].key, .string l[i].bytes, .bool l[i].gone] := by
  induction l generalizing i with
  | nil => simp at h
  | cons c l ih =>
    cases i with
    | zero => rfl
    | succ i =>
      have e : (i + 1) * 3 = i * 3 + 1 + 1 + 1 := by omega
      rw [e]
      exact ih (by simpa using h)
/-- May a change be, behind a change of such a key? -/
def rightC (kv : KV) (prev : Option Int) (c : ChS) : Bool :=
  !(decide (c.key < 1) || decide (c.key > 90) || decide (prev = some c.key)) && !(c.gone && (!(getK kv c.key).isSome || !decide (c.bytes = .empty))) && decide (c.bytes.size ≤ 300)
def rightL (kv : KV) : Option Int → List ChS → Bool
  | _, [] => true
  | prev, c :: r => rightC kv prev c && rightL kv (some c.key) r
def prevK (l : List ChS) : Nat → Option Int
  | 0 => none
  | i + 1 => (l[i]?).map (·.key)
theorem bright_any (w : World) (B p M : Nat) (tv lv : Value) (s : BnS) (l : List ChS) (h : BnAt w B p M tv s) (hl : SlR w 3 lv l.length (chV l)) (hn : l.length ≤ 1000) :
    CallM Tryz.prog 52 #[.pointer (some ⟨B, 0, none⟩), lv] w fun v w' => v = .bool (rightL s.kv none l) ∧ Up w w' := by
  have hc := h.cell
  obtain ⟨⟨es, clock, hm, hvals⟩, hsrt⟩ := h.things
  obtain ⟨la, lc, rfl⟩ : ∃ a c, lv = .slice a l.length c := by obtain ⟨_, a, c, h, _⟩ := hl; exact ⟨a, c, h⟩
  refine callM_V (args := [.pointer (some ⟨B, 0, none⟩), .slice la l.length lc]) Tryz.func52 rfl Tryz.ntmps52 rfl (rs := [(.tmp 4)]) rfl ?_
  push_cast (disch := omega)
  repeat refine V_seq (x := .seq _ _) ?_
  first | refine VR [0, 1] (by kernel_rfl) ?_ | refine VR1 [0, 1] (by kernel_rfl) ?_
  push_cast (disch := omega)
  repeat refine And.intro (by omega) ?_
  repeat refine V_seq (x := .seq _ _) ?_
  first | refine VR [0, 1, 9, 10, 11] (by kernel_rfl) ?_ | refine VR1 [0, 1, 9, 10, 11] (by kernel_rfl) ?_
  push_cast (disch := omega)
  repeat refine And.intro (by omega) ?_
  repeat refine V_seq (x := .seq _ _) ?_
  first | refine V_seq (V_block ?_) | refine V_block ?_
  repeat refine V_seq (x := .seq _ _) ?_
  first | refine V_seq (V_loopE (ι := Nat) [0, 1, 9, 10, 11] (fun i => [(0, .pointer (some ⟨B, 0, none⟩)), (1, .slice la l.length lc), (9, .slice la l.length lc), (10, .int .i64 l.length), (11, .int .i64 i)]) (fun i => fun w' => (i ≤ l.length ∧ rightL s.kv none l = rightL s.kv (prevK l i) (l.drop i)) ∧ Up w w') (fun i => l.length - i) (0) (by first | (push_cast; rfl) | (push_cast; done)) (⟨⟨Nat.zero_le _, rfl⟩, Kp.refl _ _⟩) ?_) | refine V_loopE (ι := Nat) [0, 1, 9, 10, 11] (fun i => [(0, .pointer (some ⟨B, 0, none⟩)), (1, .slice la l.length lc), (9, .slice la l.length lc), (10, .int .i64 l.length), (11, .int .i64 i)]) (fun i => fun w' => (i ≤ l.length ∧ rightL s.kv none l = rightL s.kv (prevK l i) (l.drop i)) ∧ Up w w') (fun i => l.length - i) (0) (by first | (push_cast; rfl) | (push_cast; done)) (⟨⟨Nat.zero_le _, rfl⟩, Kp.refl _ _⟩) ?_
  rintro i wl hI
  obtain ⟨⟨hi, heq⟩, hU⟩ := hI
  repeat refine V_seq (x := .seq _ _) ?_
  first | refine VR [0, 1, 9, 10, 11, 12] (by kernel_rfl) ?_ | refine VR1 [0, 1, 9, 10, 11, 12] (by kernel_rfl) ?_
  push_cast (disch := omega)
  repeat refine And.intro (by omega) ?_
  repeat refine V_seq (x := .seq _ _) ?_
  first | refine V_seq (V_ifd rfl (fun hlt => ?_) (fun hlt => ?_)) | refine V_ifd rfl (fun hlt => ?_) (fun hlt => ?_)
  · first | refine V_seq (V_skip ?_) | refine V_skip ?_
    push_cast (disch := omega)
    have hlt' : i < l.length := by omega
    obtain ⟨b0, o0, c0, cs, T, fr, hpv, hb0, hle, htk⟩ := hl.some (by omega)
    injection hpv with hpa _ hpc
    subst hpa hpc
    have hb0' := Up.get hU hb0
    have hx := ext_of_take htk (i * 3) 3 (by omega)
    rw [chV_get hlt'] at hx
    have hdr : l.drop i = l[i] :: l.drop (i + 1) := List.drop_eq_getElem_cons hlt'
    rw [hdr, rightL] at heq
    have hnx : prevK l (i + 1) = some l[i].key := by simp [prevK, hlt']
    generalize hcc : l[i] = c at *
    repeat refine V_seq (x := .seq _ _) ?_
    first | refine V_seq (V_block ?_) | refine V_block ?_
    repeat refine V_seq (x := .seq _ _) ?_
    first | refine VR [0, 1, 5, 6, 9, 10, 11] (by kernel_rfl) ?_ | refine VR1 [0, 1, 5, 6, 9, 10, 11] (by kernel_rfl) ?_
    push_cast (disch := omega) [hb0', hx]
    repeat refine And.intro (by omega) ?_
    refine fun b1 w1 hb1 hs1 hu1 hg1 => ?_
    push_cast (disch := omega)
    repeat refine And.intro (by omega) ?_
    push_cast (disch := omega) [hg1]
    repeat refine And.intro (by omega) ?_
    refine fun w2 hs2 hx2 hg2 => ?_
    push_cast (disch := omega)
    repeat refine And.intro (by omega) ?_
    have hU2 : Up w w2 := Up.write (hU.trans hu1) hx2 (by have := hU.size; omega)
    have hc2 := Up.get hU2 hc
    repeat refine V_seq (x := .seq _ _) ?_
    first | refine VD [0, 1, 5, 6, 8, 9, 10, 11] [(true, 0), (true, 1), (true, 2), (true, 3), (true, 4), (true, 5), (true, 6), (true, 7), (true, 8), (true, 9), (false, 10), (false, 11), (true, 12)] (by kernel_rfl) (N := [3, 5, 6]) (by kernel_rfl) Tryz.mixed (fun _ _ _ h => h) ?_ | refine VD1 [0, 1, 5, 6, 8, 9, 10, 11] [(true, 0), (true, 1), (true, 2), (true, 3), (true, 4), (true, 5), (true, 6), (true, 7), (true, 8), (true, 9), (false, 10), (false, 11), (true, 12)] (by kernel_rfl) (N := [3, 5, 6]) (by kernel_rfl) Tryz.mixed (fun _ _ _ h => h) ?_
    intro w3 hh3 hu3
    push_cast (disch := omega) [hh3, hc2, hg2]
    repeat refine And.intro (by omega) ?_
    have hU3 := hU2.trans hu3
    refine lookM (hm.over hU3 id) und_mt und_int zero_thing ?_
    have hk := hvals c.key
    have hsome : (getM es c.key).isSome = (getK s.kv c.key).isSome := by
      cases h1 : getM es c.key <;> cases h2 : getK s.kv c.key <;> rw [h1, h2] at hk <;> first | rfl | exact hk.elim
    obtain ⟨nn, xa, xn, xc, hvv⟩ : ∃ nn xa xn xc, (getM es c.key).getD (Value.agg #[.int .i64 0, .slice none 0 0]) = .agg #[.int .i64 nn, .slice xa xn xc] := by
      cases h1 : getM es c.key with
      | none => exact ⟨0, none, 0, 0, rfl⟩
      | some v =>
        cases h2 : getK s.kv c.key with
        | none => rw [h1, h2] at hk; exact hk.elim
        | some x =>
          rw [h1, h2] at hk
          obtain ⟨pv, rfl, _, a', c', rfl, _⟩ := hk
          exact ⟨_, _, _, _, rfl⟩
    rw [hvv, hsome]
    push_cast (disch := omega)
    repeat refine And.intro (by omega) ?_
    refine fun b4 w4 hb4 hs4 hu4 hg4 => ?_
    push_cast (disch := omega)
    repeat refine And.intro (by omega) ?_
    refine And.intro (up_ok (hu4)) ?_
    push_cast (disch := omega)
    repeat refine And.intro (by omega) ?_
    push_cast (disch := omega) [hg4]
    repeat refine And.intro (by omega) ?_
    refine fun w5 hs5 hx5 hg5 => ?_
    push_cast (disch := omega)
    repeat refine And.intro (by omega) ?_
    refine And.intro (up_ok (hu4.step hx5 (fun i hi e => by omega))) ?_
    push_cast (disch := omega)
    repeat refine And.intro (by omega) ?_
    have hU5 : Up w w5 := hU3.trans (Kp.step hu4 hx5 (fun i hi e => by omega))
    have hg35 : w5.heap[b1]? = some (.cells #[.int .i64 c.key, .string c.bytes, .bool c.gone] 32 (0, 0)) := by
      refine Kp.get hx5 (Up.get hu4 ?_) (by show b1 ≠ b4; have := lt_of_get hg2; have := hu3.size; omega)
      rw [hh3]; exact hg2
    have hb5 := Up.get hU5 hb0
    have hfalse : rightC s.kv (prevK l i) c = false → rightL s.kv none l = false := by intro h; rw [heq, h]; rfl
    repeat refine V_seq (x := .seq _ _) ?_
    first | refine V_seq (V_block ?_) | refine V_block ?_
    by_cases hr1 : c.key < 1
    · repeat refine V_seq (x := .seq _ _) ?_
      first | refine VD [0, 1, 6, 8, 9, 10, 11, 26] [(true, 0), (true, 1), (true, 2), (true, 3), (true, 4), (true, 5), (true, 6), (true, 7), (true, 8), (true, 9), (true, 10), (true, 11), (true, 12), (true, 13), (true, 14), (true, 15), (true, 16), (true, 17), (true, 18), (true, 19), (true, 20), (true, 21), (true, 22), (true, 23)] (by kernel_rfl) (N := [1, 2, 5, 6, 10, 13, 16, 19, 20]) (by kernel_rfl) Tryz.mixed (fun _ _ _ h => h) ?_ | refine VD1 [0, 1, 6, 8, 9, 10, 11, 26] [(true, 0), (true, 1), (true, 2), (true, 3), (true, 4), (true, 5), (true, 6), (true, 7), (true, 8), (true, 9), (true, 10), (true, 11), (true, 12), (true, 13), (true, 14), (true, 15), (true, 16), (true, 17), (true, 18), (true, 19), (true, 20), (true, 21), (true, 22), (true, 23)] (by kernel_rfl) (N := [1, 2, 5, 6, 10, 13, 16, 19, 20]) (by kernel_rfl) Tryz.mixed (fun _ _ _ h => h) ?_
      intro w6 hh6 hu6
      push_cast (disch := omega) [hh6, hg35]
      repeat refine And.intro (by omega) ?_
      repeat refine V_seq (x := .seq _ _) ?_
      first | refine V_seq (V_ift rfl ?_) | refine V_ift rfl ?_
      repeat refine V_seq (x := .seq _ _) ?_
      first | refine VR [4] (by kernel_rfl) ?_ | refine VR1 [4] (by kernel_rfl) ?_
      push_cast (disch := omega)
      repeat refine And.intro (by omega) ?_
      first | refine V_seq (V_ret ?_) | refine V_ret ?_
      push_cast (disch := omega)
      rw [hfalse (by simp [rightC, hr1])]
      exact ⟨rfl, hU5.trans hu6⟩
    by_cases hr2 : c.key > 90
    · repeat refine V_seq (x := .seq _ _) ?_
      first | refine VD [0, 1, 6, 8, 9, 10, 11, 26] [(true, 0), (true, 1), (true, 2), (true, 3), (true, 4), (true, 5), (true, 6), (true, 7), (true, 8), (true, 9), (true, 10), (true, 11), (true, 12), (true, 13), (true, 14), (true, 15), (true, 16), (true, 17), (true, 18), (true, 19), (true, 20), (true, 21), (true, 22), (true, 23)] (by kernel_rfl) (N := [1, 2, 5, 6, 10, 13, 16, 19, 20]) (by kernel_rfl) Tryz.mixed (fun _ _ _ h => h) ?_ | refine VD1 [0, 1, 6, 8, 9, 10, 11, 26] [(true, 0), (true, 1), (true, 2), (true, 3), (true, 4), (true, 5), (true, 6), (true, 7), (true, 8), (true, 9), (true, 10), (true, 11), (true, 12), (true, 13), (true, 14), (true, 15), (true, 16), (true, 17), (true, 18), (true, 19), (true, 20), (true, 21), (true, 22), (true, 23)] (by kernel_rfl) (N := [1, 2, 5, 6, 10, 13, 16, 19, 20]) (by kernel_rfl) Tryz.mixed (fun _ _ _ h => h) ?_
      intro w6 hh6 hu6
      push_cast (disch := omega) [hh6, hg35]
      repeat refine And.intro (by omega) ?_
      repeat refine V_seq (x := .seq _ _) ?_
      first | refine V_seq (V_ift rfl ?_) | refine V_ift rfl ?_
      repeat refine V_seq (x := .seq _ _) ?_
      first | refine VR [4] (by kernel_rfl) ?_ | refine VR1 [4] (by kernel_rfl) ?_
      push_cast (disch := omega)
      repeat refine And.intro (by omega) ?_
      first | refine V_seq (V_ret ?_) | refine V_ret ?_
      push_cast (disch := omega)
      rw [hfalse (by simp [rightC, hr2])]
      exact ⟨rfl, hU5.trans hu6⟩
    by_cases hr3 : prevK l i = some c.key
    · cases i with
      | zero => cases hr3
      | succ j =>
        have hj : j < l.length := by omega
        have hxj := ext_of_take htk (j * 3) 3 (by omega)
        rw [chV_get hj] at hxj
        have hcj : cs[o0 + j * 3]? = some (.int .i64 l[j].key) := by
          have := congrArg (fun a : Array Value => a[0]?) hxj
          rw [Array.getElem?_extract] at this
          simp at this
          exact this.2
        have hkj : c.key = l[j].key := by simp [prevK, hj] at hr3; exact hr3.symm
        have ej : ((j : Int) + 1 - 1).toNat = j := by omega
        repeat refine V_seq (x := .seq _ _) ?_
        first | refine VD [0, 1, 6, 8, 9, 10, 11, 26] [(true, 0), (true, 1), (true, 2), (true, 3), (true, 4), (true, 5), (true, 6), (true, 7), (true, 8), (true, 9), (true, 10), (true, 11), (true, 12), (true, 13), (true, 14), (true, 15), (true, 16), (true, 17), (true, 18), (true, 19), (true, 20), (true, 21), (true, 22), (true, 23)] (by kernel_rfl) (N := [1, 2, 5, 6, 10, 13, 16, 19, 20]) (by kernel_rfl) Tryz.mixed (fun _ _ _ h => h) ?_ | refine VD1 [0, 1, 6, 8, 9, 10, 11, 26] [(true, 0), (true, 1), (true, 2), (true, 3), (true, 4), (true, 5), (true, 6), (true, 7), (true, 8), (true, 9), (true, 10), (true, 11), (true, 12), (true, 13), (true, 14), (true, 15), (true, 16), (true, 17), (true, 18), (true, 19), (true, 20), (true, 21), (true, 22), (true, 23)] (by kernel_rfl) (N := [1, 2, 5, 6, 10, 13, 16, 19, 20]) (by kernel_rfl) Tryz.mixed (fun _ _ _ h => h) ?_
        intro w6 hh6 hu6
        push_cast (disch := omega) [hh6, hg35, hb5, hcj, ej]
        repeat refine And.intro (by omega) ?_
        repeat refine V_seq (x := .seq _ _) ?_
        first | refine V_seq (V_ift rfl ?_) | refine V_ift rfl ?_
        repeat refine V_seq (x := .seq _ _) ?_
        first | refine VR [4] (by kernel_rfl) ?_ | refine VR1 [4] (by kernel_rfl) ?_
        push_cast (disch := omega)
        repeat refine And.intro (by omega) ?_
        first | refine V_seq (V_ret ?_) | refine V_ret ?_
        push_cast (disch := omega)
        rw [hfalse (by simp only [rightC, hr3, decide_true, Bool.or_true, Bool.not_true, Bool.false_and])]
        exact ⟨rfl, hU5.trans hu6⟩
    · cases i with
      | zero =>
        repeat refine V_seq (x := .seq _ _) ?_
        first | refine VD [0, 1, 6, 8, 9, 10, 11, 26] [(true, 0), (true, 1), (true, 2), (true, 3), (true, 4), (true, 5), (true, 6), (true, 7), (true, 8), (true, 9), (true, 10), (true, 11), (true, 12), (true, 13), (true, 14), (true, 15), (true, 16), (true, 17), (true, 18), (true, 19), (true, 20), (true, 21), (true, 22), (true, 23)] (by kernel_rfl) (N := [1, 2, 5, 6, 10, 13, 16, 19, 20]) (by kernel_rfl) Tryz.mixed (fun _ _ _ h => h) ?_ | refine VD1 [0, 1, 6, 8, 9, 10, 11, 26] [(true, 0), (true, 1), (true, 2), (true, 3), (true, 4), (true, 5), (true, 6), (true, 7), (true, 8), (true, 9), (true, 10), (true, 11), (true, 12), (true, 13), (true, 14), (true, 15), (true, 16), (true, 17), (true, 18), (true, 19), (true, 20), (true, 21), (true, 22), (true, 23)] (by kernel_rfl) (N := [1, 2, 5, 6, 10, 13, 16, 19, 20]) (by kernel_rfl) Tryz.mixed (fun _ _ _ h => h) ?_
        intro w6 hh6 hu6
        push_cast (disch := omega) [hh6, hg35]
        repeat refine And.intro (by omega) ?_
        have hg36 : w6.heap[b1]? = some (.cells #[.int .i64 c.key, .string c.bytes, .bool c.gone] 32 (0, 0)) := by rw [hh6]; exact hg35
        repeat refine V_seq (x := .seq _ _) ?_
        first | refine V_seq (V_iff rfl ?_) | refine V_iff rfl ?_
        cases hgo : c.gone with
        | true =>
          rw [hgo] at hg36
          cases hsm : (getK s.kv c.key).isSome with
          | false =>
            repeat refine V_seq (x := .seq _ _) ?_
            first | refine VR [0, 1, 6, 9, 10, 11, 50] (by kernel_rfl) ?_ | refine VR1 [0, 1, 6, 9, 10, 11, 50] (by kernel_rfl) ?_
            push_cast (disch := omega) [hg36]
            repeat refine And.intro (by omega) ?_
            repeat refine V_seq (x := .seq _ _) ?_
            first | refine V_seq (V_ift rfl ?_) | refine V_ift rfl ?_
            repeat refine V_seq (x := .seq _ _) ?_
            first | refine VR [4] (by kernel_rfl) ?_ | refine VR1 [4] (by kernel_rfl) ?_
            push_cast (disch := omega)
            repeat refine And.intro (by omega) ?_
            first | refine V_seq (V_ret ?_) | refine V_ret ?_
            push_cast (disch := omega)
            rw [hfalse (by simp [rightC, hgo, hsm])]
            exact ⟨rfl, hU5.trans hu6⟩
          | true =>
            by_cases hby : c.bytes = .empty
            · repeat refine V_seq (x := .seq _ _) ?_
              first | refine VR [0, 1, 6, 9, 10, 11, 50] (by kernel_rfl) ?_ | refine VR1 [0, 1, 6, 9, 10, 11, 50] (by kernel_rfl) ?_
              push_cast (disch := omega) [hg36, hby]
              repeat refine And.intro (by omega) ?_
              repeat refine V_seq (x := .seq _ _) ?_
              first | refine V_seq (V_iff rfl ?_) | refine V_iff rfl ?_
              have hsz : c.bytes.size ≤ 300 := by rw [hby]; exact Nat.zero_le _
              repeat refine V_seq (x := .seq _ _) ?_
              first | refine VR [0, 1, 9, 10, 11, 62] (by kernel_rfl) ?_ | refine VR1 [0, 1, 9, 10, 11, 62] (by kernel_rfl) ?_
              push_cast (disch := omega) [hg36]
              repeat refine And.intro (by omega) ?_
              repeat refine V_seq (x := .seq _ _) ?_
              first | refine V_seq (V_iff rfl ?_) | refine V_iff rfl ?_
              first | refine V_seq (V_skip ?_) | refine V_skip ?_
              push_cast (disch := omega)
              repeat refine V_seq (x := .seq _ _) ?_
              first | refine VR [0, 1, 9, 10, 11] (by kernel_rfl) ?_ | refine VR1 [0, 1, 9, 10, 11] (by kernel_rfl) ?_
              push_cast (disch := omega)
              repeat refine And.intro (by omega) ?_
              refine ⟨0 + 1, ?_, ?_, (by dsimp only; omega)⟩ <;> dsimp only
              · push_cast
              · refine ⟨⟨by omega, ?_⟩, hU5.trans hu6⟩
                rw [heq, hnx, rightC, show decide (c.key < 1) = false from decide_eq_false hr1, show decide (c.key > 90) = false from decide_eq_false hr2, show decide (prevK l 0 = some c.key) = false from decide_eq_false hr3]
                simp [hgo, hsm, hby, hsz]

            · repeat refine V_seq (x := .seq _ _) ?_
              first | refine VR [0, 1, 6, 9, 10, 11, 50] (by kernel_rfl) ?_ | refine VR1 [0, 1, 6, 9, 10, 11, 50] (by kernel_rfl) ?_
              push_cast (disch := omega) [hg36, show decide (c.bytes = (⟨#[]⟩ : ByteArray)) = false from decide_eq_false hby]
              repeat refine And.intro (by omega) ?_
              repeat refine V_seq (x := .seq _ _) ?_
              first | refine V_seq (V_ift rfl ?_) | refine V_ift rfl ?_
              repeat refine V_seq (x := .seq _ _) ?_
              first | refine VR [4] (by kernel_rfl) ?_ | refine VR1 [4] (by kernel_rfl) ?_
              push_cast (disch := omega)
              repeat refine And.intro (by omega) ?_
              first | refine V_seq (V_ret ?_) | refine V_ret ?_
              push_cast (disch := omega)
              rw [hfalse (by simp [rightC, hgo, hby])]
              exact ⟨rfl, hU5.trans hu6⟩
        | false =>
          rw [hgo] at hg36
          repeat refine V_seq (x := .seq _ _) ?_
          first | refine VR [0, 1, 6, 9, 10, 11, 50] (by kernel_rfl) ?_ | refine VR1 [0, 1, 6, 9, 10, 11, 50] (by kernel_rfl) ?_
          push_cast (disch := omega) [hg36]
          repeat refine And.intro (by omega) ?_
          repeat refine V_seq (x := .seq _ _) ?_
          first | refine V_seq (V_iff rfl ?_) | refine V_iff rfl ?_
          by_cases hsz : c.bytes.size ≤ 300
          · skip
            have hsz : c.bytes.size ≤ 300 := by exact hsz
            repeat refine V_seq (x := .seq _ _) ?_
            first | refine VR [0, 1, 9, 10, 11, 62] (by kernel_rfl) ?_ | refine VR1 [0, 1, 9, 10, 11, 62] (by kernel_rfl) ?_
            push_cast (disch := omega) [hg36]
            repeat refine And.intro (by omega) ?_
            repeat refine V_seq (x := .seq _ _) ?_
            first | refine V_seq (V_iff rfl ?_) | refine V_iff rfl ?_
            first | refine V_seq (V_skip ?_) | refine V_skip ?_
            push_cast (disch := omega)
            repeat refine V_seq (x := .seq _ _) ?_
            first | refine VR [0, 1, 9, 10, 11] (by kernel_rfl) ?_ | refine VR1 [0, 1, 9, 10, 11] (by kernel_rfl) ?_
            push_cast (disch := omega)
            repeat refine And.intro (by omega) ?_
            refine ⟨0 + 1, ?_, ?_, (by dsimp only; omega)⟩ <;> dsimp only
            · push_cast
            · refine ⟨⟨by omega, ?_⟩, hU5.trans hu6⟩
              rw [heq, hnx, rightC, show decide (c.key < 1) = false from decide_eq_false hr1, show decide (c.key > 90) = false from decide_eq_false hr2, show decide (prevK l 0 = some c.key) = false from decide_eq_false hr3]
              simp [hgo, hsz]

          · repeat refine V_seq (x := .seq _ _) ?_
            first | refine VR [0, 1, 9, 10, 11, 62] (by kernel_rfl) ?_ | refine VR1 [0, 1, 9, 10, 11, 62] (by kernel_rfl) ?_
            push_cast (disch := omega) [hg36]
            repeat refine And.intro (by omega) ?_
            repeat refine V_seq (x := .seq _ _) ?_
            first | refine V_seq (V_ift rfl ?_) | refine V_ift rfl ?_
            repeat refine V_seq (x := .seq _ _) ?_
            first | refine VR [4] (by kernel_rfl) ?_ | refine VR1 [4] (by kernel_rfl) ?_
            push_cast (disch := omega)
            repeat refine And.intro (by omega) ?_
            first | refine V_seq (V_ret ?_) | refine V_ret ?_
            push_cast (disch := omega)
            rw [hfalse (by simp [rightC, hsz])]
            exact ⟨rfl, hU5.trans hu6⟩
      | succ j =>
        have hj : j < l.length := by omega
        have hxj := ext_of_take htk (j * 3) 3 (by omega)
        rw [chV_get hj] at hxj
        have hcj : cs[o0 + j * 3]? = some (.int .i64 l[j].key) := by
          have := congrArg (fun a : Array Value => a[0]?) hxj
          rw [Array.getElem?_extract] at this
          simp at this
          exact this.2
        have hkj : c.key ≠ l[j].key := by simp [prevK, hj] at hr3; exact fun e => hr3 e.symm
        have ej : ((j : Int) + 1 - 1).toNat = j := by omega
        repeat refine V_seq (x := .seq _ _) ?_
        first | refine VD [0, 1, 6, 8, 9, 10, 11, 26] [(true, 0), (true, 1), (true, 2), (true, 3), (true, 4), (true, 5), (true, 6), (true, 7), (true, 8), (true, 9), (true, 10), (true, 11), (true, 12), (true, 13), (true, 14), (true, 15), (true, 16), (true, 17), (true, 18), (true, 19), (true, 20), (true, 21), (true, 22), (true, 23)] (by kernel_rfl) (N := [1, 2, 5, 6, 10, 13, 16, 19, 20]) (by kernel_rfl) Tryz.mixed (fun _ _ _ h => h) ?_ | refine VD1 [0, 1, 6, 8, 9, 10, 11, 26] [(true, 0), (true, 1), (true, 2), (true, 3), (true, 4), (true, 5), (true, 6), (true, 7), (true, 8), (true, 9), (true, 10), (true, 11), (true, 12), (true, 13), (true, 14), (true, 15), (true, 16), (true, 17), (true, 18), (true, 19), (true, 20), (true, 21), (true, 22), (true, 23)] (by kernel_rfl) (N := [1, 2, 5, 6, 10, 13, 16, 19, 20]) (by kernel_rfl) Tryz.mixed (fun _ _ _ h => h) ?_
        intro w6 hh6 hu6
        push_cast (disch := omega) [hh6, hg35, hb5, hcj, ej]
        repeat refine And.intro (by omega) ?_
        have hg36 : w6.heap[b1]? = some (.cells #[.int .i64 c.key, .string c.bytes, .bool c.gone] 32 (0, 0)) := by rw [hh6]; exact hg35
        repeat refine V_seq (x := .seq _ _) ?_
        first | refine V_seq (V_iff rfl ?_) | refine V_iff rfl ?_
        cases hgo : c.gone with
        | true =>
          rw [hgo] at hg36
          cases hsm : (getK s.kv c.key).isSome with
          | false =>
            repeat refine V_seq (x := .seq _ _) ?_
            first | refine VR [0, 1, 6, 9, 10, 11, 50] (by kernel_rfl) ?_ | refine VR1 [0, 1, 6, 9, 10, 11, 50] (by kernel_rfl) ?_
            push_cast (disch := omega) [hg36]
            repeat refine And.intro (by omega) ?_
            repeat refine V_seq (x := .seq _ _) ?_
            first | refine V_seq (V_ift rfl ?_) | refine V_ift rfl ?_
            repeat refine V_seq (x := .seq _ _) ?_
            first | refine VR [4] (by kernel_rfl) ?_ | refine VR1 [4] (by kernel_rfl) ?_
            push_cast (disch := omega)
            repeat refine And.intro (by omega) ?_
            first | refine V_seq (V_ret ?_) | refine V_ret ?_
            push_cast (disch := omega)
            rw [hfalse (by simp [rightC, hgo, hsm])]
            exact ⟨rfl, hU5.trans hu6⟩
          | true =>
            by_cases hby : c.bytes = .empty
            · repeat refine V_seq (x := .seq _ _) ?_
              first | refine VR [0, 1, 6, 9, 10, 11, 50] (by kernel_rfl) ?_ | refine VR1 [0, 1, 6, 9, 10, 11, 50] (by kernel_rfl) ?_
              push_cast (disch := omega) [hg36, hby]
              repeat refine And.intro (by omega) ?_
              repeat refine V_seq (x := .seq _ _) ?_
              first | refine V_seq (V_iff rfl ?_) | refine V_iff rfl ?_
              have hsz : c.bytes.size ≤ 300 := by rw [hby]; exact Nat.zero_le _
              repeat refine V_seq (x := .seq _ _) ?_
              first | refine VR [0, 1, 9, 10, 11, 62] (by kernel_rfl) ?_ | refine VR1 [0, 1, 9, 10, 11, 62] (by kernel_rfl) ?_
              push_cast (disch := omega) [hg36]
              repeat refine And.intro (by omega) ?_
              repeat refine V_seq (x := .seq _ _) ?_
              first | refine V_seq (V_iff rfl ?_) | refine V_iff rfl ?_
              first | refine V_seq (V_skip ?_) | refine V_skip ?_
              push_cast (disch := omega)
              repeat refine V_seq (x := .seq _ _) ?_
              first | refine VR [0, 1, 9, 10, 11] (by kernel_rfl) ?_ | refine VR1 [0, 1, 9, 10, 11] (by kernel_rfl) ?_
              push_cast (disch := omega)
              repeat refine And.intro (by omega) ?_
              refine ⟨j + 1 + 1, ?_, ?_, (by dsimp only; omega)⟩ <;> dsimp only
              · push_cast
              · refine ⟨⟨by omega, ?_⟩, hU5.trans hu6⟩
                rw [heq, hnx, rightC, show decide (c.key < 1) = false from decide_eq_false hr1, show decide (c.key > 90) = false from decide_eq_false hr2, show decide (prevK l (j + 1) = some c.key) = false from decide_eq_false hr3]
                simp [hgo, hsm, hby, hsz]

            · repeat refine V_seq (x := .seq _ _) ?_
              first | refine VR [0, 1, 6, 9, 10, 11, 50] (by kernel_rfl) ?_ | refine VR1 [0, 1, 6, 9, 10, 11, 50] (by kernel_rfl) ?_
              push_cast (disch := omega) [hg36, show decide (c.bytes = (⟨#[]⟩ : ByteArray)) = false from decide_eq_false hby]
              repeat refine And.intro (by omega) ?_
              repeat refine V_seq (x := .seq _ _) ?_
              first | refine V_seq (V_ift rfl ?_) | refine V_ift rfl ?_
              repeat refine V_seq (x := .seq _ _) ?_
              first | refine VR [4] (by kernel_rfl) ?_ | refine VR1 [4] (by kernel_rfl) ?_
              push_cast (disch := omega)
              repeat refine And.intro (by omega) ?_
              first | refine V_seq (V_ret ?_) | refine V_ret ?_
              push_cast (disch := omega)
              rw [hfalse (by simp [rightC, hgo, hby])]
              exact ⟨rfl, hU5.trans hu6⟩
        | false =>
          rw [hgo] at hg36
          repeat refine V_seq (x := .seq _ _) ?_
          first | refine VR [0, 1, 6, 9, 10, 11, 50] (by kernel_rfl) ?_ | refine VR1 [0, 1, 6, 9, 10, 11, 50] (by kernel_rfl) ?_
          push_cast (disch := omega) [hg36]
          repeat refine And.intro (by omega) ?_
          repeat refine V_seq (x := .seq _ _) ?_
          first | refine V_seq (V_iff rfl ?_) | refine V_iff rfl ?_
          by_cases hsz : c.bytes.size ≤ 300
          · skip
            have hsz : c.bytes.size ≤ 300 := by exact hsz
            repeat refine V_seq (x := .seq _ _) ?_
            first | refine VR [0, 1, 9, 10, 11, 62] (by kernel_rfl) ?_ | refine VR1 [0, 1, 9, 10, 11, 62] (by kernel_rfl) ?_
            push_cast (disch := omega) [hg36]
            repeat refine And.intro (by omega) ?_
            repeat refine V_seq (x := .seq _ _) ?_
            first | refine V_seq (V_iff rfl ?_) | refine V_iff rfl ?_
            first | refine V_seq (V_skip ?_) | refine V_skip ?_
            push_cast (disch := omega)
            repeat refine V_seq (x := .seq _ _) ?_
            first | refine VR [0, 1, 9, 10, 11] (by kernel_rfl) ?_ | refine VR1 [0, 1, 9, 10, 11] (by kernel_rfl) ?_
            push_cast (disch := omega)
            repeat refine And.intro (by omega) ?_
            refine ⟨j + 1 + 1, ?_, ?_, (by dsimp only; omega)⟩ <;> dsimp only
            · push_cast
            · refine ⟨⟨by omega, ?_⟩, hU5.trans hu6⟩
              rw [heq, hnx, rightC, show decide (c.key < 1) = false from decide_eq_false hr1, show decide (c.key > 90) = false from decide_eq_false hr2, show decide (prevK l (j + 1) = some c.key) = false from decide_eq_false hr3]
              simp [hgo, hsz]

          · repeat refine V_seq (x := .seq _ _) ?_
            first | refine VR [0, 1, 9, 10, 11, 62] (by kernel_rfl) ?_ | refine VR1 [0, 1, 9, 10, 11, 62] (by kernel_rfl) ?_
            push_cast (disch := omega) [hg36]
            repeat refine And.intro (by omega) ?_
            repeat refine V_seq (x := .seq _ _) ?_
            first | refine V_seq (V_ift rfl ?_) | refine V_ift rfl ?_
            repeat refine V_seq (x := .seq _ _) ?_
            first | refine VR [4] (by kernel_rfl) ?_ | refine VR1 [4] (by kernel_rfl) ?_
            push_cast (disch := omega)
            repeat refine And.intro (by omega) ?_
            first | refine V_seq (V_ret ?_) | refine V_ret ?_
            push_cast (disch := omega)
            rw [hfalse (by simp [rightC, hsz])]
            exact ⟨rfl, hU5.trans hu6⟩
  · first | refine V_seq (V_exit ?_) | refine V_exit ?_
    push_cast (disch := omega)
    repeat refine V_seq (x := .seq _ _) ?_
    first | refine VR [4] (by kernel_rfl) ?_ | refine VR1 [4] (by kernel_rfl) ?_
    push_cast (disch := omega)
    repeat refine And.intro (by omega) ?_
    first | refine V_seq (V_ret ?_) | refine V_ret ?_
    push_cast (disch := omega)
    obtain rfl : i = l.length := by omega
    rw [List.drop_length, rightL] at heq
    rw [heq]
    exact ⟨rfl, hU⟩
end Go.Proofs
