/- Memory that is the walk's own: stores, new rows, appending, bytes and texts; loops that are walked round by round. -/
import Derived.Test.YthknnpojfhohbaaGreatKitA
import Derived.Maps.AppendAt
import Derived.Lib.AppendStr
import Derived.Laws.BytesString
import Derived.Lib.FrozenHead
import Derived.Laws.MakeOwn
import Derived.Laws.IdiomRangeMap
import Derived.Maps.RangeRun
import Derived.Shelf.Sort.Plain
set_option linter.unusedVariables false
set_option linter.unusedSimpArgs false
namespace Go.Vc
open Go Go.RowKit

/-! ### Stores -/
def objF (o : Option Obj) (f : Array Value → TypeId → Nat × Nat → Prop) : Prop := match o with | some (.cells cs U fr) => f cs U fr | _ => False
@[congr] theorem objF_congr {o o' : Option Obj} {f : Array Value → TypeId → Nat × Nat → Prop} (h : mk o = o') : objF o f = objF o' f := by rw [← mk_eq o, h]
@[push_cast] theorem objF_some {cs : Array Value} {U : TypeId} {fr : Nat × Nat} {f : Array Value → TypeId → Nat × Nat → Prop} : objF (some (.cells cs U fr)) f = f cs U fr := Eq.trans rfl rfl
/-- What a store leaves. -/
def storeK (b : Nat) (w : World) (cs : List Value) (U : TypeId) (fr : Nat × Nat) (k : World → Prop) : Prop := ∀ w', w'.heap.size = w.heap.size → Ux b w w' → w'.heap[b]? = some (.cells cs.toArray U fr) → k w'
@[congr] theorem storeK_congr {b : Nat} {w : World} {cs cs' : List Value} {U : TypeId} {fr : Nat × Nat} {k : World → Prop} (h : mk cs = cs') : storeK b w cs U fr k = storeK b w cs' U fr k := by rw [← mk_eq cs, h]
def fitsC (v : Value) (n o : Nat) (cs : Array Value) (fr : Nat × Nat) : Prop := (v.cells.size = n ∧ fr = (0, 0)) ∧ (o + n ≤ cs.size ∧ v.cells.all one' = true)
@[push_cast] theorem storeF_at {P : Program} {T : TypeId} {b o : Nat} {v : Value} {w : World} {k : World → Prop} : storeF P T (.pointer (some ⟨b, o, none⟩)) v w k =
    objF w.heap[b]? fun cs U fr => pairF (tyOf P T) fun _ n => fitsC v n o cs fr ∧ storeK b w (wr cs.toList o v.cells.toList) U fr k := by
  unfold storeF
  dsimp only
  generalize ho : w.heap[b]? = o'
  unfold objF pairF storeK fitsC
  cases o' with
  | none => rfl
  | some x => cases x with
    | cells cs U fr => cases tyOf P T <;> rfl
    | _ => rfl
theorem fitsC_one {v : Value} {o : Nat} {cs : Array Value} (hv : v.cells = #[v]) (h1 : one' v = true) : fitsC v 1 o cs (0, 0) = (o < cs.size) := by
  unfold fitsC
  rw [hv]
  exact propext ⟨fun h => h.2.1, fun h => ⟨⟨rfl, rfl⟩, h, by simp [h1]⟩⟩
@[push_cast] theorem fitsC_agg {vs : List Value} {n o : Nat} {cs : Array Value} : fitsC (.agg vs.toArray) n o cs (0, 0) = ((vs.length = n ∧ o + n ≤ cs.size) ∧ vs.all one' = true) := by
  unfold fitsC
  exact propext ⟨fun h => ⟨⟨by simpa [Value.cells] using h.1.1, h.2.1⟩, by simpa [Value.cells] using h.2.2⟩, fun h => ⟨⟨by simpa [Value.cells] using h.1.1, rfl⟩, h.1.2, by simpa [Value.cells] using h.2⟩⟩
section
variable {q : IntKind} {a : Int} {s : ByteArray} {b : Bool} {p : Option Addr} {n c : Nat} {m : Option Nat}
@[push_cast] theorem cells_int : (Value.int q a).cells = #[.int q a] := rfl
@[push_cast] theorem cells_string : (Value.string s).cells = #[.string s] := rfl
@[push_cast] theorem cells_bool : (Value.bool b).cells = #[.bool b] := rfl
@[push_cast] theorem cells_pointer : (Value.pointer p).cells = #[.pointer p] := rfl
@[push_cast] theorem cells_slice : (Value.slice p n c).cells = #[.slice p n c] := rfl
@[push_cast] theorem cells_map : (Value.map m).cells = #[.map m] := rfl
@[push_cast] theorem one_int : one' (.int q a) = true := rfl
@[push_cast] theorem one_string : one' (.string s) = true := rfl
@[push_cast] theorem one_bool : one' (.bool b) = true := rfl
@[push_cast] theorem one_pointer : one' (.pointer p) = true := rfl
@[push_cast] theorem one_slice : one' (.slice p n c) = true := rfl
@[push_cast] theorem one_map : one' (.map m) = true := rfl
end
@[push_cast] theorem fitsC_int {q : IntKind} {a : Int} {o : Nat} {cs : Array Value} : fitsC (.int q a) 1 o cs (0, 0) = (o < cs.size) := fitsC_one rfl rfl
@[push_cast] theorem fitsC_string {s : ByteArray} {o : Nat} {cs : Array Value} : fitsC (.string s) 1 o cs (0, 0) = (o < cs.size) := fitsC_one rfl rfl
@[push_cast] theorem fitsC_bool {b : Bool} {o : Nat} {cs : Array Value} : fitsC (.bool b) 1 o cs (0, 0) = (o < cs.size) := fitsC_one rfl rfl
@[push_cast] theorem fitsC_pointer {p : Option Addr} {o : Nat} {cs : Array Value} : fitsC (.pointer p) 1 o cs (0, 0) = (o < cs.size) := fitsC_one rfl rfl
@[push_cast] theorem fitsC_slice {p : Option Addr} {n c : Nat} {o : Nat} {cs : Array Value} : fitsC (.slice p n c) 1 o cs (0, 0) = (o < cs.size) := fitsC_one rfl rfl
@[push_cast] theorem fitsC_map {m : Option Nat} {o : Nat} {cs : Array Value} : fitsC (.map m) 1 o cs (0, 0) = (o < cs.size) := fitsC_one rfl rfl
@[push_cast] theorem wr_nil {cs : List Value} {o : Nat} : wr cs o [] = cs := rfl
@[push_cast] theorem wr_cons {cs vs : List Value} {o : Nat} {v : Value} : wr cs o (v :: vs) = wr (cs.set o v) (o + 1) vs := rfl
attribute [push_cast] List.set_cons_zero List.set_cons_succ List.all_cons List.all_nil Bool.and_true Bool.true_and List.size_toArray

@[push_cast] theorem pow_min0 {n : Nat} : (2 : Int) ^ min 0 n = 1 := by rw [Nat.zero_min]; rfl
@[push_cast] theorem pow_u8_1 : (2 : Int) ^ min 1 IntKind.u8.bits = 2 := by decide
@[push_cast] theorem pow_u8_2 : (2 : Int) ^ min 2 IntKind.u8.bits = 4 := by decide
@[push_cast] theorem pow_u8_3 : (2 : Int) ^ min 3 IntKind.u8.bits = 8 := by decide
@[push_cast] theorem pow_u8_4 : (2 : Int) ^ min 4 IntKind.u8.bits = 16 := by decide
@[push_cast] theorem pow_u8_5 : (2 : Int) ^ min 5 IntKind.u8.bits = 32 := by decide
@[push_cast] theorem pow_u8_6 : (2 : Int) ^ min 6 IntKind.u8.bits = 64 := by decide
@[push_cast] theorem pow_u8_7 : (2 : Int) ^ min 7 IntKind.u8.bits = 128 := by decide
@[push_cast] theorem pow_u8_8 : (2 : Int) ^ min 8 IntKind.u8.bits = 256 := by decide
@[push_cast] theorem pow_u8_13 : (2 : Int) ^ min 13 IntKind.u8.bits = 256 := by decide
@[push_cast] theorem pow_u8_16 : (2 : Int) ^ min 16 IntKind.u8.bits = 256 := by decide
@[push_cast] theorem pow_u8_17 : (2 : Int) ^ min 17 IntKind.u8.bits = 256 := by decide
@[push_cast] theorem pow_u8_24 : (2 : Int) ^ min 24 IntKind.u8.bits = 256 := by decide
@[push_cast] theorem pow_u8_32 : (2 : Int) ^ min 32 IntKind.u8.bits = 256 := by decide
@[push_cast] theorem pow_u8_48 : (2 : Int) ^ min 48 IntKind.u8.bits = 256 := by decide
@[push_cast] theorem pow_u32_1 : (2 : Int) ^ min 1 IntKind.u32.bits = 2 := by decide
@[push_cast] theorem pow_u32_2 : (2 : Int) ^ min 2 IntKind.u32.bits = 4 := by decide
@[push_cast] theorem pow_u32_3 : (2 : Int) ^ min 3 IntKind.u32.bits = 8 := by decide
@[push_cast] theorem pow_u32_4 : (2 : Int) ^ min 4 IntKind.u32.bits = 16 := by decide
@[push_cast] theorem pow_u32_5 : (2 : Int) ^ min 5 IntKind.u32.bits = 32 := by decide
@[push_cast] theorem pow_u32_6 : (2 : Int) ^ min 6 IntKind.u32.bits = 64 := by decide
@[push_cast] theorem pow_u32_7 : (2 : Int) ^ min 7 IntKind.u32.bits = 128 := by decide
@[push_cast] theorem pow_u32_8 : (2 : Int) ^ min 8 IntKind.u32.bits = 256 := by decide
@[push_cast] theorem pow_u32_13 : (2 : Int) ^ min 13 IntKind.u32.bits = 8192 := by decide
@[push_cast] theorem pow_u32_16 : (2 : Int) ^ min 16 IntKind.u32.bits = 65536 := by decide
@[push_cast] theorem pow_u32_17 : (2 : Int) ^ min 17 IntKind.u32.bits = 131072 := by decide
@[push_cast] theorem pow_u32_24 : (2 : Int) ^ min 24 IntKind.u32.bits = 16777216 := by decide
@[push_cast] theorem pow_u32_32 : (2 : Int) ^ min 32 IntKind.u32.bits = 4294967296 := by decide
@[push_cast] theorem pow_u32_48 : (2 : Int) ^ min 48 IntKind.u32.bits = 4294967296 := by decide
@[push_cast] theorem pow_u64_1 : (2 : Int) ^ min 1 IntKind.u64.bits = 2 := by decide
@[push_cast] theorem pow_u64_2 : (2 : Int) ^ min 2 IntKind.u64.bits = 4 := by decide
@[push_cast] theorem pow_u64_3 : (2 : Int) ^ min 3 IntKind.u64.bits = 8 := by decide
@[push_cast] theorem pow_u64_4 : (2 : Int) ^ min 4 IntKind.u64.bits = 16 := by decide
@[push_cast] theorem pow_u64_5 : (2 : Int) ^ min 5 IntKind.u64.bits = 32 := by decide
@[push_cast] theorem pow_u64_6 : (2 : Int) ^ min 6 IntKind.u64.bits = 64 := by decide
@[push_cast] theorem pow_u64_7 : (2 : Int) ^ min 7 IntKind.u64.bits = 128 := by decide
@[push_cast] theorem pow_u64_8 : (2 : Int) ^ min 8 IntKind.u64.bits = 256 := by decide
@[push_cast] theorem pow_u64_13 : (2 : Int) ^ min 13 IntKind.u64.bits = 8192 := by decide
@[push_cast] theorem pow_u64_16 : (2 : Int) ^ min 16 IntKind.u64.bits = 65536 := by decide
@[push_cast] theorem pow_u64_17 : (2 : Int) ^ min 17 IntKind.u64.bits = 131072 := by decide
@[push_cast] theorem pow_u64_24 : (2 : Int) ^ min 24 IntKind.u64.bits = 16777216 := by decide
@[push_cast] theorem pow_u64_32 : (2 : Int) ^ min 32 IntKind.u64.bits = 4294967296 := by decide
@[push_cast] theorem pow_u64_48 : (2 : Int) ^ min 48 IntKind.u64.bits = 281474976710656 := by decide
@[push_cast] theorem pow_i64_1 : (2 : Int) ^ min 1 IntKind.i64.bits = 2 := by decide
@[push_cast] theorem pow_i64_2 : (2 : Int) ^ min 2 IntKind.i64.bits = 4 := by decide
@[push_cast] theorem pow_i64_3 : (2 : Int) ^ min 3 IntKind.i64.bits = 8 := by decide
@[push_cast] theorem pow_i64_4 : (2 : Int) ^ min 4 IntKind.i64.bits = 16 := by decide
@[push_cast] theorem pow_i64_5 : (2 : Int) ^ min 5 IntKind.i64.bits = 32 := by decide
@[push_cast] theorem pow_i64_6 : (2 : Int) ^ min 6 IntKind.i64.bits = 64 := by decide
@[push_cast] theorem pow_i64_7 : (2 : Int) ^ min 7 IntKind.i64.bits = 128 := by decide
@[push_cast] theorem pow_i64_8 : (2 : Int) ^ min 8 IntKind.i64.bits = 256 := by decide
@[push_cast] theorem pow_i64_13 : (2 : Int) ^ min 13 IntKind.i64.bits = 8192 := by decide
@[push_cast] theorem pow_i64_16 : (2 : Int) ^ min 16 IntKind.i64.bits = 65536 := by decide
@[push_cast] theorem pow_i64_17 : (2 : Int) ^ min 17 IntKind.i64.bits = 131072 := by decide
@[push_cast] theorem pow_i64_24 : (2 : Int) ^ min 24 IntKind.i64.bits = 16777216 := by decide
@[push_cast] theorem pow_i64_32 : (2 : Int) ^ min 32 IntKind.i64.bits = 4294967296 := by decide
@[push_cast] theorem pow_i64_48 : (2 : Int) ^ min 48 IntKind.i64.bits = 281474976710656 := by decide
theorem fdivE {a b : Int} (h : 0 ≤ b) : a.fdiv b = a / b := Int.fdiv_eq_ediv_of_nonneg _ h
attribute [push_cast] fdivE Int.ediv_one Int.one_mul Int.mul_one Int.zero_add Int.add_zero Int.sub_zero Int.zero_mul Int.mul_zero
section
variable {a b : Int} {m n : Nat}
@[push_cast] theorem dec_lt_t (h : a < b) : decide (a < b) = true := decide_eq_true h
@[push_cast] theorem dec_lt_f (h : b ≤ a) : decide (a < b) = false := decide_eq_false (by omega)
@[push_cast] theorem dec_le_t (h : a ≤ b) : decide (a ≤ b) = true := decide_eq_true h
@[push_cast] theorem dec_le_f (h : b < a) : decide (a ≤ b) = false := decide_eq_false (by omega)
@[push_cast] theorem dec_gt_t (h : a > b) : decide (a > b) = true := decide_eq_true h
@[push_cast] theorem dec_gt_f (h : a ≤ b) : decide (a > b) = false := decide_eq_false (by omega)
@[push_cast] theorem dec_ge_t (h : a ≥ b) : decide (a ≥ b) = true := decide_eq_true h
@[push_cast] theorem dec_ge_f (h : a < b) : decide (a ≥ b) = false := decide_eq_false (by omega)
@[push_cast] theorem dec_eq_t (h : a = b) : decide (a = b) = true := decide_eq_true h
@[push_cast] theorem dec_eq_f (h : a ≠ b) : decide (a = b) = false := decide_eq_false h
end
/-- Where what is appended to lies now: where it lay, or on new ground. -/
def Grow (w : World) (v v' : Value) : Prop := v'.ownBlock = v.ownBlock ∨ ∃ g, v'.ownBlock = some g ∧ w.heap.size ≤ g
theorem Grow.refl (w : World) (v : Value) : Grow w v v := .inl rfl
theorem Grow.trans {w w1 : World} {v v1 v2 : Value} (h : Grow w v v1) (h1 : Grow w1 v1 v2) (hs : w.heap.size ≤ w1.heap.size) : Grow w v v2 := by
  rcases h1 with e | ⟨g, e, hg⟩
  · rcases h with e' | ⟨g, e', hg⟩
    · exact .inl (e.trans e')
    · exact .inr ⟨g, e.trans e', hg⟩
  · exact .inr ⟨g, e, by omega⟩
theorem Grow.ne {w : World} {v v' : Value} {k : Nat} (h : Grow w v v') (hk : k < w.heap.size) (hn : v.ownBlock ≠ some k) : v'.ownBlock ≠ some k := by
  rcases h with e | ⟨g, e, hg⟩
  · rw [e]; exact hn
  · rw [e]; intro e'; cases e'; omega
theorem Grow.of_app {w : World} {v v' : Value} (h : v'.ownBlock = v.ownBlock ∨ v'.ownBlock = some w.heap.size) : Grow w v v' := by
  rcases h with e | e
  · exact .inl e
  · exact .inr ⟨_, e, Nat.le_refl _⟩
/-! ### A slice that is written out -/
def okB (P : Program) (e : TypeId) (n s l : Nat) : Bool := match Nat.beq l n with
  | true => match Nat.ble (n * s) 16777216 with
    | true => (zeroOf P e).isSome
    | false => false
  | false => false
attribute [push_cast] okB.eq_1
def rowF (s : Nat) : Nat → List (Nat × Value) → (List Value → Prop) → Prop
  | _, [], f => f []
  | i, (j, v) :: r, f => match Nat.beq i j with
    | true => match Nat.beq v.cells.size s with
      | true => rowF s (i + 1) r fun l => f (v.cells.toList ++ l)
      | false => False
    | false => False
theorem rowF_eq (s : Nat) : ∀ (vs : List (Nat × Value)) (i : Nat) (f : List Value → Prop), rowF s i vs f = optF (rowOf s i vs) f
  | [], i, f => rfl
  | (j, v) :: r, i, f => by
    simp only [rowF, rowOf]
    cases Nat.beq i j with
    | false => rfl
    | true =>
      cases Nat.beq v.cells.size s with
      | false => rfl
      | true =>
        simp only [rowF_eq s r]
        cases rowOf s (i + 1) r <;> rfl
@[push_cast] theorem rowF_nil {s i : Nat} {f : List Value → Prop} : rowF s i [] f = f [] := Eq.trans rfl rfl
@[push_cast] theorem rowF_cons {s i j : Nat} {v : Value} {r : List (Nat × Value)} {f : List Value → Prop} : rowF s i ((j, v) :: r) f = match Nat.beq i j with
    | true => match Nat.beq v.cells.size s with
      | true => rowF s (i + 1) r fun l => f (v.cells.toList ++ l)
      | false => False
    | false => False := Eq.trans rfl rfl
attribute [push_cast] List.cons_append List.nil_append List.append_nil
@[push_cast] theorem buildF_lit {P : Program} {T : TypeId} {n : Nat} {vs : List (Nat × Value)} {w : World} {k : Value → World → Prop} : buildF P T n vs w k =
    optF (sliceElT P T) fun e => optF (sliceEl P T) fun s => rowF s 0 vs fun l => boolF (okB P e n s vs.length) (newF e l.toArray w fun b w' => k (.slice (some ⟨b, 0, none⟩) n n) w') False := by
  unfold buildF
  cases sliceElT P T with
  | none => rfl
  | some e => cases sliceEl P T with
    | none => rfl
    | some s =>
      simp only [optF_some, rowF_eq]
      cases rowOf s 0 vs with
      | none => rfl
      | some l =>
        simp only [optF_some, okB]
        cases h1 : Nat.beq vs.length n with
        | false => simp [boolF]
        | true =>
          cases h2 : Nat.ble (n * s) 16777216 with
          | false => have : ¬ n * s ≤ 16777216 := fun h => by rw [Nat.ble_eq_true_of_le h] at h2; cases h2
                     simp [boolF, this]
          | true => have : n * s ≤ 16777216 := Nat.le_of_ble_eq_true h2
                    cases h3 : (zeroOf P e).isSome <;> simp [boolF, this]
/-! ### Frames -/
theorem Up.write {w0 w w' : World} {b : Nat} (h : Up w0 w) (hx : Ux b w w') (hb : w0.heap.size ≤ b) : Up w0 w' := Kp.step h hx (fun i hi e => absurd e (by omega))
theorem Kp.within {S : Nat → Prop} {w0 w w' : World} (h : Kp S w0 w) (k : Up w w') : Kp S w0 w' := Kp.step h k (fun _ _ e => e.elim)
theorem Kp.of_grown {w w' : World} {v : Value} (h : w.grownBy w' v.ownBlock) : Kp (fun i => v.ownBlock = some i) w w' := ⟨h.os, h.tape, h.output, h.size, fun k hk hn => h.block k hk (fun e => hn e.symm)⟩
/-- What a call owns of its own (blocks from 'base' on) may turn. -/
theorem Up.turn {w0 w w' : World} {S : Nat → Prop} (h : Up w0 w) (hx : Kp S w w') (hb : ∀ i, S i → w0.heap.size ≤ i) : Up w0 w' := Kp.step h hx (fun i hi e => absurd (hb i e) (by omega))

theorem up_ok {b : Bool} {p : Prop} (h : p) : boolF b p True := by cases b <;> first | trivial | exact h
theorem ob_no {b : Bool} {p : Prop} (h : b = false) : boolF b p True := by rw [h]; trivial
/-! ### Appending -/
abbrev Row (w : World) (base : Nat) (e : TypeId) (v : Value) (n : Nat) (xs : List Value) (size : Nat) : Prop := w.ownsRow base e size v n xs
/-- The facts on a type of slices. -/
structure SlT (P : Program) (t e size bytes : Nat) : Prop where
  under : P.underlying t = some (.slice e)
  info : ∃ i z, P.info? e = some i ∧ i.zero = some z ∧ i.size = size ∧ i.bytes = bytes ∧ z.cells.size = size
  pos : 0 < size
theorem all_one {news : List Value} (h : news.all one' = true) : ∀ u ∈ news, u.oneCell' = true := fun u hu => by
  have := List.all_eq_true.1 h u hu
  cases u <;> first | rfl | cases this
theorem appM {P : Program} {w : World} {t ty e size bytes base n m c b o : Nat} {v : Value} {xs : List Value} {cs : Array Value} {T : TypeId} {fr : Nat × Nat} {k : Value → World → Prop} (T0 : SlT P t e size bytes) (hown : w.ownsRow base e size v n xs)
    (hb : w.heap[b]? = some (.cells cs T fr)) (hl : o + m * size ≤ cs.size) (h1 : ((cs.toList.drop o).take (m * size)).all one' = true) (h63 : n + m ≤ 1000000000) (hby : bytes ≤ 1000) (hbase : base ≤ w.heap.size)
    (hk : ∀ v' w', w'.ownsRow base e size v' (n + m) (xs ++ (cs.toList.drop o).take (m * size)) → Kp (fun i => v.ownBlock = some i) w w' → (v'.ownBlock = v.ownBlock ∨ v'.ownBlock = some w.heap.size) → k v' w') :
    OpM P (Builtin.append_ #[t, t] ty #[v, .slice (some ⟨b, o, none⟩) m c]) w k := by
  obtain ⟨i, z, hi, hz, hs, hbs, hzs⟩ := T0.info
  have hb1 : (n + m) * bytes ≤ 1000000000 * 1000 := Nat.mul_le_mul h63 hby
  obtain ⟨v', w', hr, ho, hg, _, hw⟩ := run_append_own_at (P := P) w base t ty e i z size bytes T0.under hi hz hs hbs hzs T0.pos v n xs hown ⟨b, o, none⟩ m c ((cs.toList.drop o).take (m * size))
    (by rw [List.length_take, List.length_drop, Array.length_toList]; omega)
    (fun j u hj => by
      rw [add_mk, cell_of_heap hb]
      rw [List.getElem?_take] at hj
      split at hj
      · rw [List.getElem?_drop, Array.getElem?_toList] at hj; exact hj
      · cases hj) (all_one h1) (by simp only [maxLen]; omega) (by omega) hbase
  unfold OpM
  rw [hr]
  exact hk v' w' ho (.of_grown hg) hw
theorem appNone {P : Program} {w : World} {t ty e size bytes base n : Nat} {v : Value} {xs : List Value} {k : Value → World → Prop} (T0 : SlT P t e size bytes) (hown : w.ownsRow base e size v n xs)
    (hk : k v w) : OpM P (Builtin.append_ #[t, t] ty #[v, .slice none 0 0]) w k := by
  obtain ⟨i, z, hi, hz, hs, hbs, hzs⟩ := T0.info
  unfold OpM
  rw [run_append_owned_none (P := P) w base t ty e i size T0.under hi v n xs hown]
  exact hk

theorem _root_.Go.World.ownsRow.over {w w' : World} {base e size n : Nat} {v : Value} {xs : List Value} {S : Nat → Prop} (h : w.ownsRow base e size v n xs) (hk : Kp S w w') (hn : ∀ g, v.ownBlock = some g → ¬ S g) : w'.ownsRow base e size v n xs := by
  refine ⟨h.1, ?_⟩
  rcases h.2 with h2 | ⟨g, cap, cur, rfl, hb, hg, rest⟩
  · exact .inl h2
  · exact .inr ⟨g, cap, cur, rfl, hb, hk.get hg (hn g rfl), rest⟩
theorem _root_.Go.World.ownsRow.shape {w : World} {base e size n : Nat} {v : Value} {xs : List Value} (h : w.ownsRow base e size v n xs) : ∃ a c, v = .slice a n c := by
  rcases h.2 with ⟨rfl, rfl⟩ | ⟨g, cap, cur, rfl, _⟩
  · exact ⟨_, _, rfl⟩
  · exact ⟨_, _, rfl⟩
/-! ### Bytes as a text -/
def bytesOf (s : ByteArray) : List Value := s.data.toList.map fun b => .int .u8 b.toNat
theorem bytesOf_len (s : ByteArray) : (bytesOf s).length = s.size := by simp [bytesOf]
theorem foldl_push (l : List UInt8) (s : ByteArray) : (l.map fun b : UInt8 => (b.toNat : Int)).foldl (fun r n => r.push (UInt8.ofNat n.toNat)) s = ⟨s.data ++ l.toArray⟩ := by
  induction l generalizing s with
  | nil => simp
  | cons c r ih =>
    simp only [List.map_cons, List.foldl_cons]
    rw [ih]
    have e : UInt8.ofNat ((c.toNat : Int)).toNat = c := by rw [Int.toNat_natCast]; exact UInt8.ofNat_toNat
    rw [e]
    congr 1
    show s.data.push c ++ r.toArray = s.data ++ (c :: r).toArray
    apply Array.ext'
    simp
theorem bytesString_run {P : Program} {w : World} {b o n c : Nat} {cs : Array Value} {T : TypeId} {fr : Nat × Nat} {s : ByteArray} (hb : w.heap[b]? = some (.cells cs T fr)) (hl : o + n ≤ cs.size) (hs : (cs.toList.drop o).take n = bytesOf s) :
    (Conv.bytesToString (.slice (some ⟨b, o, none⟩) n c)).run P w = .ok (.string s) w := by
  have h := run_bytesToString (P := P) w ⟨b, o, none⟩ n c (s.data.toList.map fun b : UInt8 => (b.toNat : Int)) (by
    show (loadCellsFrom ⟨b, o, none⟩ 0 n #[]).run P w = _
    rw [run_loadCellsFrom hb n 0 #[] (by omega)]
    congr 1
    apply Array.ext'
    simp only [Array.toList_append, Array.toList_extract, List.extract_eq_take_drop, List.nil_append, Nat.add_zero]
    rw [show o + n - o = n from by omega, hs]
    simp [bytesOf])
  rw [h, foldl_push]
  congr 1
  show Value.string ⟨(#[] : Array UInt8) ++ s.data.toList.toArray⟩ = _
  simp
/-- A slice of bytes, as a text. -/
theorem strOfM {P : Program} {w : World} {t u e : TypeId} {b o n c : Nat} {cs : Array Value} {T : TypeId} {fr : Nat × Nat} {s : ByteArray} {k : Value → Prop} (ht : P.underlying t = some (.slice e)) (hu : P.underlying u = some .string) (he : P.underlying e = some (.int .u8))
    (hb : w.heap[b]? = some (.cells cs T fr)) (hl : o + n ≤ cs.size) (hs : (cs.toList.drop o).take n = bytesOf s) (hk : k (.string s)) : TakeU P w (convert t u (.slice (some ⟨b, o, none⟩) n c)) k := by
  refine ⟨_, fun w' hw => ?_, hk⟩
  have := bytesString_run (P := P) (hw.get hb) hl hs (c := c)
  simp [convert, Sem.run_bind, run_underlying ht, run_underlying hu, run_underlying he, this]

def byteV (l : List UInt8) : List Value := l.map fun b => .int .u8 b.toNat
theorem strOfRow {P : Program} {w : World} {t u e base n : Nat} {v : Value} {xs : List UInt8} {k : Value → Prop} (ht : P.underlying t = some (.slice e)) (hu : P.underlying u = some .string) (he : P.underlying e = some (.int .u8))
    (hr : w.ownsRow base e 1 v n (byteV xs)) (hk : k (.string ⟨xs.toArray⟩)) : TakeU P w (convert t u v) k := by
  have hl : xs.length = n := by simpa [byteV] using hr.1
  rcases hr.2 with ⟨rfl, rfl⟩ | ⟨g, cap, cur, rfl, _, hg, hn, _, hs, htk⟩
  · have e0 : xs = [] := List.eq_nil_of_length_eq_zero hl
    subst e0
    refine ⟨_, fun w' _ => ?_, hk⟩
    simp [convert, Sem.run_bind, run_underlying ht, run_underlying hu, run_underlying he, Conv.bytesToString]
    rfl
  · refine strOfM (s := ⟨xs.toArray⟩) ht hu he hg (by omega) ?_ hk
    rw [List.drop_zero, ← Nat.mul_one n]
    exact htk
/-! ### A loop, round by round -/
/-- The loop is about to go round. -/
def VL (P : Program) (n : Nat) (c : Code) (Q : Exit → List (Nat × Value) → World → Prop) (E : List (Nat × Value)) (w : World) : Prop :=
  ∀ a, Holds n E a → ∀ (b : Frame) (k : List Item) (cs : List Frame), ∃ e a' w', (∃ E', Holds n E' a' ∧ Q e E' w') ∧ Arrives P (lone (b.at a (.code c :: .inLoop c :: k)) cs w) b k cs e a' w'
@[congr] theorem VL_congr {P : Program} {n : Nat} {c : Code} {Q : Exit → List (Nat × Value) → World → Prop} {E E' : List (Nat × Value)} {w : World} (h : mk E = E') : VL P n c Q E w = VL P n c Q E' w := by rw [← mk_eq E, h]
section
variable {P : Program} {n : Nat} {c : Code} {Q : Exit → List (Nat × Value) → World → Prop} {E : List (Nat × Value)} {w : World}
theorem V_roll (h : VL P n c Q E w) : V P n (.loop c) Q E w := fun a ha b k cs => by
  obtain ⟨e, a', w', hq, harr⟩ := h a ha b k cs
  exact ⟨e, a', w', hq, .of_steps (.one step_loop) harr⟩
theorem VL_round (h : V P n c (after (fun E' w' => VL P n c Q E' w') Q) E w) : VL P n c Q E w := fun a ha b k cs => by
  obtain ⟨e, a₁, w₁, ⟨E', hE', hq⟩, harr⟩ := h a ha b (.inLoop c :: k) cs
  cases e with
  | normal =>
    obtain ⟨e₂, a₂, w₂, hq₂, harr₂⟩ := hq a₁ hE' b k cs
    exact ⟨e₂, a₂, w₂, hq₂, .of_steps (Steps.trans harr (.one step_inLoop)) harr₂⟩
  | exit id => exact ⟨_, a₁, w₁, ⟨E', hE', hq⟩, .pass (x := .inLoop c) rfl (fun _ _ => .inl (by simp)) harr⟩
  | goto l => exact ⟨_, a₁, w₁, ⟨E', hE', hq⟩, .pass (x := .inLoop c) rfl (fun _ _ => .inl (by simp)) harr⟩
  | ret => exact ⟨_, a₁, w₁, ⟨E', hE', hq⟩, .pass (x := .inLoop c) rfl (fun _ _ => .inl (by simp)) harr⟩
  | panic ch => exact ⟨_, a₁, w₁, ⟨E', hE', hq⟩, .pass (x := .inLoop c) rfl (fun _ _ => .inl (by simp)) harr⟩
  | outgrown => exact ⟨_, a₁, w₁, ⟨E', hE', hq⟩, .pass (x := .inLoop c) rfl (fun _ _ => .inl (by simp)) harr⟩
end
end Go.Vc
/- Appending a text to bytes of which a head may be frozen; where it lies then. -/
set_option linter.unusedVariables false
set_option linter.unusedSimpArgs false
namespace Go.Vc
open Go Go.RowKit Go.Lib
theorem app_strF {P : Program} {w : World} (t u ty e : TypeId) (i : TypeInfo) (ht : P.underlying t = some (.slice e)) (hu : P.underlying u = some .string) (hi : P.info? e = some i) (hz : i.zero = some (.int .u8 0))
    (hsize : i.size = 1) (hby : i.bytes = 1) (v : Value) (n : Nat) (xs : List Value) (hown : w.ownsRowF 0 e 1 v n xs) (s : ByteArray) (hl : n + s.size ≤ 1000000000) :
    ∃ v' w', (Builtin.append_ #[t, u] ty #[v, .string s]).run P w = .ok v' w' ∧ w'.ownsRowF 0 e 1 v' (n + s.size) (xs ++ strCells s) ∧ w.grownBy w' v.ownBlock ∧
      (v' = .slice none 0 0 ↔ v = .slice none 0 0 ∧ s.size = 0) ∧ Grow w v v' := by
  rcases hown.2 with ⟨rfl, rfl⟩ | ⟨g, cap, cur, fz, rfl, hbg, hg, hfz, hnc, hcm, hcs, htake⟩
  · obtain ⟨v', w', h1, h2, h3, h4⟩ := run_append_own_string (P := P) w w.heap.size t u ty e i ht hu hi hz hsize hby (.slice none 0 0) 0 xs ⟨hown.1, .inl ⟨rfl, rfl⟩⟩ s (by simp only [maxLen]; omega) (by omega) (Nat.le_refl _)
    refine ⟨v', w', h1, ?_, h3, h4, ?_⟩
    · rcases h2.2 with h | ⟨g, cap, cur, hv, hb, rest⟩
      · exact ⟨h2.1, .inl h⟩
      · exact ⟨h2.1, .inr ⟨g, cap, cur, (0, 0), hv, Nat.zero_le _, rest.1, Nat.zero_le _, rest.2⟩⟩
    · rcases h2.2 with h | ⟨g, cap, cur, hv, hb, rest⟩
      · exact .inl (by rw [h.1])
      · exact .inr ⟨g, by rw [hv]; rfl, hb⟩
  · have hxl : xs.length = n := by simpa using hown.1
    have hlen : (xs ++ strCells s).length = (n + s.size) * 1 := by rw [List.length_append, hxl, strCells_length, Nat.mul_one]
    by_cases hroom : n + s.size ≤ cap
    · have hcs' : cur.size = cap := by simpa using hcs
      have hr := run_append_room_stringF (P := P) w t u ty e i ht hu hi hsize g n cap cur fz hg (by simpa using hfz) s hroom (by omega)
      refine ⟨_, _, hr, ⟨hlen, .inr ⟨g, cap, _, fz, rfl, hbg, setRow_heap w g cur _ e _ hg, by omega, hroom, hcm, ?_, ?_⟩⟩, ⟨rfl, rfl, rfl, by simp, fun k _ hk => setRow_other w g k _ (fun e => hk (by simp [Value.ownBlock, e]))⟩, by simp, .inl rfl⟩
      · simp only [List.size_toArray, List.length_append, List.length_take, List.length_drop, Array.length_toList, strCells_length]
        omega
      · have ht' : cur.toList.take n = xs := by simpa using htake
        rw [ht', ← hlen]
        exact List.take_left
    · have holds : ∀ j u, xs[j]? = some u → w.cell? ((⟨g, 0, none⟩ : Addr).add j) = some u := hown.cells (g := g) rfl
      have hr := run_append_grow_string (P := P) w t u ty e i (.int .u8 0) ht hu hi hz ⟨g, 0, none⟩ n cap xs (by rw [hsize]; simpa using hxl) holds s (by omega) (by omega) (by rw [hby]; exact growslice_fits (by omega) (by omega))
      have hge := grownCap_ge w (n + s.size) cap e
      have hcm2 : grownCap w (n + s.size) cap e ≤ maxLen := grownCap_le_maxLen w (n + s.size) cap e (by simp only [maxLen]; omega)
      refine ⟨_, _, hr, ⟨hlen, .inr ⟨w.heap.size, _, _, (0, 0), rfl, Nat.zero_le _, heap_alloc_new w.drew _, Nat.zero_le _, hge, hcm2, ?_, ?_⟩⟩, ⟨rfl, rfl, rfl, by simp, fun k hk _ => heap_alloc_old w.drew _ hk⟩, by simp, .inr ⟨_, rfl, Nat.le_refl _⟩⟩
      · have hz1 : (Value.int IntKind.u8 0).cells.size = 1 := rfl
        simp only [Array.size_append, List.size_toArray, size_zeroCells, hz1, hxl, strCells_length]
        omega
      · simp only [Array.toList_append, List.append_assoc]
        rw [← List.append_assoc, ← hlen]
        exact List.take_left
theorem appStrF {P : Program} {w : World} {t u ty e n : Nat} {v : Value} {xs : List Value} {s : ByteArray} {k : Value → World → Prop} (ht : P.underlying t = some (.slice e)) (hu : P.underlying u = some .string)
    (hi : ∃ i, P.info? e = some i ∧ i.zero = some (.int .u8 0) ∧ i.size = 1 ∧ i.bytes = 1) (hown : w.ownsRowF 0 e 1 v n xs) (hl : n + s.size ≤ 1000000000)
    (hk : ∀ v' w', w'.ownsRowF 0 e 1 v' (n + s.size) (xs ++ strCells s) → Kp (fun i => v.ownBlock = some i) w w' → (v' = .slice none 0 0 ↔ v = .slice none 0 0 ∧ s.size = 0) → Grow w v v' → k v' w') :
    OpM P (Builtin.append_ #[t, u] ty #[v, .string s]) w k := by
  obtain ⟨i, h1, h2, h3, h4⟩ := hi
  obtain ⟨v', w', hr, ho, hg, hn, hw⟩ := app_strF t u ty e i ht hu h1 h2 h3 h4 v n xs hown s hl
  unfold OpM
  rw [hr]
  exact hk v' w' ho (.of_grown hg) hn hw
theorem _root_.Go.World.ownsRowF.over {w w' : World} {base e size n : Nat} {v : Value} {xs : List Value} {S : Nat → Prop} (h : w.ownsRowF base e size v n xs) (hk : Kp S w w') (hn : ∀ g, v.ownBlock = some g → ¬ S g) : w'.ownsRowF base e size v n xs := by
  refine ⟨h.1, ?_⟩
  rcases h.2 with h2 | ⟨g, cap, cur, fz, rfl, hb, hg, rest⟩
  · exact .inl h2
  · exact .inr ⟨g, cap, cur, fz, rfl, hb, hk.get hg (hn g rfl), rest⟩
theorem _root_.Go.World.ownsRowF.shape {w : World} {base e size n : Nat} {v : Value} {xs : List Value} (h : w.ownsRowF base e size v n xs) : ∃ a c, v = .slice a n c := by
  rcases h.2 with ⟨rfl, rfl⟩ | ⟨g, cap, cur, fz, rfl, _⟩
  · exact ⟨_, _, rfl⟩
  · exact ⟨_, _, rfl⟩
theorem Ux.of_set (w : World) (b o : Nat) (v : Value) : Ux b w (w.setCell ⟨b, o, none⟩ v) := setCell_ux w b o v
theorem freeze_ux (w : World) (g o n : Nat) : Ux g w (w.freeze ⟨g, o, none⟩ n) := by
  unfold World.freeze
  split
  · exact Kp.refl _ _
  · refine ⟨rfl, rfl, rfl, by simp, fun k hk hn => ?_⟩
    simp only [Array.getElem?_modify]
    rw [if_neg (fun e => hn e.symm)]
theorem Up.below_after {w1 w2 w3 : World} {B : Nat} (hu : Up w1 w2) (h : Below B w2 w3) (hB : w1.heap.size ≤ B) : Up w1 w3 :=
  ⟨h.os.trans hu.os, h.tape.trans hu.tape, h.output.trans hu.output, Nat.le_trans hu.size h.size, fun k hk _ => (h.block k (by omega)).trans (hu.block k hk id)⟩
/-- A callee's contract of the kit's make, used here. -/
theorem callM_kit {P : Program} {f : FuncId} {args : Array Value} {w : World} {k : Value → World → Prop} {v : Value} {R : World → Prop} (h : Calls P f args w fun e w' => e = .returned v ∧ R w') (hk : ∀ w', R w' → k v w') : CallM P f args w k :=
  Calls.mono h fun e w' he => by obtain ⟨rfl, hr⟩ := he; exact hk _ hr
end Go.Vc
/- Slices that are read. -/
set_option linter.unusedVariables false
set_option linter.unusedSimpArgs false
namespace Go.Vc
open Go Go.RowKit Go.Lib
/-- A slice of n elements of 'size' cells each, and its cells. -/
def SlR (w : World) (size : Nat) (v : Value) (n : Nat) (xs : List Value) : Prop :=
  xs.length = n * size ∧ ∃ a c, v = .slice a n c ∧ ((a = none ∧ n = 0 ∧ c = 0) ∨ ∃ b o cs T fr, a = some ⟨b, o, none⟩ ∧ w.heap[b]? = some (.cells cs T fr) ∧ (cs.toList.drop o).take (n * size) = xs ∧ o + n * size ≤ cs.size)
theorem SlR.nil (w : World) (size : Nat) : SlR w size (.slice none 0 0) 0 [] := ⟨by simp, none, 0, rfl, .inl ⟨rfl, rfl, rfl⟩⟩
theorem SlR.of_own {w : World} {base e size n : Nat} {v : Value} {xs : List Value} (h : w.ownsRow base e size v n xs) : SlR w size v n xs := by
  refine ⟨h.1, ?_⟩
  rcases h.2 with ⟨rfl, rfl⟩ | ⟨g, cap, cur, rfl, _, hg, hn, _, hs, ht⟩
  · exact ⟨none, 0, rfl, .inl ⟨rfl, rfl, rfl⟩⟩
  · exact ⟨_, _, rfl, .inr ⟨g, 0, cur, e, (0, 0), rfl, hg, by rw [List.drop_zero]; exact ht, by rw [hs, Nat.zero_add]; exact Nat.mul_le_mul_right _ hn⟩⟩
theorem SlR.over {w w' : World} {size n : Nat} {v : Value} {xs : List Value} {S : Nat → Prop} (h : SlR w size v n xs) (hk : Kp S w w') (hn : ∀ g, v.ownBlock = some g → ¬ S g) : SlR w' size v n xs := by
  obtain ⟨h1, a, c, rfl, h2⟩ := h
  refine ⟨h1, a, c, rfl, ?_⟩
  rcases h2 with h2 | ⟨b, o, cs, T, fr, rfl, hb, rest⟩
  · exact .inl h2
  · exact .inr ⟨b, o, cs, T, fr, rfl, hk.get hb (hn b rfl), rest⟩
theorem SlR.up {w w' : World} {size n : Nat} {v : Value} {xs : List Value} (h : SlR w size v n xs) (hk : Up w w') : SlR w' size v n xs := h.over hk (fun _ _ e => e)
theorem SlR.lt {w : World} {size n : Nat} {v : Value} {xs : List Value} (h : SlR w size v n xs) : ∀ g, v.ownBlock = some g → g < w.heap.size := by
  obtain ⟨h1, a, c, rfl, h2⟩ := h
  rcases h2 with ⟨rfl, _⟩ | ⟨b, o, cs, T, fr, rfl, hb, rest⟩
  · intro g hg; cases hg
  · intro g hg; cases hg; exact lt_of_get hb
/-- What there is to know of it where it has elements. -/
theorem SlR.some {w : World} {size n : Nat} {v : Value} {xs : List Value} (h : SlR w size v n xs) (hn : 0 < n) : ∃ b o c cs T fr, v = .slice (some ⟨b, o, none⟩) n c ∧ w.heap[b]? = some (.cells cs T fr) ∧ o + n * size ≤ cs.size ∧ (cs.toList.drop o).take (n * size) = xs := by
  obtain ⟨h1, a, c, rfl, h2⟩ := h
  rcases h2 with ⟨_, h2, _⟩ | ⟨b, o, cs, T, fr, rfl, hb, h3, h4⟩
  · omega
  · exact ⟨b, o, c, cs, T, fr, rfl, hb, h4, h3⟩
theorem cell_of_take {cs : Array Value} {o m i : Nat} {xs : List Value} {x : Value} (h : (cs.toList.drop o).take m = xs) (hi : xs[i]? = some x) : cs[o + i]? = some x := by
  rw [← h, List.getElem?_take] at hi
  split at hi
  · rw [List.getElem?_drop, Array.getElem?_toList] at hi; exact hi
  · cases hi
/-- Appending such a slice to one that is owned. -/
theorem appSl {P : Program} {w : World} {t ty e size bytes base n m : Nat} {v x : Value} {xs ys : List Value} {k : Value → World → Prop} (T0 : SlT P t e size bytes) (hown : w.ownsRow base e size v n xs) (hbase : base ≤ w.heap.size)
    (hx : SlR w size x m ys) (h1 : ys.all one' = true) (h63 : n + m ≤ 1000000000) (hby : bytes ≤ 1000)
    (hk : ∀ v' w', w'.ownsRow base e size v' (n + m) (xs ++ ys) → Kp (fun i => v.ownBlock = some i) w w' → Grow w v v' → k v' w') :
    OpM P (Builtin.append_ #[t, t] ty #[v, x]) w k := by
  obtain ⟨hl, a, c, rfl, h2⟩ := hx
  rcases h2 with ⟨rfl, rfl, rfl⟩ | ⟨b, o, cs, T, fr, rfl, hb, h3, h4⟩
  · have : ys = [] := List.eq_nil_of_length_eq_zero (by simpa using hl)
    subst this
    refine appNone T0 hown ?_
    exact hk v w (by simpa using hown) (Kp.refl _ _) (.inl rfl)
  · refine appM T0 hown hb h4 (by rw [h3]; exact h1) h63 hby hbase ?_
    intro v' w' ho hkp hg
    rw [h3] at ho
    exact hk v' w' ho hkp (Grow.of_app hg)
def intV (l : List Int) : List Value := l.map fun x => .int .i64 x
theorem intV_len (l : List Int) : (intV l).length = l.length := by simp [intV]
theorem intV_get {l : List Int} {i : Nat} (h : i < l.length) : (intV l)[i]? = some (.int .i64 l[i]) := by simp [intV, h]
theorem intV_one (l : List Int) : (intV l).all one' = true := by simp [intV, one']
def strV (l : List ByteArray) : List Value := l.map fun x => .string x
theorem strV_len (l : List ByteArray) : (strV l).length = l.length := by simp [strV]
theorem strV_get {l : List ByteArray} {i : Nat} (h : i < l.length) : (strV l)[i]? = some (.string l[i]) := by simp [strV, h]
theorem strV_one (l : List ByteArray) : (strV l).all one' = true := by simp [strV, one']
theorem madeCells_one (z : Value) (hz : z.cells = #[z]) (n : Nat) : madeCells z.cells (n * 1) = (List.replicate n z).toArray := by
  rw [hz, Nat.mul_one]
  unfold madeCells
  apply Array.ext
  · simp
  · intro i h1 h2
    simp [Nat.mod_one]
theorem makeM {P : Program} {w : World} {t e n : Nat} {z : Value} {K : Value → World → Prop} (ht : P.underlying t = some (.slice e)) (hi : ∃ i, P.info? e = some i ∧ i.zero = some z ∧ i.size = 1 ∧ i.bytes ≤ 1000) (hz : z.cells = #[z]) (hn : n ≤ 1000000)
    (hk : ∀ b w', b = w.heap.size → w'.heap.size = b + 1 → Up w w' → w'.heap[b]? = some (.cells (List.replicate n z).toArray e (0, 0)) → K (.slice (some ⟨b, 0, none⟩) n n) w') : OpM P (Instr.makeSlice t (.int .i64 n) (.int .i64 n)) w K := by
  obtain ⟨i, h1, h2, h3, h4⟩ := hi
  have hb : (i.bytes : Int) * (n : Int) ≤ 281474976710656 := by
    have : i.bytes * n ≤ 1000 * 1000000 := Nat.mul_le_mul h4 hn
    rw [← Int.natCast_mul]; omega
  have hr := run_makeSlice (P := P) w t e i z ht h1 h2 .i64 .i64 n n (by omega) (Int.le_refl _) (by rw [h3]; omega) hb (by omega)
  unfold OpM
  rw [hr, h3]
  simp only [Int.toNat_natCast]
  refine hk _ _ rfl (by simp) ⟨rfl, rfl, rfl, by simp, fun k hk' _ => heap_alloc_old w _ hk'⟩ ?_
  rw [← madeCells_one z hz n]
  exact heap_alloc_new w _
end Go.Vc
/- Maps whose keys are whole numbers. -/
set_option linter.unusedVariables false
set_option linter.unusedSimpArgs false
namespace Go.Vc
open Go Go.RowKit Go.Lib Go.ChangeMaps
abbrev Ent := Int × Value × Nat
def entV (q : IntKind) (e : Ent) : MapEntry := ⟨.int q e.1, e.2.1, e.2.2⟩
/-- A map: its entries, and when each came. -/
structure MapAt (w : World) (b : Nat) (q : IntKind) (l : List Ent) (clock : Nat) : Prop where
  cell : w.heap[b]? = some (.map (l.map (entV q)).toArray clock)
  keys : (l.map (·.1)).Nodup
  old : ∀ e ∈ l, e.2.2 < clock
  born : (l.map (·.2.2)).Nodup
def getM (l : List Ent) (k : Int) : Option Value := (l.find? fun e => e.1 == k).map (·.2.1)
def putM (l : List Ent) (k : Int) (v : Value) (clock : Nat) : List Ent := if l.any (fun e => e.1 == k) then l.map (fun e => if e.1 == k then (k, v, e.2.2) else e) else l ++ [(k, v, clock)]
def delM (l : List Ent) (k : Int) : List Ent := l.filter fun e => e.1 != k
theorem MapAt.over {w w' : World} {b clock : Nat} {q : IntKind} {l : List Ent} {S : Nat → Prop} (h : MapAt w b q l clock) (hk : Kp S w w') (hn : ¬ S b) : MapAt w' b q l clock := ⟨hk.get h.cell hn, h.keys, h.old, h.born⟩
theorem findNow_ent (q q0 : IntKind) (k : Int) : ∀ (l : List Ent) (i : Nat), Instr.findNow (.int q0) (.int q k) (l.map (entV q)) i = some ((l.findIdx? fun e => e.1 == k).bind fun j => (l[j]?).map fun e => (i + j, e.2.1))
  | [], i => rfl
  | e :: l, i => by
    simp only [List.map_cons, Instr.findNow, entV, Instr.sameNow, if_true]
    by_cases h : k = e.1
    · subst h
      simp [List.findIdx?_cons]
    · have h1 : (k == e.1) = false := by simpa using h
      have h2 : (e.1 == k) = false := by simpa using fun h' => h h'.symm
      rw [h1]
      simp only
      rw [findNow_ent q q0 k l (i + 1)]
      rw [List.findIdx?_cons, h2]
      simp only [Bool.false_eq_true, if_false]
      cases l.findIdx? fun e => e.1 == k with
      | none => rfl
      | some j =>
        simp only [Option.map_some, Option.bind_some, List.getElem?_cons_succ]
        congr 2
        funext e
        congr 1
        omega
theorem idx_get (l : List Ent) (k : Int) : ((l.findIdx? fun e => e.1 == k).bind fun j => (l[j]?).map fun e => e.2.1) = getM l k := by
  unfold getM
  induction l with
  | nil => rfl
  | cons e l ih =>
    rw [List.findIdx?_cons, List.find?_cons]
    cases h : e.1 == k with
    | true => simp
    | false =>
      simp only [Bool.false_eq_true, if_false]
      rw [← ih]
      cases l.findIdx? fun e => e.1 == k <;> simp
theorem run_getMap {P : Program} {w : World} {b clock : Nat} {es : Array MapEntry} (h : w.heap[b]? = some (.map es clock)) : (getObj b).run P w = .ok (.map es clock) w := by simp [getObj, Sem.run, h]
theorem checkKey_int {P : Program} {w : World} {kt : TypeId} {q q0 : IntKind} (hkt : P.underlying kt = some (.int q0)) (b : Bool) (k : Int) : (Instr.checkKey b 10000 kt (.int q k)).run P w = .ok () w := by
  rw [show (10000 : Nat) = 9999 + 1 from rfl, Instr.checkKey]
  simp only [Sem.run_bind, run_underlying hkt, Result.andThen]
  rfl
theorem findKey_run {P : Program} {w : World} {kt : TypeId} {q q0 : IntKind} (hkt : P.underlying kt = some (.int q0)) (k : Int) (l : List Ent) :
    (Instr.findKey kt (.int q k) (l.map (entV q)).toArray.toList).run P w = .ok ((l.findIdx? fun e => e.1 == k).bind fun j => (l[j]?).map fun e => (j, e.2.1)) w := by
  have hf := findNow_ent q q0 k l 0
  simp only [Nat.zero_add] at hf
  unfold Instr.findKey
  simp only [Sem.run_bind, run_underlying hkt, Result.andThen, List.toList_toArray, hf]
  rfl
theorem lookup_run {P : Program} {w : World} {b clock t kt e : Nat} {q q0 : IntKind} {l : List Ent} (h : MapAt w b q l clock) (ht : P.underlying t = some (.map kt e)) (hkt : P.underlying kt = some (.int q0)) {z : Value} (hz : zeroOf P e = some z) (k : Int) (ok : Bool) :
    (Instr.lookup t (.map (some b)) (.int q k) ok).run P w = .ok (if ok then .tuple #[(getM l k).getD z, .bool (getM l k).isSome] else (getM l k).getD z) w := by
  have hg := idx_get l k
  have hf := findKey_run (w := w) (q := q) hkt k l
  unfold Instr.lookup
  simp only [Sem.run_bind, run_underlying ht, Result.andThen, run_getMap h.cell, checkKey_int hkt, Sem.run_pure, hf]
  rw [← hg]
  cases hx : l.findIdx? fun e => e.1 == k with
  | none => simp [Sem.run_bind, zeroOf_run hz w, Result.andThen]
  | some j =>
    cases hy : l[j]? with
    | none =>
      exfalso
      have := List.findIdx?_eq_some_iff_getElem.1 hx
      obtain ⟨hj, _⟩ := this
      rw [List.getElem?_eq_getElem hj] at hy
      cases hy
    | some e => simp [hy]
theorem lookM {P : Program} {w : World} {b clock t kt e : Nat} {q q0 : IntKind} {l : List Ent} {k : Int} {ok : Bool} {z : Value} {K : Value → Prop} (h : MapAt w b q l clock) (ht : P.underlying t = some (.map kt e)) (hkt : P.underlying kt = some (.int q0)) (hz : zeroOf P e = some z)
    (hk : K (if ok then .tuple #[(getM l k).getD z, .bool (getM l k).isSome] else (getM l k).getD z)) : TakeU P w (Instr.lookup t (.map (some b)) (.int q k) ok) K :=
  ⟨_, fun w' hw => lookup_run (h.over hw id) ht hkt hz k ok, hk⟩
theorem run_setMap {P : Program} {w : World} {b clock : Nat} {es : Array MapEntry} {o : Obj} (h : w.heap[b]? = some (.map es clock)) : (setObj b o).run P w = .ok () (setBlock w b o) := by
  simp [setObj, Sem.run, h, setBlock]
theorem setBlock_ux {w : World} {b : Nat} {o : Obj} : Ux b w (setBlock w b o) :=
  ⟨rfl, rfl, rfl, by simp [setBlock], fun k hk hn => by simp only [setBlock]; rw [Array.getElem?_setIfInBounds_ne (fun e => hn e.symm)]⟩
theorem setBlock_get {w : World} {b : Nat} {x o : Obj} (h : w.heap[b]? = some x) : (setBlock w b o).heap[b]? = some o := by
  have := lt_of_get h
  simp [setBlock, this]
theorem idx_mem {l : List Ent} {k : Int} {j : Nat} (h : (l.findIdx? fun e => e.1 == k) = some j) : ∃ hj : j < l.length, l[j].1 = k := by
  obtain ⟨hj, h1, _⟩ := List.findIdx?_eq_some_iff_getElem.1 h
  exact ⟨hj, by simpa using h1⟩
theorem idx_uniq {l : List Ent} (hn : (l.map (·.1)).Nodup) {i j : Nat} (hi : i < l.length) (hj : j < l.length) (h : l[i].1 = l[j].1) : i = j := by
  have := List.pairwise_iff_getElem.1 hn
  rcases Nat.lt_trichotomy i j with h' | h' | h'
  · have h1 := this i j (by simpa using hi) (by simpa using hj) h'
    rw [List.getElem_map, List.getElem_map] at h1
    exact absurd h h1
  · exact h'
  · have h1 := this j i (by simpa using hj) (by simpa using hi) h'
    rw [List.getElem_map, List.getElem_map] at h1
    exact absurd h.symm h1
theorem modify_ent {q : IntKind} {l : List Ent} {k : Int} {v : Value} {clock j : Nat} (hn : (l.map (·.1)).Nodup) (h : (l.findIdx? fun e => e.1 == k) = some j) :
    ((l.map (entV q)).toArray.modify j fun e => { e with key := .int q k, val := v }) = ((putM l k v clock).map (entV q)).toArray := by
  obtain ⟨hj, hk⟩ := idx_mem h
  have hany : l.any (fun e => e.1 == k) = true := List.any_eq_true.2 ⟨l[j], List.getElem_mem hj, by simpa using hk⟩
  unfold putM
  rw [if_pos hany]
  apply Array.ext
  · simp
  · intro i h1 h2
    have hi : i < l.length := by simpa using h1
    simp only [Array.getElem_modify, List.getElem_toArray, List.getElem_map]
    by_cases hij : j = i
    · subst hij
      rw [if_pos rfl, if_pos (by simpa using hk)]
      rfl
    · rw [if_neg hij, if_neg (fun e => hij (idx_uniq hn hj hi (hk.trans (by have : l[i].1 = k := (by simpa using e); exact this.symm))))]
theorem put_keys {l : List Ent} {k : Int} {v : Value} {clock : Nat} (hn : (l.map (·.1)).Nodup) : ((putM l k v clock).map (·.1)).Nodup := by
  unfold putM
  split
  · have : (l.map fun e => if e.1 == k then (k, v, e.2.2) else e).map (·.1) = l.map (·.1) := by
      rw [List.map_map]
      apply List.map_congr_left
      intro e he
      simp only [Function.comp]
      split
      · rename_i h; exact (by simpa using h : e.1 = k).symm
      · rfl
    rw [this]; exact hn
  · rename_i h
    rw [List.map_append, List.nodup_append]
    refine ⟨hn, by simp, ?_⟩
    intro a ha b hb
    simp at hb
    subst hb
    rintro rfl
    obtain ⟨e, he, rfl⟩ := List.mem_map.1 ha
    exact h (List.any_eq_true.2 ⟨e, he, by simp⟩)
theorem put_born {l : List Ent} {k : Int} {v : Value} {clock : Nat} (hb : (l.map (·.2.2)).Nodup) (ho : ∀ e ∈ l, e.2.2 < clock) : ((putM l k v clock).map (·.2.2)).Nodup ∧ ∀ e ∈ putM l k v clock, e.2.2 < clock + 1 := by
  unfold putM
  split
  · have : (l.map fun e => if e.1 == k then (k, v, e.2.2) else e).map (·.2.2) = l.map (·.2.2) := by
      rw [List.map_map]
      apply List.map_congr_left
      intro e he
      simp only [Function.comp]
      split <;> rfl
    rw [this]
    refine ⟨hb, fun e he => ?_⟩
    obtain ⟨e', he', rfl⟩ := List.mem_map.1 he
    have := ho e' he'
    split <;> (first | omega | (show e'.2.2 < _; omega))
  · refine ⟨?_, fun e he => ?_⟩
    · rw [List.map_append, List.nodup_append]
      refine ⟨hb, by simp, ?_⟩
      intro a ha b hb'
      simp at hb'
      subst hb'
      rintro rfl
      obtain ⟨e, he, h⟩ := List.mem_map.1 ha
      have := ho e he
      omega
    · rcases List.mem_append.1 he with he | he
      · have := ho e he; omega
      · simp at he; subst he; simp
theorem put_old {l : List Ent} {k : Int} {v : Value} {clock : Nat} (ho : ∀ e ∈ l, e.2.2 < clock) (ha : l.any (fun e => e.1 == k) = true) : ∀ e ∈ putM l k v clock, e.2.2 < clock := by
  unfold putM
  rw [if_pos ha]
  intro e he
  obtain ⟨e', he', rfl⟩ := List.mem_map.1 he
  have := ho e' he'
  split <;> (first | omega | (show e'.2.2 < _; omega))
theorem updM {P : Program} {w : World} {b clock t kt e : Nat} {q q0 : IntKind} {l : List Ent} {k : Int} {v : Value} {K : World → Prop} (h : MapAt w b q l clock) (ht : P.underlying t = some (.map kt e)) (hkt : P.underlying kt = some (.int q0))
    (hk : ∀ w' clock', w'.heap.size = w.heap.size → Ux b w w' → MapAt w' b q (putM l k v clock) clock' → K w') : OpU P (Instr.mapUpdate t (.map (some b)) (.int q k) v) w K := by
  have hf := findKey_run (w := w) (q := q) hkt k l
  unfold OpU Instr.mapUpdate
  simp only [Sem.run_bind, run_underlying ht, Result.andThen, run_getMap h.cell, checkKey_int hkt, hf]
  cases hx : l.findIdx? fun e => e.1 == k with
  | none =>
    have hany : l.any (fun e => e.1 == k) = false := by
      rw [List.findIdx?_eq_none_iff] at hx
      rw [Bool.eq_false_iff]
      intro h'
      obtain ⟨e, he, h2⟩ := List.any_eq_true.1 h'
      rw [hx e he] at h2; cases h2
    simp only [Option.bind_none, run_setMap h.cell]
    refine hk _ (clock + 1) (by simp [setBlock]) setBlock_ux ⟨?_, put_keys h.keys, (put_born h.born h.old).2, (put_born h.born h.old).1⟩
    rw [setBlock_get h.cell]
    unfold putM
    rw [hany]
    simp [entV]
  | some j =>
    obtain ⟨hj, hk'⟩ := idx_mem hx
    have hany : l.any (fun e => e.1 == k) = true := List.any_eq_true.2 ⟨l[j], List.getElem_mem hj, by simpa using hk'⟩
    have hm := modify_ent (q := q) (v := v) (clock := clock) h.keys hx
    have hkeep : ∀ w, (Instr.keyThatStays (((((l.map (entV q)).toArray)[j]?).map (·.key)).getD (.int q k)) (.int q k)).run P w = .ok (.int q k) w := fun w => by
      have e1 : ((((l.map (entV q)).toArray)[j]?).map (·.key)).getD (.int q k) = .int q k := by
        simp [hj, entV, hk']
      rw [e1]
      unfold Instr.keyThatStays
      rw [if_pos (by simp [Instr.sameBits])]
      rfl
    simp only [Option.bind_some, List.getElem?_eq_getElem hj, Option.map_some, Sem.run_bind, hkeep, Result.andThen, run_setMap h.cell]
    refine hk _ clock (by simp [setBlock]) setBlock_ux ⟨?_, put_keys h.keys, put_old h.old hany, (put_born h.born h.old).1⟩
    rw [setBlock_get h.cell, hm]
theorem getM_put (l : List Ent) (k : Int) (v : Value) (clock : Nat) (j : Int) : getM (putM l k v clock) j = if j = k then some v else getM l j := by
  unfold getM putM
  split
  · rename_i ha
    induction l with
    | nil => simp at ha
    | cons e l ih =>
      rw [List.map_cons, List.find?_cons, List.find?_cons]
      by_cases he : e.1 = k
      · rw [if_pos (by simpa using he)]
        by_cases hj : j = k
        · subst hj
          simp
        · have h1 : (k == j) = false := by simpa using fun h => hj h.symm
          have h2 : (e.1 == j) = false := by rw [he]; exact h1
          simp only [h1, h2]
          rw [if_neg hj]
          by_cases ha' : (l.any fun e => e.1 == k) = true
          · have := ih ha'
            rw [if_neg hj] at this
            exact this
          · have : (l.map fun e => if (e.1 == k) = true then (k, v, e.2.2) else e) = l := by
              conv => rhs; rw [← List.map_id l]
              apply List.map_congr_left
              intro x hx
              rw [if_neg (fun h => ha' (List.any_eq_true.2 ⟨x, hx, h⟩))]
              rfl
            rw [this]
      · have h0 : (e.1 == k) = false := by simpa using he
        rw [if_neg (by simp [h0])]
        have ha' : (l.any fun e => e.1 == k) = true := by simpa [h0] using ha
        cases h3 : e.1 == j with
        | true =>
          have : e.1 = j := by simpa using h3
          simp only
          rw [if_neg (fun h => he (this.trans h))]
        | false => exact ih ha'
  · rename_i ha
    rw [List.find?_append]
    by_cases hj : j = k
    · subst hj
      have : (l.find? fun e => e.1 == j) = none := by
        rw [List.find?_eq_none]
        intro x hx h
        exact ha (List.any_eq_true.2 ⟨x, hx, h⟩)
      rw [this]
      simp
    · rw [if_neg hj]
      have h1 : (k == j) = false := by simpa using fun h => hj h.symm
      simp [h1]
theorem mem_put {l : List Ent} {k : Int} {v : Value} {clock : Nat} {e : Ent} (h : e ∈ putM l k v clock) : e.1 = k ∨ ∃ e' ∈ l, e'.1 = e.1 := by
  unfold putM at h
  split at h
  · obtain ⟨e', he', rfl⟩ := List.mem_map.1 h
    by_cases hk : (e'.1 == k) = true
    · rw [if_pos hk]; exact .inl rfl
    · rw [if_neg hk]; exact .inr ⟨e', he', rfl⟩
  · rcases List.mem_append.1 h with h | h
    · exact .inr ⟨e, h, rfl⟩
    · simp at h; subst h; exact .inl rfl
theorem erase_ent {q : IntKind} {l : List Ent} {k : Int} {j : Nat} (hn : (l.map (·.1)).Nodup) (h : (l.findIdx? fun e => e.1 == k) = some j) :
    (l.map (entV q)).toArray.eraseIdxIfInBounds j = ((delM l k).map (entV q)).toArray := by
  obtain ⟨hj, hk⟩ := idx_mem h
  have e1 : (l.map (entV q)).toArray.eraseIdxIfInBounds j = ((l.eraseIdx j).map (entV q)).toArray := by
    rw [Array.eraseIdxIfInBounds, dif_pos (by simpa using hj)]
    simp [map_eraseIdx]
  rw [e1]
  congr 2
  unfold delM
  clear e1 h
  induction l generalizing j with
  | nil => cases hj
  | cons e l ih =>
    have hn' := List.nodup_cons.1 (by simpa using hn : (e.1 :: l.map (·.1)).Nodup)
    cases j with
    | zero =>
      have hk : e.1 = k := by simpa using hk
      rw [List.eraseIdx_cons_zero, List.filter_cons, if_neg (by simpa using hk)]
      symm
      rw [List.filter_eq_self]
      intro a ha
      simp only [bne_iff_ne, ne_eq]
      rintro h
      exact hn'.1 (by rw [hk, ← h]; exact List.mem_map_of_mem (f := fun e : Ent => e.1) ha)
    | succ j =>
      have hj' : j < l.length := by simpa using hj
      have hk' : l[j].1 = k := by simpa using hk
      rw [List.eraseIdx_cons_succ, List.filter_cons, if_pos, ih hn'.2 hj' hk']
      simp only [bne_iff_ne, ne_eq]
      rintro h
      exact hn'.1 (by rw [h, ← hk']; exact List.mem_map_of_mem (f := fun e : Ent => e.1) (List.getElem_mem hj'))
theorem del_keep {l : List Ent} {k : Int} (h : l.any (fun e => e.1 == k) = false) : delM l k = l := by
  unfold delM
  rw [List.filter_eq_self]
  intro a ha
  simp only [bne_iff_ne, ne_eq]
  intro h'
  have := (List.any_eq_true (p := fun e : Ent => e.1 == k)).2 ⟨a, ha, by simpa using h'⟩
  rw [h] at this; cases this
theorem MapAt.del {w w' : World} {b clock : Nat} {q : IntKind} {l : List Ent} (h : MapAt w b q l clock) (k : Int) (hc : w'.heap[b]? = some (.map ((delM l k).map (entV q)).toArray clock)) : MapAt w' b q (delM l k) clock :=
  ⟨hc, (List.filter_sublist.map _).nodup h.keys, fun e he => h.old e (List.filter_sublist.subset he), (List.filter_sublist.map _).nodup h.born⟩
theorem delMM {P : Program} {w : World} {b clock t kt e ty : Nat} {ts : List TypeId} {q q0 : IntKind} {l : List Ent} {k : Int} {K : Value → World → Prop} (h : MapAt w b q l clock) (ht : P.underlying t = some (.map kt e)) (hkt : P.underlying kt = some (.int q0))
    (hk : ∀ w', w'.heap.size = w.heap.size → Ux b w w' → MapAt w' b q (delM l k) clock → K (.tuple #[]) w') : OpM P (Builtin.delete_ (List.toArray (t :: ts)) ty #[.map (some b), .int q k]) w K := by
  have hf := findKey_run (w := w) (q := q) hkt k l
  unfold OpM Builtin.delete_
  simp only [List.getElem?_toArray, List.getElem?_cons_zero, List.getElem?_cons_succ, Sem.run_bind, run_underlying ht, Result.andThen, run_getMap h.cell, checkKey_int hkt, hf]
  cases hx : l.findIdx? fun e => e.1 == k with
  | none =>
    have hany : l.any (fun e => e.1 == k) = false := by
      rw [List.findIdx?_eq_none_iff] at hx
      rw [Bool.eq_false_iff]
      intro h'
      obtain ⟨e, he, h2⟩ := List.any_eq_true.1 h'
      rw [hx e he] at h2; cases h2
    simp only [Option.bind_none, Sem.run_bind, run_setMap h.cell, Result.andThen, Sem.run_pure]
    exact hk _ (by simp [setBlock]) setBlock_ux (h.del k (by rw [setBlock_get h.cell, del_keep hany]))
  | some j =>
    obtain ⟨hj, hk'⟩ := idx_mem hx
    have hm := erase_ent (q := q) h.keys hx
    simp only [Option.bind_some, List.getElem?_eq_getElem hj, Option.map_some, Sem.run_bind, run_setMap h.cell, Result.andThen, Sem.run_pure]
    exact hk _ (by simp [setBlock]) setBlock_ux (h.del k (by rw [setBlock_get h.cell, hm]))
theorem makeMapM {P : Program} {w : World} {t : TypeId} {q : IntKind} {K : Value → World → Prop} (hk : ∀ b w', b = w.heap.size → w'.heap.size = b + 1 → Up w w' → MapAt w' b q [] 0 → K (.map (some b)) w') : OpM P (Instr.makeMap t none) w K := by
  unfold OpM
  have : (Instr.makeMap t none).run P w = .ok (.map (some w.heap.size)) (w.alloc (.map #[] 0)) := rfl
  rw [this]
  refine hk _ _ rfl (by simp) ⟨rfl, rfl, rfl, by simp, fun k hk' _ => heap_alloc_old w _ hk'⟩ ⟨heap_alloc_new w _, by simp, by simp, by simp⟩
theorem rangeM {P : Program} {w : World} {b clock t kt e : Nat} {q : IntKind} {l : List Ent} {K : Value → World → Prop} (h : MapAt w b q l clock) (ht : P.underlying t = some (.map kt e))
    (hk : ∀ it w', it = w.heap.size → w'.heap.size = it + 1 → Up w w' → w'.heap[it]? = some (.mapIter (some b) clock (List.toArray []) clock) → K (.pointer (some ⟨it, 0, none⟩)) w') : OpM P (Instr.range t (.map (some b))) w K := by
  unfold OpM
  rw [run_range_map w t kt e b _ clock ht h.cell]
  exact hk _ _ rfl (by simp) ⟨rfl, rfl, rfl, by simp, fun k hk' _ => heap_alloc_old w _ hk'⟩ (heap_alloc_new w _)
theorem nextM {P : Program} {w : World} {b clock it since c0 ty : Nat} {seen : List Nat} {q : IntKind} {l : List Ent} {K : Value → World → Prop} (h : MapAt w b q l clock) (hi : w.heap[it]? = some (.mapIter (some b) since seen.toArray c0)) (hs : ∀ e ∈ l, e.2.2 < since) (hc : since ≤ c0)
    (hend : (∀ e ∈ l, e.2.2 ∈ seen) → K (.tuple #[.bool false]) w)
    (hone : ∀ e ∈ l, e.2.2 ∉ seen → ∀ w', w'.heap.size = w.heap.size → Ux it w w' → w'.heap[it]? = some (.mapIter (some b) since (seen ++ [e.2.2]).toArray clock) → K (.tuple #[.bool true, .int q e.1, e.2.1]) w') :
    OpM P (Instr.next (.pointer (some ⟨it, 0, none⟩)) false ty) w K := by
  unfold OpM
  rcases run_next_at (P := P) w ty it b since c0 seen.toArray _ clock hi h.cell (by
    intro x hx
    simp only [List.toList_toArray] at hx
    obtain ⟨e, he, rfl⟩ := List.mem_map.1 hx
    exact hs e he) hc with ⟨h0, hr⟩ | ⟨x, hx, w1, hw1, hr⟩
  · rw [hr]
    refine hend fun e he => ?_
    have h1 : leftOf (l.map (entV q)).toArray seen.toArray = #[] := Array.eq_empty_of_size_eq_zero h0
    unfold leftOf at h1
    rw [Array.filter_eq_empty_iff] at h1
    have := h1 (entV q e) (by simpa using ⟨_, _, _, he, rfl⟩)
    simpa [entV] using this
  · rw [hr]
    unfold leftOf at hx
    simp only [Array.toList_filter, List.toList_toArray, List.mem_filter] at hx
    obtain ⟨hx1, hx2⟩ := hx
    obtain ⟨e, he, rfl⟩ := List.mem_map.1 hx1
    have hw : Up w w1 := by rcases hw1 with rfl | rfl; exact Kp.refl _ _; exact drew_up w
    have hsz : w1.heap.size = w.heap.size := by rcases hw1 with rfl | rfl <;> rfl
    refine hone e he (by simpa [entV] using hx2) _ (by simp [setBlock, hsz]) ((hw.mono (fun _ _ e => e.elim)).step setBlock_ux (fun i _ e => e)) ?_
    rw [setBlock_get (hw.get hi)]
    simp [entV]
theorem entryM {P : Program} {w : World} {b clock it since : Nat} {seen : List Nat} {q : IntKind} {l : List Ent} {e : Ent} {K : Value → World → Prop} (h : MapAt w b q l clock) (hi : w.heap[it]? = some (.mapIter (some b) since (seen ++ [e.2.2]).toArray clock)) (he : e ∈ l)
    (hk : K (.tuple #[.int q e.1, e.2.1]) w) : OpM P (Instr.entry (.pointer (some ⟨it, 0, none⟩))) w K := by
  unfold OpM
  have := run_entry_at (P := P) w it b since seen.toArray _ clock (entV q e) (by rw [hi]; simp [entV]) h.cell (by simpa using ⟨_, _, _, he, rfl⟩) (by simpa [entV, Function.comp_def] using h.born)
  rw [this]
  exact hk
/-- How many entries have not come up yet. -/
def leftN (l : List Ent) (seen : List Nat) : Nat := (l.filter fun e => !seen.contains e.2.2).length
theorem leftN_less {l : List Ent} {seen : List Nat} {e : Ent} (he : e ∈ l) (hn : e.2.2 ∉ seen) : leftN l (seen ++ [e.2.2]) < leftN l seen := by
  unfold leftN
  induction l with
  | nil => cases he
  | cons x l ih =>
    have hle : ∀ l : List Ent, (l.filter fun e' => !(seen ++ [e.2.2]).contains e'.2.2).length ≤ (l.filter fun e' => !seen.contains e'.2.2).length := by
      intro l
      induction l with
      | nil => exact Nat.le_refl _
      | cons y l ih =>
        simp only [List.filter_cons]
        by_cases h1 : (!(seen ++ [e.2.2]).contains y.2.2) = true
        · rw [if_pos h1, if_pos (by simp at h1 ⊢; exact h1.1)]
          simpa using ih
        · rw [if_neg h1]
          split
          · simp only [List.length_cons]; omega
          · exact ih
    simp only [List.filter_cons]
    rcases List.mem_cons.1 he with rfl | he
    · rw [if_neg (by simp), if_pos (by simpa using hn)]
      have := hle l
      simp only [List.length_cons]; omega
    · have := ih he
      by_cases h1 : (!(seen ++ [e.2.2]).contains x.2.2) = true
      · rw [if_pos h1, if_pos (by simp at h1 ⊢; exact h1.1)]
        simp only [List.length_cons]; omega
      · rw [if_neg h1]
        split
        · simp only [List.length_cons]; omega
        · exact this
theorem getM_mem {l : List Ent} (hn : (l.map (·.1)).Nodup) {e : Ent} (he : e ∈ l) : getM l e.1 = some e.2.1 := by
  unfold getM
  induction l with
  | nil => cases he
  | cons x l ih =>
    have hn' := List.nodup_cons.1 (by simpa using hn : (x.1 :: l.map (·.1)).Nodup)
    rw [List.find?_cons]
    rcases List.mem_cons.1 he with rfl | he
    · simp
    · have : (x.1 == e.1) = false := by
        simp only [beq_eq_false_iff_ne, ne_eq]
        intro h
        exact hn'.1 (by rw [h]; exact List.mem_map_of_mem (f := fun e : Ent => e.1) he)
      rw [this]
      exact ih hn'.2 he
theorem getM_some {l : List Ent} {k : Int} {v : Value} (h : getM l k = some v) : ∃ e ∈ l, e.1 = k ∧ e.2.1 = v := by
  unfold getM at h
  obtain ⟨e, he, h2⟩ := Option.map_eq_some_iff.1 h
  exact ⟨e, List.mem_of_find?_eq_some he, by simpa using List.find?_some he, h2⟩
theorem born_uniq {l : List Ent} (hn : (l.map (·.2.2)).Nodup) {e e' : Ent} (he : e ∈ l) (he' : e' ∈ l) (h : e.2.2 = e'.2.2) : e = e' := by
  obtain ⟨i, hi, rfl⟩ := List.mem_iff_getElem.1 he
  obtain ⟨j, hj, rfl⟩ := List.mem_iff_getElem.1 he'
  have := List.pairwise_iff_getElem.1 hn
  rcases Nat.lt_trichotomy i j with h' | h' | h'
  · have h1 := this i j (by simpa using hi) (by simpa using hj) h'
    rw [List.getElem_map, List.getElem_map] at h1
    exact absurd h h1
  · subst h'; rfl
  · have h1 := this j i (by simpa using hj) (by simpa using hi) h'
    rw [List.getElem_map, List.getElem_map] at h1
    exact absurd h.symm h1
/-- A walk over a map so far: what came up, what is left. -/
structure Visit (l done rest : List Ent) (seen : List Nat) : Prop where
  perm : (done ++ rest).Perm l
  eq : seen = done.map (·.2.2)
theorem Visit.start (l : List Ent) : Visit l [] l [] := ⟨List.Perm.refl _, rfl⟩
theorem Visit.step {l done rest : List Ent} {seen : List Nat} (h : Visit l done rest seen) {e : Ent} (he : e ∈ l) (hn : e.2.2 ∉ seen) : ∃ rest', Visit l (done ++ [e]) rest' (seen ++ [e.2.2]) := by
  have hm : e ∈ done ++ rest := h.perm.mem_iff.2 he
  rcases List.mem_append.1 hm with hm | hm
  · exact absurd (by rw [h.eq]; exact List.mem_map_of_mem (f := fun e : Ent => e.2.2) hm) hn
  · obtain ⟨a, b, rfl⟩ := List.append_of_mem hm
    refine ⟨a ++ b, List.Perm.trans ?_ h.perm, by rw [h.eq]; simp⟩
    rw [List.append_assoc]
    refine List.Perm.append_left _ ?_
    exact (List.perm_middle (a := e) (l₁ := a) (l₂ := b)).symm
theorem Visit.ended {l done rest : List Ent} {seen : List Nat} (h : Visit l done rest seen) (hb : (l.map (·.2.2)).Nodup) (hall : ∀ e ∈ l, e.2.2 ∈ seen) : done.Perm l := by
  have hnd : ((done ++ rest).map (·.2.2)).Nodup := (h.perm.map _).nodup_iff.2 hb
  cases rest with
  | nil => have := h.perm; rwa [List.append_nil] at this
  | cons e rest =>
    exfalso
    have h1 := hall e (h.perm.mem_iff.1 (by simp))
    rw [h.eq] at h1
    rw [List.map_append, List.nodup_append] at hnd
    exact hnd.2.2 _ h1 e.2.2 (by simp) rfl
end Go.Vc
/- A row that the kit's sort has put in order, in these frames. -/
set_option linter.unusedVariables false
set_option linter.unusedSimpArgs false
namespace Go.Vc
open Go Go.RowKit Go.Lib Go.Sort
theorem putCells_take (enc : Int → Value) (zs : List Int) (c : Array Value) (h : zs.length ≤ c.size) : (putCells enc 0 zs.toArray c).toList.take zs.length = zs.map enc := by
  apply List.ext_getElem?
  intro k
  rw [List.getElem?_take]
  by_cases hk : k < zs.length
  · rw [if_pos hk]
    simp only [putCells, Array.toList_mapIdx, List.getElem?_mapIdx, List.getElem?_map]
    rw [List.getElem?_eq_getElem (show k < c.toList.length by simpa using by omega), List.getElem?_eq_getElem hk]
    simp only [Option.map_some]
    rw [if_pos ⟨by omega, by simpa using hk⟩]
    simp [hk]
  · rw [if_neg hk, List.getElem?_eq_none (by simpa using by omega)]
theorem putRow_kp {w : World} {b : Nat} {zs : List Int} {enc : Int → Value} {n : Nat} {os : Array Obj} {cs : Array Value} {T : TypeId} {fr : Nat × Nat} (hb : w.heap[b]? = some (.cells cs T fr)) :
    Ux b w (grow (putRow enc (Sort.ahead w n) b 0 zs.toArray) os) ∧ (grow (putRow enc (Sort.ahead w n) b 0 zs.toArray) os).heap[b]? = some (.cells (putCells enc 0 zs.toArray cs) T fr) := by
  have hlt := lt_of_get hb
  have hsz : (putRow enc (Sort.ahead w n) b 0 zs.toArray).heap.size = w.heap.size := by simp [putRow, mapBlock, Sort.ahead]
  refine ⟨⟨rfl, rfl, rfl, by rw [size_grow, hsz]; omega, fun k hk hn => ?_⟩, ?_⟩
  · rw [heap_grow_old _ _ (by omega)]
    simp only [putRow, mapBlock, Sort.ahead, Array.getElem?_modify]
    rw [if_neg (fun e => hn e.symm)]
  · rw [heap_grow_old _ _ (by omega)]
    simp only [putRow, mapBlock, Sort.ahead, Array.getElem?_modify]
    rw [hb]
    rfl
end Go.Vc
/- Regions whose order is drawn, where an operation may turn what is loaded behind it: the loads are told for each world that may stand then. -/
set_option linter.unusedVariables false
set_option linter.unusedSimpArgs false
namespace Go.Vc
open Go Go.RowKit
/-- A value that it has in each such world, and what goes on with it. -/
def someV (b : Bool) (p q : Value → Prop) : Prop := ∃ v, p v ∧ q v
@[congr] theorem someV_congr {b b' : Bool} {p q : Value → Prop} (h : mk b = b') : someV b p q = someV b' p q := by rw [← mk_eq b, h]
theorem someV_intro {b : Bool} {p q : Value → Prop} (v : Value) (h : p v) (h' : q v) : someV b p q := ⟨v, h, h'⟩
def DG (P : Program) (ops : Array Oper) (w1 : World) (G : World → Prop) (N : List Nat) : List (Bool × Nat) → List (Nat × Value) → World → (List (Nat × Value) → World → Prop) → Prop
  | [], E, w, K => K E w
  | (true, i) :: r, E, w, K => match ops[i]? with
    | none => False
    | some o => guardF ops E o (fun E => match needsS o.op with
        | true => someV true (fun v => ∀ w', G w' → valF P w' E o fun u => u = v) (fun v => DG P ops w1 G N r (putD E o.dst v) w K)
        | false => valF P w1 E o fun v => DG P ops w1 G N r (putD E o.dst v) w K) (fun E => DG P ops w1 G N r (putD E o.dst undef) w K)
  | (false, i) :: r, E, w, K => match ops[i]? with
    | none => False
    | some o => stepF P ops E o w fun E' w' => (match ob ops N i with | true => G w' | false => True) ∧ DG P ops w1 G N r E' w' K
theorem DG_sound {P : Program} {n : Nat} {ops : Array Oper} {Q : Exit → Act → World → Prop} {w1 : World} {G : World → Prop} {sc : List (Bool × Nat)} (hok : okDraw n ops sc = true) {K : List (Nat × Value) → World → Prop}
    (hQ : ∀ c a d v w, Q (.panic c) (Act.put a d v) w → Q (.panic c) a w) (hK : ∀ E a w, Holds n E a → K E w → Q .normal a w) :
    ∀ (r : List (Bool × Nat)) (pre : List (Bool × Nat)), sc = pre ++ r → ∀ (listed : Array Bool), Cl ops listed → chk ops r listed = true → ∀ (E : List (Nat × Value)) (a : Act) (w : World), Holds n E a →
      ((∃ m ∈ needs ops sc, listed.getD m true = false) → G w) → DG P ops w1 G (needs ops sc) r E w K → wpG P ops Q G (needs ops sc) (quiet sc) r.length listed a w := by
  obtain ⟨⟨⟨⟨hf, hsel⟩, _⟩, _⟩, hall⟩ : (((fits n ops = true ∧ Region.noSelect ops = true) ∧ chk ops sc (Array.replicate ops.size false) = true) ∧ Nat.beq sc.length ops.size = true) ∧ (sc.all fun p => p.1 || !(quiet sc p.2)) = true := by
    simpa [okDraw, Bool.and_eq_true] using hok
  intro r
  induction r with
  | nil =>
    intro pre hsc listed hcl hc E a w hE hS h
    refine ⟨?_, hK _ _ _ hE h⟩
    simpa [chk] using hc
  | cons p r ih =>
    obtain ⟨b, i⟩ := p
    intro pre hsc listed hcl hc E a w hE hS h
    cases b with
    | true =>
      simp only [chk, Bool.and_eq_true] at hc
      obtain ⟨⟨hr, hfree⟩, hc⟩ := hc
      simp only [DG] at h
      cases ho : ops[i]? with
      | none => rw [ho] at h; exact h.elim
      | some o =>
        rw [ho] at h
        have hmem : o ∈ ops := Array.mem_of_getElem? ho
        have hd := fits_dst hf hmem
        have hin : (true, i) ∈ sc := by rw [hsc]; simp
        have hq : quiet sc i = true := List.any_eq_true.2 ⟨(true, i), hin, by simp [Nat.beq_refl]⟩
        have hS' : (∃ m ∈ needs ops sc, (listed.setIfInBounds i true).getD m true = false) → G w := fun ⟨m, hm, hu⟩ => hS ⟨m, hm, unlisted_set hu⟩
        rcases guardF_elim (o := o) hE h with ⟨hw, E', hE', hr'⟩ | ⟨hw, E', hE', hr'⟩
        · have hval : ∃ v, (∀ w', (needsS o.op = true → G w') → (execOp a.eval o).run P w' = .ok (.value v) w') ∧ DG P ops w1 G (needs ops sc) r (putD E' o.dst v) w K := by
            cases hn : needsS o.op with
            | true =>
              rw [hn] at hr'
              obtain ⟨v, h1, h2⟩ := hr'
              refine ⟨v, fun w' hg => ?_, h2⟩
              obtain ⟨u, hu, rfl⟩ := valF_sound hE' (h1 w' (hg rfl))
              exact hu w' (fun _ => Kp.refl _ _)
            | false =>
              rw [hn] at hr'
              obtain ⟨v, hv, hk⟩ := valF_sound hE' hr'
              exact ⟨v, fun w' _ => hv w' (fun e => by rw [hn] at e; cases e), hk⟩
          obtain ⟨v, hv, hk⟩ := hval
          exact wpG_first (T := fun w => needsS o.op = true → G w) ho (Region.noSelect_spec hsel) (fun c a w => hQ c a _ _ w) (fun w hw hn => hw (mem_needs hin ho hn)) hq r.length listed a w hcl
            (Region.free_spec ho hfree) (by simpa using hr) (.inl ⟨hw, fun w hT => hv w hT⟩) hS (ih (pre ++ [(true, i)]) (by rw [hsc]; simp) _ (hcl.set (by simpa using hr)) hc _ _ w (hE'.upd o.dst v hd) hS' hk)
        · exact wpG_first (T := fun _ => True) ho (Region.noSelect_spec hsel) (fun c a w => hQ c a _ _ w) (fun _ _ => trivial) hq r.length listed a w hcl
            (Region.free_spec ho hfree) (by simpa using hr) (.inr ⟨hw, rfl⟩) hS (ih (pre ++ [(true, i)]) (by rw [hsc]; simp) _ (hcl.set (by simpa using hr)) hc _ _ w (hE'.upd o.dst undef hd) hS' hr')
    | false =>
      simp only [chk, Bool.and_eq_true] at hc
      obtain ⟨hr, hc⟩ := hc
      have hr := sole_spec hr
      simp only [DG] at h
      cases ho : ops[i]? with
      | none => rw [ho] at h; exact h.elim
      | some o =>
        rw [ho] at h
        have hmem : o ∈ ops := Array.mem_of_getElem? ho
        have hd := fits_dst hf hmem
        have hin : (false, i) ∈ sc := by rw [hsc]; simp
        have hq : quiet sc i = false := by
          have := List.all_eq_true.1 hall _ hin
          simpa using this
        have hrdy : i ∈ Region.ready .any ops listed := by rw [hr]; simp
        have next : ∀ (E' : List (Nat × Value)) (v : Value) (w' : World), Holds n E' a → ((match ob ops (needs ops sc) i with | true => G w' | false => True) ∧ DG P ops w1 G (needs ops sc) r (putD E' o.dst v) w' K) →
            ((quiet sc i = true → w' = w) ∧ (quiet sc i = false → ob ops (needs ops sc) i = true → G w')) ∧ wpG P ops Q G (needs ops sc) (quiet sc) r.length (listed.setIfInBounds i true) (a.put o.dst v) w' := by
          intro E' v w' hE' ⟨h1, h2⟩
          have hob : ob ops (needs ops sc) i = true → G w' := fun hob => by rw [hob] at h1; exact h1
          exact ⟨⟨fun h => (by rw [hq] at h; cases h), fun _ => hob⟩, ih (pre ++ [(false, i)]) (by rw [hsc]; simp) _ (hcl.set hrdy) hc _ _ w' (hE'.upd o.dst v hd) (fun ⟨m, hm, hu⟩ => hob (ob_of_ready hcl hrdy hm (unlisted_set hu))) h2⟩
        refine ⟨fun h0 => (by rw [hr] at h0; cases h0), fun j hj => ?_⟩
        rw [hr] at hj
        obtain rfl : j = i := by simpa using hj
        unfold wpOp
        rw [ho]
        rcases guardF_elim (o := o) hE (show guardF _ _ _ _ _ from h) with ⟨hw, E', hE', hr'⟩ | ⟨hw, E', hE', hr'⟩
        · show (if Region.wanted o (yielded ops a.tmps) = true then _ else _)
          rw [if_pos hw]
          exact .inl (opF_sound hE' (fun v w' hk => next _ _ _ hE' hk) hr')
        · show (if Region.wanted o (yielded ops a.tmps) = true then _ else _)
          rw [if_neg (by simp [hw])]
          exact next _ _ _ hE' hr'
theorem VDG_aux {P : Program} {n : Nat} {ops : Array Oper} {E : List (Nat × Value)} {w : World} {id : Nat} {Q' : Exit → Act → World → Prop} {K : List (Nat × Value) → World → Prop} (sc : List (Bool × Nat)) (hok : okDraw n ops sc = true) (hm : P.follows .mixedOrders = true)
    (hQ : ∀ c a w, ¬ Q' (.panic c) a w) (hK : ∀ E a w, Holds n E a → K E w → Q' .normal a w) (h : ∀ w1, w1.heap = w.heap → Up w w1 → ∃ G : World → Prop, G w1 ∧ DG P ops w1 G (needs ops sc) sc E w1 K) {a : Act} (ha : Holds n E a) : (Code.region id ops true).wp P Q' a w := by
  refine wp_region_any hm ?_
  have hlen : sc.length = ops.size := by
    simp only [okDraw, Bool.and_eq_true] at hok
    exact Nat.eq_of_beq_eq_true hok.1.2
  have hc : chk ops sc (Array.replicate ops.size false) = true := by
    simp only [okDraw, Bool.and_eq_true] at hok
    exact hok.1.1.2
  rw [← hlen]
  obtain ⟨G, hG, hD⟩ := h w.drew rfl (drew_up w)
  exact wpAny_of_wpG _ _ _ _ (DG_sound (w1 := w.drew) hok (fun c a d v w hq => (hQ c _ w hq).elim) hK sc [] rfl _ (Cl.start _ _) (hlen ▸ hc) E a w.drew ha (fun _ => hG) hD)
section
variable {P : Program} {n : Nat} {Q : Exit → List (Nat × Value) → World → Prop} {E : List (Nat × Value)} {w : World} {id : Nat} {ops : Array Oper} {y : Code}
theorem VDG (l : List Nat) (sc : List (Bool × Nat)) {N : List Nat} (hok : okDraw n ops sc = true) (hN : needs ops sc = N) (hm : P.follows .mixedOrders = true) (hQ : ∀ c E w, ¬ Q (.panic c) E w)
    (h : ∀ w1, w1.heap = w.heap → Up w w1 → ∃ G : World → Prop, G w1 ∧ DG P ops w1 G N sc E w1 fun E' w' => V P n y Q (sel l E') w') : V P n (.seq (.region id ops true) y) Q E w := by
  subst hN
  exact fun a ha => wp_seq (VDG_aux sc hok hm (fun c a w ⟨E, _, hq⟩ => hQ c E w hq) (fun E' a w hE hK => V_sel _ hK a hE) h ha)
theorem VDG1 (l : List Nat) (sc : List (Bool × Nat)) {N : List Nat} (hok : okDraw n ops sc = true) (hN : needs ops sc = N) (hm : P.follows .mixedOrders = true) (hQ : ∀ c E w, ¬ Q (.panic c) E w)
    (h : ∀ w1, w1.heap = w.heap → Up w w1 → ∃ G : World → Prop, G w1 ∧ DG P ops w1 G N sc E w1 fun E' w' => Q .normal (sel l E') w') : V P n (.region id ops true) Q E w := by
  subst hN
  exact fun a ha => VDG_aux sc hok hm (fun c a w ⟨E, _, hq⟩ => hQ c E w hq) (fun E' a w hE hK => ⟨_, hE.sel _, hK⟩) h ha
end
section
variable {P : Program} {E : List (Nat × Value)} {w w1 : World} {G : World → Prop}
@[congr] theorem DG_congr {all : Array Oper} {N : List Nat} {os : List (Bool × Nat)} {E E' : List (Nat × Value)} {K : List (Nat × Value) → World → Prop} (h : mk E = E') : DG P all w1 G N os E w K = DG P all w1 G N os E' w K := by rw [← mk_eq E, h]
@[push_cast] theorem DG_nil {ops : Array Oper} {N : List Nat} {K : List (Nat × Value) → World → Prop} : DG P ops w1 G N [] E w K = K E w := Eq.trans rfl rfl
@[push_cast] theorem DG_take {ops : Array Oper} {N : List Nat} {i : Nat} {r : List (Bool × Nat)} {K : List (Nat × Value) → World → Prop} : DG P ops w1 G N ((true, i) :: r) E w K = optF ops[i]? fun o => guardF ops E o (fun E => boolF (needsS o.op) (someV true (fun v => ∀ w', G w' → valF P w' E o fun u => u = v) (fun v => DG P ops w1 G N r (putD E o.dst v) w K)) (valF P w1 E o fun v => DG P ops w1 G N r (putD E o.dst v) w K)) (fun E => DG P ops w1 G N r (putD E o.dst undef) w K) := by
  rw [DG]; cases ops[i]? with
  | none => rfl
  | some o =>
    rw [optF_some]
    dsimp only
    congr 1
@[push_cast] theorem DG_do {ops : Array Oper} {N : List Nat} {i : Nat} {r : List (Bool × Nat)} {K : List (Nat × Value) → World → Prop} : DG P ops w1 G N ((false, i) :: r) E w K = optF ops[i]? fun o => stepF P ops E o w fun E' w' => boolF (ob ops N i) (G w') True ∧ DG P ops w1 G N r E' w' K := by rw [DG]; cases ops[i]? <;> rfl
@[push_cast] theorem needs_move {x : Operand} : needsS (.move x) = false := Eq.trans rfl rfl
@[push_cast] theorem needs_assign {x : Operand} : needsS (.assign x) = false := Eq.trans rfl rfl
@[push_cast] theorem needs_load {t : TypeId} {x : Operand} : needsS (.load t x) = true := Eq.trans rfl rfl
@[push_cast] theorem needs_field {t : TypeId} {x : Operand} {i : Nat} : needsS (.fieldAddr t x i) = false := Eq.trans rfl rfl
@[push_cast] theorem needs_index {t : TypeId} {x y : Operand} : needsS (.indexAddr t x y) = false := Eq.trans rfl rfl
@[push_cast] theorem needs_nil {x : Operand} : needsS (.nilCheck x) = false := Eq.trans rfl rfl
@[push_cast] theorem needs_build {t : TypeId} {x : Array (Nat × Operand)} : needsS (.build t x) = false := Eq.trans rfl rfl
@[push_cast] theorem needs_extract {x : Operand} {i : Nat} : needsS (.extract x i) = false := Eq.trans rfl rfl
@[push_cast] theorem needs_bin {op : BinOp} {t u : TypeId} {x y : Operand} : needsS (.binOp op t x y u) = true := Eq.trans rfl rfl
@[push_cast] theorem needs_len {xs : Array Operand} {ts : Array TypeId} : needsS (.call ⟨.builtin .len, xs, ts⟩) = true := Eq.trans rfl rfl
@[push_cast] theorem needs_pick {a b c : Operand} : needsS (.pick a b c) = false := Eq.trans rfl rfl
end
/-- A load in each such world. -/
theorem load_each {P : Program} {G : World → Prop} {b o T : Nat} {cs : Array Value} {fr : Nat × Nat} {ty : Option (Bool × Nat)} {v : Value} {n : Nat} (hty : ty = some (false, n)) (hg : ∀ w', G w' → w'.heap[b]? = some (.cells cs T fr)) (hv : cs[o]? = some v) : ∀ w', G w' → loadV ty w'.heap[b]? o fun u => u = v := by
  intro w' h
  rw [hty, hg w' h]
  show (match cs[o]? with | some x => x = v | none => False)
  rw [hv]
/-! ### Where roads meet -/
def meetJ {ι : Type} (l : List Nat) (env : ι → List (Nat × Value)) (I : ι → World → Prop) (E : List (Nat × Value)) (w : World) : Prop := ∃ i, sel l E = env i ∧ I i w
@[congr] theorem meetJ_congr {ι : Type} {l : List Nat} {env : ι → List (Nat × Value)} {I : ι → World → Prop} {E E' : List (Nat × Value)} {w : World} (h : mk E = E') : meetJ l env I E w = meetJ l env I E' w := by rw [← mk_eq E, h]
theorem V_seqJ {P : Program} {n : Nat} {Q : Exit → List (Nat × Value) → World → Prop} {E : List (Nat × Value)} {w : World} {x y : Code} {ι : Type} (l : List Nat) (env : ι → List (Nat × Value)) (I : ι → World → Prop)
    (hJ : ∀ i w, I i w → V P n y Q (env i) w) (h : V P n x (after (meetJ l env I) Q) E w) : V P n (.seq x y) Q E w :=
  V_seq (V_mono h (fun e E' w' hq => by
    cases e <;> first
      | exact hq
      | (obtain ⟨i, h1, h2⟩ := hq; exact V_sel l (h1 ▸ hJ i _ h2))))
theorem V_J {P : Program} {n : Nat} {Q : Exit → List (Nat × Value) → World → Prop} {E : List (Nat × Value)} {w : World} {x y : Code} {ι : Type} (l : List Nat) (env : ι → List (Nat × Value)) (I : ι → World → Prop)
    (hJ : ∀ i w, I i w → V P n y Q (env i) w) (h : V P n x (after (meetJ l env I) Q) E w) : V P n x (after (V P n y Q) Q) E w :=
  V_mono h (fun e E' w' hq => by
    cases e <;> first
      | exact hq
      | (obtain ⟨i, h1, h2⟩ := hq; exact V_sel l (h1 ▸ hJ i _ h2)))
end Go.Vc
