/- A way of walking a function's code over a short list of what its temporaries hold, region by region: plain definitions and theorems over any program. -/
import Derived.OrdersHeld
import Derived.Below
import Derived.KernelRfl
import Derived.Tactics
import Derived.WalkKit
set_option linter.unusedVariables false
set_option linter.unusedSimpArgs false
namespace Go.Vc
open Go Go.RowKit

/-! ### What the temporaries hold -/
def look : List (Nat × Value) → Nat → Option Value
  | [], _ => none
  | p :: r, t => match Nat.beq p.1 t with | true => some p.2 | false => look r t
def put : List (Nat × Value) → Nat → Value → List (Nat × Value)
  | [], t, v => [(t, v)]
  | p :: r, t, v => match Nat.beq p.1 t with | true => (p.1, v) :: r | false => p :: put r t v
def putD (E : List (Nat × Value)) : Option Nat → Value → List (Nat × Value)
  | none, _ => E
  | some d, v => put E d v
def keep (ks : Nat → Bool) : List (Nat × Value) → List (Nat × Value)
  | [] => []
  | p :: r => match ks p.1 with | true => p :: keep ks r | false => keep ks r

theorem look_put (E : List (Nat × Value)) (d : Nat) (v : Value) (t : Nat) : look (put E d v) t = if d = t then some v else look E t := by
  induction E with
  | nil =>
    simp only [put, look]
    cases h2 : Nat.beq d t with
    | true => have := Nat.eq_of_beq_eq_true h2; rw [if_pos this]
    | false => have := Nat.ne_of_beq_eq_false h2; rw [if_neg this]
  | cons p r ih =>
    simp only [put]
    cases hb : Nat.beq p.1 d with
    | true =>
      have := Nat.eq_of_beq_eq_true hb
      simp only [look]
      cases h2 : Nat.beq p.1 t with
      | true =>
        have := Nat.eq_of_beq_eq_true h2
        simp; omega
      | false =>
        have := Nat.ne_of_beq_eq_false h2
        rw [if_neg (by omega)]
    | false =>
      simp only [look]
      have := Nat.ne_of_beq_eq_false hb
      cases h2 : Nat.beq p.1 t with
      | true =>
        have := Nat.eq_of_beq_eq_true h2
        rw [if_neg (by omega)]
      | false => simp only [ih]

theorem look_keep {ks : Nat → Bool} {E : List (Nat × Value)} {t : Nat} {v : Value} (h : look (keep ks E) t = some v) : look E t = some v := by
  induction E with
  | nil => exact h
  | cons p r ih =>
    simp only [keep] at h
    cases hk : ks p.1 with
    | true =>
      simp only [hk, look] at h ⊢
      cases hb : Nat.beq p.1 t with
      | true => simpa [hb] using h
      | false => simp only [hb] at h ⊢; exact ih h
    | false =>
      simp only [hk] at h
      simp only [look]
      cases hb : Nat.beq p.1 t with
      | true =>
        exfalso
        have he := Nat.eq_of_beq_eq_true hb
        subst he
        -- the kept list has no key p.1
        have hno : ∀ (E : List (Nat × Value)), look (keep ks E) p.1 = none := by
          intro E
          induction E with
          | nil => rfl
          | cons q s ihs =>
            simp only [keep]
            cases hq : ks q.1 with
            | true =>
              simp only [look]
              cases hqb : Nat.beq q.1 p.1 with
              | true => have := Nat.eq_of_beq_eq_true hqb; rw [this] at hq; rw [hq] at hk; cases hk
              | false => exact ihs
            | false => exact ihs
        rw [hno] at h; cases h
      | false => exact ih h

def Holds (n : Nat) (E : List (Nat × Value)) (a : Act) : Prop := a.tmps.size = n ∧ a.defers = [] ∧ ∀ t v, look E t = some v → a.tmps.getD t undef = v

theorem Holds.kept {n : Nat} {E : List (Nat × Value)} {a : Act} (h : Holds n E a) (ks : Nat → Bool) : Holds n (keep ks E) a :=
  ⟨h.1, h.2.1, fun t v hv => h.2.2 t v (look_keep hv)⟩

theorem Holds.upd {n : Nat} {E : List (Nat × Value)} {a : Act} (h : Holds n E a) (d : Option Nat) (v : Value) (hd : ∀ t, d = some t → t < n) : Holds n (putD E d v) (a.put d v) := by
  cases d with
  | none => exact h
  | some d =>
    have hlt := hd d rfl
    refine ⟨by simp [Act.put, h.1], h.2.1, fun t u hu => ?_⟩
    simp only [putD, look_put] at hu
    by_cases hdt : d = t
    · subst hdt
      rw [if_pos rfl] at hu
      cases hu
      simp [Act.put, h.1, hlt]
    · rw [if_neg hdt] at hu
      have := h.2.2 t u hu
      simpa [Act.put, Array.getElem?_setIfInBounds_ne hdt] using this

/-- A temporary's true name: nothing else is known of it. -/
def evO (E : List (Nat × Value)) : Operand → Option Value
  | .tmp t => look E t
  | .const v => some v
  | .global g => some (.pointer (some ⟨g, 0, none⟩))
  | .func f => some (.func (.func f) #[] #[])
theorem evO_eval {n : Nat} {E : List (Nat × Value)} {a : Act} (h : Holds n E a) {x : Operand} {v : Value} (he : evO E x = some v) : a.eval x = v := by
  cases x with
  | tmp t => exact h.2.2 t v he
  | const u => cases he; rfl
  | global g => cases he; rfl
  | func f => cases he; rfl
def withV (E : List (Nat × Value)) (x : Operand) (f : Value → Prop) : Prop := match evO E x with | some v => f v | none => False
theorem withV_elim {n : Nat} {E : List (Nat × Value)} {a : Act} (h : Holds n E a) {x : Operand} {f : Value → Prop} (hw : withV E x f) : f (a.eval x) := by
  unfold withV at hw
  split at hw
  · rename_i v he; rw [evO_eval h he]; exact hw
  · exact hw.elim
def withL (E : List (Nat × Value)) : List Operand → (List Value → Prop) → Prop
  | [], f => f []
  | x :: xs, f => withV E x fun v => withL E xs fun vs => f (v :: vs)
theorem withL_elim {n : Nat} {E : List (Nat × Value)} {a : Act} (h : Holds n E a) : ∀ (xs : List Operand) {f : List Value → Prop}, withL E xs f → f (xs.map a.eval)
  | [], _, hw => hw
  | x :: xs, f, hw => withL_elim h xs (withV_elim h hw)
def withO (E : List (Nat × Value)) : Option Operand → (Option Value → Prop) → Prop
  | none, f => f none
  | some x, f => withV E x fun v => f (some v)
theorem withO_elim {n : Nat} {E : List (Nat × Value)} {a : Act} (h : Holds n E a) {x : Option Operand} {f : Option Value → Prop} (hw : withO E x f) : f (x.map a.eval) := by
  cases x with
  | none => exact hw
  | some x => exact withV_elim h hw
/-- The parts of a literal. -/
def withP (E : List (Nat × Value)) : List (Nat × Operand) → (List (Nat × Value) → Prop) → Prop
  | [], f => f []
  | p :: xs, f => withV E p.2 fun v => withP E xs fun vs => f ((p.1, v) :: vs)
theorem withP_elim {n : Nat} {E : List (Nat × Value)} {a : Act} (h : Holds n E a) : ∀ (xs : List (Nat × Operand)) {f : List (Nat × Value) → Prop}, withP E xs f → f (xs.map fun p => (p.1, a.eval p.2))
  | [], _, hw => hw
  | p :: xs, f, hw => withP_elim h xs (withV_elim h hw)

/-! ### One operation -/
/-- It yields a value. -/
def OpM (P : Program) (s : Sem Value) (w : World) (k : Value → World → Prop) : Prop := match s.run P w with | .ok v w' => k v w' | .halt _ _ => False
/-- It does something. -/
def OpU (P : Program) (s : Sem Unit) (w : World) (k : World → Prop) : Prop := match s.run P w with | .ok _ w' => k w' | .halt _ _ => False
def CallM (P : Program) (f : FuncId) (args : Array Value) (w : World) (k : Value → World → Prop) : Prop :=
  Calls P f args w fun e w' => match e with | .returned v => k v w' | _ => False
/-- Any operation at all. -/
def NextM (P : Program) (s : Sem Next) (w : World) (k : Value → World → Prop) : Prop := match s.run P w with
  | .ok (.value v) w' => k v w'
  | .ok .skip w' => k undef w'
  | .ok (.enter f args) w' => CallM P f args w' k
  | .ok (.row row args) w' => Rows P row args w' k
  | _ => False
/-- A call of it comes to its body. -/
def enters (P : Program) (f : FuncId) : Bool := match P.funcs[f]? with | some fn => fn.body.isSome && !(fn.name == "runtime.NumGoroutine") | none => false

theorem run_bind {α β : Type} (P : Program) (s : Sem α) (f : α → Sem β) (w : World) :
    (s.bind f).run P w = match s.run P w with | .ok a w' => (f a).run P w' | .halt h w' => .halt h w' := by
  induction s generalizing w with
  | pure a => rfl
  | load m a k ih =>
    simp only [Sem.bind, Sem.run]
    split
    · exact ih _ _
    · split
      · exact ih _ _
      · rfl
  | store m a v k ih =>
    cases v <;> simp only [Sem.bind, Sem.run] <;> (first | rfl | (split <;> first | (split <;> first | rfl | exact ih _) | (split <;> first | rfl | exact ih _)))
  | new o k ih => exact ih _ _
  | shape r k ih => exact ih _ _
  | freeze a n k ih => exact ih _
  | frozen a k ih => exact ih _ _
  | getObj r k ih =>
    simp only [Sem.bind, Sem.run]
    split <;> first | rfl | exact ih _ _
  | setObj r o k ih =>
    simp only [Sem.bind, Sem.run]
    split <;> first | rfl | exact ih _
  | choose q k ih =>
    simp only [Sem.bind, Sem.run]
    split <;> exact ih _ _
  | sys c k ih => exact ih _ _
  | program k ih => exact ih _ _
  | mark m k ih => exact ih _
  | halt h => rfl

theorem run_value (P : Program) (s : Sem Value) (w : World) :
    (do pure (.value (← s)) : Sem Next).run P w = match s.run P w with | .ok a w' => .ok (.value a) w' | .halt h w' => .halt h w' := by
  show (s.bind fun a => Sem.pure (Next.value a)).run P w = _
  rw [run_bind]; cases s.run P w <;> rfl
theorem run_unit (P : Program) (s : Sem Unit) (w : World) :
    (do s; pure .skip : Sem Next).run P w = match s.run P w with | .ok _ w' => .ok .skip w' | .halt h w' => .halt h w' := by
  show (s.bind fun _ => Sem.pure Next.skip).run P w = _
  rw [run_bind]; cases s.run P w <;> rfl

section
variable {P : Program} {o : Oper} {a : Act} {Q : Exit → Act → World → Prop} {next : Act → World → Prop} {w : World} {k : Value → World → Prop}
theorem upon_opM {s : Sem Value} (hk : ∀ v w', k v w' → next (a.put o.dst v) w') (h : OpM P s w k) : o.upon P a next Q ((do pure (.value (← s)) : Sem Next).run P w) := by
  rw [run_value]
  unfold OpM at h
  revert h
  cases s.run P w with
  | ok v w' => exact hk _ _
  | halt x w' => exact False.elim
theorem upon_opU {s : Sem Unit} (hk : ∀ v w', k v w' → next (a.put o.dst v) w') (h : OpU P s w (k undef)) : o.upon P a next Q ((do s; pure .skip : Sem Next).run P w) := by
  rw [run_unit]
  unfold OpU at h
  revert h
  cases s.run P w with
  | ok v w' => exact hk _ _
  | halt x w' => exact False.elim
theorem upon_call {f : FuncId} {args : Array Value} (hk : ∀ v w', k v w' → next (a.put o.dst v) w') (h : CallM P f args w k) : o.upon P a next Q (.ok (.enter f args) w) := by
  rw [Oper.upon_enter]
  refine Calls.mono h fun e w' he => ?_
  cases e with
  | returned v => exact hk _ _ he
  | panicked c => exact he.elim
  | outgrown => exact he.elim
theorem upon_next {s : Sem Next} (hk : ∀ v w', k v w' → next (a.put o.dst v) w') (h : NextM P s w k) : o.upon P a next Q (s.run P w) := by
  unfold NextM at h
  generalize s.run P w = r at h ⊢
  split at h
  · exact hk _ _ h
  · exact hk _ _ h
  · exact upon_call hk h
  · exact Rows.mono h hk
  · exact h.elim
end
theorem run_callFunc {P : Program} {f : FuncId} (he : enters P f = true) (args : Array Value) (w : World) : (callFunc f args).run P w = .ok (.enter f args) w := by
  unfold enters at he
  split at he
  · rename_i fn hfn
    simp only [Bool.and_eq_true, Bool.not_eq_true', beq_eq_false_iff_ne, ne_eq] at he
    have h1 : (fn.name == "runtime.NumGoroutine") = false := by simpa using he.2
    have h2 : fn.body.isNone = false := by cases hb : fn.body <;> simp_all
    show (Sem.program _).run P w = _
    simp only [Sem.run]
    simp [program, Sem.run, hfn, h1, h2, Bind.bind, Sem.bind, pure]
  · cases he


/-! ### The world goes on -/
/-- But for the blocks of S, nothing that was there has turned. -/
structure Kp (S : Nat → Prop) (w w' : World) : Prop where
  os : w'.os = w.os
  tape : w'.tape = w.tape
  output : w'.output = w.output
  size : w.heap.size ≤ w'.heap.size
  block : ∀ k, k < w.heap.size → ¬ S k → w'.heap[k]? = w.heap[k]?
def none_ (_ : Nat) : Prop := False
abbrev Up (w w' : World) : Prop := Kp none_ w w'
theorem Kp.refl (S : Nat → Prop) (w : World) : Kp S w w := ⟨rfl, rfl, rfl, Nat.le_refl _, fun _ _ _ => rfl⟩
theorem Kp.trans {S : Nat → Prop} {a b c : World} (h : Kp S a b) (k : Kp S b c) : Kp S a c :=
  ⟨k.os.trans h.os, k.tape.trans h.tape, k.output.trans h.output, Nat.le_trans h.size k.size, fun i hi hs => (k.block i (Nat.lt_of_lt_of_le hi h.size) hs).trans (h.block i hi hs)⟩
theorem Kp.mono {S S' : Nat → Prop} {a b : World} (h : Kp S a b) (hs : ∀ k, k < a.heap.size → S k → S' k) : Kp S' a b :=
  ⟨h.os, h.tape, h.output, h.size, fun i hi hn => h.block i hi fun h' => hn (hs i hi h')⟩
/-- A later step that turns what is new besides. -/
theorem Kp.step {S S' : Nat → Prop} {a b c : World} (h : Kp S a b) (k : Kp S' b c) (hs : ∀ i, i < a.heap.size → S' i → S i) : Kp S a c :=
  ⟨k.os.trans h.os, k.tape.trans h.tape, k.output.trans h.output, Nat.le_trans h.size k.size, fun i hi hn => (k.block i (Nat.lt_of_lt_of_le hi h.size) fun h' => hn (hs i hi h')).trans (h.block i hi hn)⟩
theorem lt_of_get {w : World} {b : Nat} {o : Obj} (h : w.heap[b]? = some o) : b < w.heap.size := by
  rcases Nat.lt_or_ge b w.heap.size with h' | h'
  · exact h'
  · rw [Array.getElem?_eq_none h'] at h; cases h
theorem Kp.get {S : Nat → Prop} {w w' : World} (h : Kp S w w') {b : Nat} {o : Obj} (hb : w.heap[b]? = some o) (hs : ¬ S b) : w'.heap[b]? = some o := by
  rw [h.block b (lt_of_get hb) hs]; exact hb
theorem Up.get {w w' : World} (h : Up w w') {b : Nat} {o : Obj} (hb : w.heap[b]? = some o) : w'.heap[b]? = some o := Kp.get h hb id
theorem Up.below {w w' : World} (h : Up w w') : Below w.heap.size w w' := ⟨h.os, h.tape, h.output, h.size, fun k hk => h.block k hk id⟩
theorem Up.of_below {w w' : World} (h : Below w.heap.size w w') : Up w w' := ⟨h.os, h.tape, h.output, h.size, fun k hk _ => h.block k hk⟩


/-! ### Memory -/
theorem cell_of_heap {w : World} {b o : Nat} {cs : Array Value} {T : TypeId} {fr : Nat × Nat} (h : w.heap[b]? = some (.cells cs T fr)) : w.cell? ⟨b, o, none⟩ = cs[o]? := by
  simp [World.cell?, h]
theorem add_mk (b o k : Nat) : (⟨b, o, none⟩ : Addr).add k = ⟨b, o + k, none⟩ := by
  unfold Addr.add; split <;> simp_all
theorem run_load' {P : Program} {w : World} {a : Addr} {v : Value} (h : w.cell? a = some v) : (load a).run P w = .ok v w := by
  simp only [load, Sem.run]
  rw [h]
theorem run_loadCellsFrom {P : Program} {w : World} {b o : Nat} {cs : Array Value} {T : TypeId} {fr : Nat × Nat} (h : w.heap[b]? = some (.cells cs T fr)) :
    ∀ (n i : Nat) (acc : Array Value), o + i + n ≤ cs.size → (loadCellsFrom ⟨b, o, none⟩ i n acc).run P w = .ok (acc ++ cs.extract (o + i) (o + i + n)) w
  | 0, i, acc, _ => by
    have : cs.extract (o + i) (o + i + 0) = #[] := by rw [Array.extract_empty_of_stop_le_start]; omega
    rw [this, Array.append_empty]; rfl
  | n + 1, i, acc, hn => by
    show Sem.run P (Sem.bind _ _) w = _
    have hlt : o + i < cs.size := by omega
    rw [run_bind, add_mk, run_load' (v := cs[o + i]) (by rw [cell_of_heap h]; simp [hlt])]
    show Sem.run P (loadCellsFrom _ _ _ _) w = _
    rw [run_loadCellsFrom h n (i + 1) _ (by omega)]
    congr 1
    apply Array.ext'
    simp only [Array.toList_append, Array.toList_push, Array.toList_extract, List.append_assoc, List.extract_eq_take_drop]
    congr 1
    have e1 : o + (i + 1) + n - (o + (i + 1)) = n := by omega
    have e2 : o + i + (n + 1) - (o + i) = n + 1 := by omega
    have hl : o + i < cs.toList.length := by simpa using hlt
    rw [e1, e2, List.drop_eq_getElem_cons (i := o + i) hl, List.take_succ_cons]
    simp [Nat.add_assoc]
theorem run_loadCells {P : Program} {w : World} {b o : Nat} {cs : Array Value} {T : TypeId} {fr : Nat × Nat} (h : w.heap[b]? = some (.cells cs T fr)) (n : Nat) (hn : o + n ≤ cs.size) :
    (loadCells ⟨b, o, none⟩ n).run P w = .ok (cs.extract o (o + n)) w := by
  have := run_loadCellsFrom (P := P) h n 0 #[] (by omega)
  simpa [loadCells] using this

/-- Is it a struct or an array; how many cells? -/
def tyOf (P : Program) (T : TypeId) : Option (Bool × Nat) :=
  match P.underlying T, P.info? T with
  | some (.struct _), some i => some (true, i.size)
  | some (.array _ _), some i => some (true, i.size)
  | some _, some i => some (false, i.size)
  | _, _ => none
theorem run_underlying' {P : Program} {T : TypeId} {d : TypeDesc} (h : P.underlying T = some d) (w : World) : (underlying T).run P w = .ok d w := by
  show Sem.run P (Sem.bind _ _) w = _
  rw [run_bind]
  show Sem.run P (match P.underlying T with | some d => _ | none => _) w = _
  rw [h]; rfl
theorem run_typeInfo' {P : Program} {T : TypeId} {i : TypeInfo} (h : P.info? T = some i) (w : World) : (typeInfo T).run P w = .ok i w := by
  show Sem.run P (Sem.bind _ _) w = _
  rw [run_bind]
  show Sem.run P (match P.info? T with | some d => _ | none => _) w = _
  rw [h]; rfl
theorem run_sizeOf' {P : Program} {T : TypeId} {i : TypeInfo} (h : P.info? T = some i) (w : World) : (sizeOf T).run P w = .ok i.size w := by
  show Sem.run P (Sem.bind _ _) w = _
  rw [run_bind, run_typeInfo' h]; rfl
theorem tyOf_run {P : Program} {T : TypeId} {g : Bool} {n : Nat} (h : tyOf P T = some (g, n)) (w : World) : (isAgg T).run P w = .ok g w ∧ (sizeOf T).run P w = .ok n w := by
  unfold tyOf at h
  have key : ∀ {d : TypeDesc} {i : TypeInfo}, P.underlying T = some d → P.info? T = some i → (isAgg T).run P w = .ok (match d with | .struct _ | .array _ _ => true | _ => false) w ∧ (sizeOf T).run P w = .ok i.size w := by
    intro d i hd hi
    refine ⟨?_, run_sizeOf' hi w⟩
    show Sem.run P (Sem.bind _ _) w = _
    rw [run_bind, run_underlying' hd]
    cases d <;> rfl
  split at h
  · rename_i fs i hd hi; cases h; exact key hd hi
  · rename_i a b i hd hi; cases h; exact key hd hi
  · rename_i d i h1 h2 hd hi
    cases h
    have := key hd hi
    cases d <;> first | exact this | exact (h1 _ rfl).elim | exact (h2 _ _ rfl).elim
  · cases h
def loadV (ty : Option (Bool × Nat)) (o : Option Obj) (off : Nat) (k : Value → Prop) : Prop :=
  match o with
  | some (.cells cs _ _) => match ty with
    | some (false, _) => match cs[off]? with | some v => k v | none => False
    | some (true, n) => off + n ≤ cs.size ∧ k (.agg (cs.extract off (off + n)))
    | none => False
  | _ => False
theorem loadV_sound {P : Program} {t : TypeId} {w : World} {b o : Nat} {k : Value → Prop} (h : loadV (tyOf P t) w.heap[b]? o k) :
    ∃ v, (∀ w', Up w w' → (Instr.loadAt t (.pointer (some ⟨b, o, none⟩))).run P w' = .ok v w') ∧ k v := by
  unfold loadV at h
  split at h
  · rename_i cs T fr hb
    split at h
    · rename_i n ht
      split at h
      · rename_i v hv
        refine ⟨v, fun w' hu => ?_, h⟩
        simp only [Instr.loadAt, Instr.sureAddr, loadVar, Bind.bind, Pure.pure, Sem.bind, run_bind, (tyOf_run ht w').1]
        exact run_load' (by rw [cell_of_heap (hu.get hb)]; exact hv)
      · exact h.elim
    · rename_i n ht
      refine ⟨_, fun w' hu => ?_, h.2⟩
      simp only [Instr.loadAt, Instr.sureAddr, loadVar, Bind.bind, Pure.pure, Sem.bind, run_bind, (tyOf_run ht w').1, (tyOf_run ht w').2, if_true, run_loadCells (hu.get hb) _ h.1]
      rfl
    · exact h.elim
  · exact h.elim

/-- Where a field begins. -/
def fieldOff (P : Program) (T : TypeId) (i : Nat) : Option Nat :=
  match P.underlying T with
  | some (.struct fs) => match fs[i]? with
    | some f => match P.info? f.type with
      | some ti => match ti.size with | 0 => none | _ + 1 => some f.offset
      | none => none
    | none => none
  | _ => none
theorem fieldOff_run {P : Program} {T : TypeId} {i off : Nat} (h : fieldOff P T i = some off) (a : Addr) (w : World) : (Instr.fieldAt T (.pointer (some a)) i).run P w = .ok (.pointer (some (a.add off))) w := by
  unfold fieldOff at h
  split at h
  · rename_i fs hu
    split at h
    · rename_i f hf
      split at h
      · rename_i ti hti
        split at h
        · cases h
        · rename_i m hm
          cases h
          simp only [Instr.fieldAt, Instr.sureAddr, fieldPlace, Bind.bind, Pure.pure, Sem.bind, run_bind, run_underlying' hu, hf, run_sizeOf' hti, hm, Sem.run, Nat.add_one_ne_zero, if_false]
      · cases h
    · cases h
  · cases h
/-- How many cells an element has. -/
def sliceEl (P : Program) (T : TypeId) : Option Nat := match P.underlying T with | some (.slice e) => (P.info? e).map (·.size) | _ => none
def arrayEl (P : Program) (T : TypeId) : Option (Nat × Nat) := match P.underlying T with | some (.array n e) => (P.info? e).map fun i => (n, i.size) | _ => none
def idxV (P : Program) (T : TypeId) (x i : Value) (k : Value → Prop) : Prop :=
  match x, i with
  | .slice (some a) n _, .int _ i => match sliceEl P T with
    | some s => (0 ≤ i ∧ i < (n : Int)) ∧ k (.pointer (some (a.add (i.toNat * s))))
    | none => False
  | .pointer (some a), .int _ i => match arrayEl P T with
    | some (n, s) => (0 ≤ i ∧ i < (n : Int)) ∧ k (.pointer (some (a.add (i.toNat * s))))
    | none => False
  | _, _ => False
theorem idxV_sound {P : Program} {T : TypeId} {x i : Value} {k : Value → Prop} (h : idxV P T x i k) : ∃ v, (∀ w, (Instr.indexAt T x i).run P w = .ok v w) ∧ k v := by
  unfold idxV at h
  split at h
  · rename_i a n c q i
    split at h
    · rename_i s hs
      refine ⟨_, fun w => ?_, h.2⟩
      unfold sliceEl at hs
      split at hs
      · rename_i e he
        obtain ⟨ti, hti, rfl⟩ := Option.map_eq_some_iff.1 hs
        simp only [Instr.indexAt, asIntOf, Bind.bind, Pure.pure, Sem.bind, run_bind, run_underlying' he, Sem.run]
        rw [if_pos h.1]
        simp only [run_bind, run_sizeOf' hti, Sem.run]
      · cases hs
    · exact h.elim
  · rename_i a q i
    split at h
    · rename_i n s hs
      refine ⟨_, fun w => ?_, h.2⟩
      unfold arrayEl at hs
      split at hs
      · rename_i m e he
        obtain ⟨ti, hti, hh⟩ := Option.map_eq_some_iff.1 hs
        cases hh
        simp only [Instr.indexAt, Instr.sureAddr, asIntOf, Bind.bind, Pure.pure, Sem.bind, run_bind, run_underlying' he, Sem.run]
        rw [if_pos h.1]
        simp only [run_bind, run_sizeOf' hti, Sem.run]
      · cases hs
    · exact h.elim
  · exact h.elim


/-! ### Values out of values -/
/-- 's[i]' of a string, 0 outside. -/
def bAt (s : ByteArray) (i : Int) : Int := ((s.data.toList.getD i.toNat 0).toNat : Int)
def strEq (x y : ByteArray) : Bool := x.toList == y.toList
def bitI (op : BinOp) (k : IntKind) (x y : Int) : Int :=
  let a := BitVec.ofInt k.bits x
  let b := BitVec.ofInt k.bits y
  match op with
  | .and => k.wrap (a &&& b).toNat
  | .or => k.wrap (a ||| b).toNat
  | .xor => k.wrap (a ^^^ b).toNat
  | _ => k.wrap (a &&& ~~~b).toNat
/-- Whatever else: it yields, and nothing turns, in every later world. -/
def TakeU (P : Program) (w : World) (s : Sem Value) (k : Value → Prop) : Prop := ∃ v, (∀ w', Up w w' → s.run P w' = .ok v w') ∧ k v
def isPtrT (P : Program) (T : TypeId) : Bool := match P.underlying T with | some (.pointer _) => true | _ => false
def isSliceT (P : Program) (T : TypeId) : Bool := match P.underlying T with | some (.slice _) => true | _ => false
def isMapT (P : Program) (T : TypeId) : Bool := match P.underlying T with | some (.map _ _) => true | _ => false
def isBoolT (P : Program) (T : TypeId) : Bool := match P.underlying T with | some .bool => true | _ => false
/-- '==' of what is no number and no string: with nil on one side, or of bools; true: of these. -/
def eqV (P : Program) (T : TypeId) (v u : Value) : Option Bool :=
  match v, u with
  | .bool a, .bool b => match isBoolT P T with | true => some (a == b) | false => none
  | .pointer none, .pointer b => match isPtrT P T with | true => some b.isNone | false => none
  | .pointer (some _), .pointer none => match isPtrT P T with | true => some false | false => none
  | .slice none _ _, .slice b _ _ => match isSliceT P T with | true => some b.isNone | false => none
  | .slice (some _) _ _, .slice none _ _ => match isSliceT P T with | true => some false | false => none
  | .map none, .map b => match isMapT P T with | true => some b.isNone | false => none
  | .map (some _), .map none => match isMapT P T with | true => some false | false => none
  | _, _ => none
def binV (P : Program) (w : World) (op : BinOp) (T : TypeId) (x y : Operand) (v u : Value) (k : Value → Prop) : Prop :=
  match v, u with
  | .int q a, .int r b => match op with
    | .shl => 0 ≤ b ∧ k (.int q (q.wrap (a * 2 ^ (min b.toNat q.bits))))
    | .shr => 0 ≤ b ∧ k (.int q (a.fdiv (2 ^ (min b.toNat q.bits))))
    | .add => q = r ∧ k (.int q (q.wrap (a + b)))
    | .sub => q = r ∧ k (.int q (q.wrap (a - b)))
    | .mul => q = r ∧ k (.int q (q.wrap (a * b)))
    | .quo => q = r ∧ b ≠ 0 ∧ k (.int q (q.wrap (a.tdiv b)))
    | .rem => q = r ∧ b ≠ 0 ∧ k (.int q (a.tmod b))
    | .and => q = r ∧ k (.int q (bitI .and q a b))
    | .or => q = r ∧ k (.int q (bitI .or q a b))
    | .xor => q = r ∧ k (.int q (bitI .xor q a b))
    | .andNot => q = r ∧ k (.int q (bitI .andNot q a b))
    | .eql => q = r ∧ k (.bool (decide (a = b)))
    | .neq => q = r ∧ k (.bool (!decide (a = b)))
    | .lss => q = r ∧ k (.bool (decide (a < b)))
    | .leq => q = r ∧ k (.bool (decide (a ≤ b)))
    | .gtr => q = r ∧ k (.bool (decide (a > b)))
    | .geq => q = r ∧ k (.bool (decide (a ≥ b)))
  | .string a, .string b => match op with
    | .add => ((a.size + b.size : Nat) : Int) ≤ 9223372036854775807 ∧ k (.string (a ++ b))
    | .eql => k (.bool (strEq a b))
    | .neq => k (.bool (!strEq a b))
    | _ => False
  | .agg a, .agg b => TakeU P w (do eqGuard op T x y (.agg a) (.agg b); binOp op T (.agg a) (.agg b)) k
  | _, _ => match op with
    | .eql => match eqV P T v u with | some b => k (.bool b) | none => False
    | .neq => match eqV P T v u with | some b => k (.bool (!b)) | none => False
    | _ => False

theorem eqV_run {P : Program} {T : TypeId} {v u : Value} {b : Bool} (h : eqV P T v u = some b) (d : Nat) (w : World) : (Op.equalIn (d + 1) T v u).run P w = .ok b w := by
  unfold eqV at h
  have hp : isPtrT P T = true → ∃ e, P.underlying T = some (.pointer e) := by
    unfold isPtrT; split <;> simp_all
  have hs : isSliceT P T = true → ∃ e, P.underlying T = some (.slice e) := by
    unfold isSliceT; split <;> simp_all
  have hm : isMapT P T = true → ∃ k e, P.underlying T = some (.map k e) := by
    unfold isMapT; split <;> simp_all
  have hb : isBoolT P T = true → P.underlying T = some .bool := by
    unfold isBoolT; split <;> simp_all
  split at h <;> (try (split at h)) <;> (try cases h)
  · rename_i h1; simp only [Op.equalIn, Bind.bind, Pure.pure, run_bind, run_underlying' (hb h1), Sem.run]
  · rename_i h1; obtain ⟨e, he⟩ := hp h1; simp only [Op.equalIn, Bind.bind, Pure.pure, run_bind, run_underlying' he, Sem.run]
  · rename_i h1; obtain ⟨e, he⟩ := hp h1; simp only [Op.equalIn, Bind.bind, Pure.pure, run_bind, run_underlying' he, Sem.run]
  · rename_i h1; obtain ⟨e, he⟩ := hs h1; simp only [Op.equalIn, Bind.bind, Pure.pure, run_bind, run_underlying' he, Sem.run]
  · rename_i h1; obtain ⟨e, he⟩ := hs h1; simp only [Op.equalIn, Bind.bind, Pure.pure, run_bind, run_underlying' he, Sem.run]
  · rename_i h1; obtain ⟨q, e, he⟩ := hm h1; simp only [Op.equalIn, Bind.bind, Pure.pure, run_bind, run_underlying' he, Sem.run]
  · rename_i h1; obtain ⟨q, e, he⟩ := hm h1; simp only [Op.equalIn, Bind.bind, Pure.pure, run_bind, run_underlying' he, Sem.run]
theorem eqV_equal {P : Program} {T : TypeId} {v u : Value} {b : Bool} (h : eqV P T v u = some b) (w : World) : (Op.equal T v u).run P w = .ok b w := eqV_run h 9999 w
theorem eqV_guard {P : Program} {T : TypeId} {v u : Value} {b : Bool} (h : eqV P T v u = some b) (op : BinOp) (x y : Operand) : eqGuard op T x y v u = pure () := by
  unfold eqV at h
  split at h <;> (try (split at h)) <;> (try cases h) <;> cases op <;> rfl
theorem eqV_eql {P : Program} {T : TypeId} {v u : Value} {b : Bool} (h : eqV P T v u = some b) : binOp .eql T v u = (do pure (.bool (← Op.equal T v u))) ∧ binOp .neq T v u = (do pure (.bool (!(← Op.equal T v u)))) := by
  unfold eqV at h
  split at h <;> (try (split at h)) <;> (try cases h) <;> exact ⟨rfl, rfl⟩
theorem max64 : IntKind.i64.max = 9223372036854775807 := by decide
theorem guard_int (op : BinOp) (T : TypeId) (x y : Operand) (q r : IntKind) (a b : Int) : eqGuard op T x y (.int q a) (.int r b) = pure () := by cases op <;> rfl
theorem guard_string (op : BinOp) (T : TypeId) (x y : Operand) (a b : ByteArray) : eqGuard op T x y (.string a) (.string b) = pure () := by cases op <;> rfl
theorem binV_sound {P : Program} {w : World} {op : BinOp} {T : TypeId} {x y : Operand} {v u : Value} {k : Value → Prop} (h : binV P w op T x y v u k) :
    ∃ r, (∀ w', Up w w' → (do eqGuard op T x y v u; binOp op T v u : Sem Value).run P w' = .ok r w') ∧ k r := by
  unfold binV at h
  split at h
  · rename_i q a r b
    cases op <;> simp only at h
    case shl => exact ⟨_, fun w' _ => by simp only [guard_int, Bind.bind, Pure.pure, Sem.bind, binOp, Op.shift]; rw [if_neg (by omega)]; rfl, h.2⟩
    case shr => exact ⟨_, fun w' _ => by simp only [guard_int, Bind.bind, Pure.pure, Sem.bind, binOp, Op.shift]; rw [if_neg (by omega)]; rfl, h.2⟩
    case quo => obtain ⟨rfl, h0, h⟩ := h; exact ⟨_, fun w' _ => by simp only [guard_int, Bind.bind, Pure.pure, Sem.bind, binOp, Op.intDiv]; rw [if_neg (by simp), if_neg h0]; rfl, h⟩
    case rem => obtain ⟨rfl, h0, h⟩ := h; exact ⟨_, fun w' _ => by simp only [guard_int, Bind.bind, Pure.pure, Sem.bind, binOp, Op.intDiv]; rw [if_neg (by simp), if_neg h0]; rfl, h⟩
    case eql => obtain ⟨rfl, h⟩ := h; exact ⟨_, fun w' _ => by simp only [guard_int, Bind.bind, Pure.pure, Sem.bind, binOp, Op.intCmp]; rw [if_neg (by simp)]; rfl, h⟩
    case neq => obtain ⟨rfl, h⟩ := h; exact ⟨_, fun w' _ => by simp only [guard_int, Bind.bind, Pure.pure, Sem.bind, binOp, Op.intCmp]; rw [if_neg (by simp)]; rfl, h⟩
    all_goals (obtain ⟨rfl, h⟩ := h; exact ⟨_, fun w' _ => by simp only [guard_int, Bind.bind, Pure.pure, Sem.bind, binOp]; rw [if_neg (by simp)]; rfl, h⟩)
  · rename_i a b
    cases op <;> simp only at h
    case add => exact ⟨_, fun w' _ => by simp only [guard_string, Bind.bind, Pure.pure, Sem.bind, binOp, Op.stringOp]; rw [if_neg (by rw [max64]; have := h.1; omega)]; rfl, h.2⟩
    case eql => exact ⟨_, fun w' _ => by simp only [guard_string, Bind.bind, Pure.pure, Sem.bind, binOp, Op.stringOp]; rfl, h⟩
    case neq => exact ⟨_, fun w' _ => by simp only [guard_string, Bind.bind, Pure.pure, Sem.bind, binOp, Op.stringOp]; rfl, h⟩
    all_goals exact h.elim
  · exact h
  · cases op <;> simp only at h
    case eql =>
      split at h
      · rename_i b hb
        exact ⟨_, fun w' _ => by rw [eqV_guard hb, (eqV_eql hb).1]; simp only [Bind.bind, Pure.pure, Sem.bind, run_bind, eqV_equal hb]; rfl, h⟩
      · exact h.elim
    case neq =>
      split at h
      · rename_i b hb
        exact ⟨_, fun w' _ => by rw [eqV_guard hb, (eqV_eql hb).2]; simp only [Bind.bind, Pure.pure, Sem.bind, run_bind, eqV_equal hb]; rfl, h⟩
      · exact h.elim
    all_goals exact h.elim


def unV (op : UnOp) (v : Value) (k : Value → Prop) : Prop := match op, v with
  | .not, .bool b => k (.bool (!b))
  | .neg, .int q n => k (.int q (q.wrap (0 - n)))
  | .xor, .int q n => k (.int q (bitI .xor q (if q.signed then -1 else q.max) n))
  | _, _ => False
theorem unV_sound {P : Program} {op : UnOp} {v : Value} {k : Value → Prop} (h : unV op v k) : ∃ r, (∀ w, (Op.unary op v).run P w = .ok r w) ∧ k r := by
  unfold unV at h
  split at h
  · exact ⟨_, fun w => rfl, h⟩
  · exact ⟨_, fun w => rfl, h⟩
  · exact ⟨_, fun w => rfl, h⟩
  · exact h.elim
def intT (P : Program) (T : TypeId) : Option IntKind := match P.underlying T with | some (.int q) => some q | _ => none
def isStringT (P : Program) (T : TypeId) : Bool := match P.underlying T with | some .string => true | _ => false
def convV (P : Program) (w : World) (s d : TypeId) (v : Value) (k : Value → Prop) : Prop := match v with
  | .int _ n => match intT P d with
    | some q => (P.underlying s).isSome = true ∧ k (.int q (q.wrap n))
    | none => False
  | .string x => match isStringT P d with
    | true => (P.underlying s).isSome = true ∧ k (.string x)
    | false => False
  | v => TakeU P w (convert s d v) k
theorem convV_sound {P : Program} {w : World} {s d : TypeId} {v : Value} {k : Value → Prop} (h : convV P w s d v k) : ∃ r, (∀ w', Up w w' → (convert s d v).run P w' = .ok r w') ∧ k r := by
  unfold convV at h
  split at h
  · rename_i q n
    split at h
    · rename_i q' hq
      obtain ⟨ds, hs⟩ := Option.isSome_iff_exists.1 h.1
      have hd : P.underlying d = some (.int q') := by
        unfold intT at hq
        split at hq
        · rename_i q'' hu; cases hq; exact hu
        · cases hq
      refine ⟨_, fun w' _ => ?_, h.2⟩
      simp only [convert, Bind.bind, Pure.pure, run_bind, run_underlying' hs, run_underlying' hd]
      rfl
    · exact h.elim
  · rename_i x
    split at h
    · rename_i hq
      obtain ⟨ds, hs⟩ := Option.isSome_iff_exists.1 h.1
      have hd : P.underlying d = some .string := by
        unfold isStringT at hq
        split at hq
        · rename_i hu; exact hu
        · cases hq
      refine ⟨_, fun w' _ => ?_, h.2⟩
      simp only [convert, Bind.bind, Pure.pure, run_bind, run_underlying' hs, run_underlying' hd, Sem.run]
    · exact h.elim
  · exact h
/-- The bounds of 'x[lo:hi]', cap at most: lo, hi, and what they hold to. -/
def bndF (lo hi : Option Value) (len cap : Nat) (f : Nat → Nat → Prop) : Prop :=
  match hi with
  | none => match lo with
    | none => f 0 len
    | some (.int _ l) => (0 ≤ l ∧ l ≤ (len : Int)) ∧ f l.toNat len
    | _ => False
  | some (.int _ h) => match lo with
    | none => (0 ≤ h ∧ h ≤ (cap : Int)) ∧ f 0 h.toNat
    | some (.int _ l) => (0 ≤ h ∧ h ≤ (cap : Int)) ∧ (0 ≤ l ∧ l ≤ h) ∧ f l.toNat h.toNat
    | _ => False
  | _ => False
theorem bndF_run {P : Program} {lo hi : Option Value} {len cap : Nat} {f : Nat → Nat → Prop} (h : bndF lo hi len cap f) (b : Bool) :
    ∃ l u, (∀ w, (Instr.sliceBounds b len cap lo hi none).run P w = .ok (l, u, cap) w) ∧ f l u := by
  unfold bndF at h
  split at h
  · split at h
    · exact ⟨0, len, fun w => rfl, h⟩
    · rename_i q l
      refine ⟨_, _, fun w => ?_, h.2⟩
      simp only [Instr.sliceBounds, Instr.sliceBound, asIntOf, Bind.bind, Pure.pure, Sem.bind]
      rw [if_pos h.1]
      rfl
    · exact h.elim
  · rename_i q hh
    split at h
    · refine ⟨_, _, fun w => ?_, h.2⟩
      simp only [Instr.sliceBounds, Instr.sliceBound, asIntOf, Bind.bind, Pure.pure, Sem.bind]
      rw [if_pos h.1]
      rfl
    · rename_i q2 l
      refine ⟨_, _, fun w => ?_, h.2.2⟩
      simp only [Instr.sliceBounds, Instr.sliceBound, asIntOf, Bind.bind, Pure.pure, Sem.bind]
      rw [if_pos h.1]
      simp only [Sem.bind]
      rw [if_pos ⟨h.2.1.1, by have := h.2.1.2; omega⟩]
      rfl
    · exact h.elim
  · exact h.elim
def sliceV (P : Program) (T : TypeId) (v : Value) (lo hi mx : Option Value) (k : Value → Prop) : Prop :=
  match mx, v with
  | none, .string s => match isStringT P T with
    | true => bndF lo hi s.size s.size fun l u => k (.string (s.extract l u))
    | false => False
  | none, .slice a n c => match sliceEl P T with
    | some z => bndF lo hi n c fun l u => k (.slice (if c = l then a else a.map (·.add (l * z))) (u - l) (c - l))
    | none => False
  | none, .pointer (some a) => match arrayEl P T with
    | some (n, z) => bndF lo hi n n fun l u => k (.slice (some (if n = l then a else a.add (l * z))) (u - l) (n - l))
    | none => False
  | _, _ => False
theorem sliceV_sound {P : Program} {T : TypeId} {v : Value} {lo hi mx : Option Value} {k : Value → Prop} (h : sliceV P T v lo hi mx k) : ∃ r, (∀ w, (Instr.sliceAt T v lo hi mx).run P w = .ok r w) ∧ k r := by
  unfold sliceV at h
  split at h
  · rename_i s
    split at h
    · rename_i hq
      have hd : P.underlying T = some .string := by
        unfold isStringT at hq
        split at hq
        · rename_i hu; exact hu
        · cases hq
      obtain ⟨l, u, hr, hk⟩ := bndF_run (P := P) h false
      refine ⟨_, fun w => ?_, hk⟩
      simp only [Instr.sliceAt, Instr.slice, Bind.bind, Pure.pure, run_bind, run_underlying' hd, hr, Sem.run, Option.isSome_none, Bool.false_eq_true, if_false]
    · exact h.elim
  · rename_i a n c
    split at h
    · rename_i z hz
      unfold sliceEl at hz
      split at hz
      · rename_i e he
        obtain ⟨ti, hti, rfl⟩ := Option.map_eq_some_iff.1 hz
        obtain ⟨l, u, hr, hk⟩ := bndF_run (P := P) h true
        refine ⟨_, fun w => ?_, hk⟩
        simp only [Instr.sliceAt, Instr.slice, Bind.bind, Pure.pure, run_bind, run_underlying' he, hr, run_sizeOf' hti, Sem.run]
      · cases hz
    · exact h.elim
  · rename_i a
    split at h
    · rename_i n z hz
      unfold arrayEl at hz
      split at hz
      · rename_i m e he
        obtain ⟨ti, hti, hh⟩ := Option.map_eq_some_iff.1 hz
        cases hh
        obtain ⟨l, u, hr, hk⟩ := bndF_run (P := P) h false
        refine ⟨_, fun w => ?_, hk⟩
        simp only [Instr.sliceAt, Instr.sureAddr, Bind.bind, Pure.pure, run_bind, run_underlying' he, hr, run_sizeOf' hti, Sem.run]
      · cases hz
    · exact h.elim
  · exact h.elim
def mmV (mx : Bool) (vs : List Value) (k : Value → Prop) : Prop :=
  match vs with
  | [.int q a, .int _ b] => k (.int q (match mx with | true => max a b | false => min a b))
  | [.int q a, .int _ b, .int _ c] => k (.int q (match mx with | true => max (max a b) c | false => min (min a b) c))
  | _ => False
theorem max_if (x y : Int) : (if y > x then y else x) = max x y := by rw [Int.max_def]; split <;> split <;> omega
theorem min_if (x y : Int) : (if y < x then y else x) = min x y := by rw [Int.min_def]; split <;> split <;> omega
theorem mmV_sound {P : Program} {ts : Array TypeId} {T : TypeId} {vs : List Value} {k : Value → Prop} :
    (mmV true vs k → ∃ r, (∀ w, (Builtin.max_ ts T vs.toArray).run P w = .ok r w) ∧ k r) ∧ (mmV false vs k → ∃ r, (∀ w, (Builtin.min_ ts T vs.toArray).run P w = .ok r w) ∧ k r) := by
  constructor <;> intro h <;> unfold mmV at h <;> split at h <;> (try exact h.elim) <;> refine ⟨_, fun w => ?_, h⟩
  · simp [Builtin.max_, Builtin.max2, Pure.pure, Bind.bind, Sem.bind, Sem.run, max_if]
  · simp [Builtin.max_, Builtin.max2, Pure.pure, Bind.bind, Sem.bind, Sem.run, max_if]
  · simp [Builtin.min_, Builtin.min2, Pure.pure, Bind.bind, Sem.bind, Sem.run, min_if]
  · simp [Builtin.min_, Builtin.min2, Pure.pure, Bind.bind, Sem.bind, Sem.run, min_if]
def lenV (P : Program) (w : World) (ts : Array TypeId) (T : TypeId) (vs : List Value) (k : Value → Prop) : Prop :=
  match ts.toList, vs with
  | [t], [.string s] => isStringT P t = true ∧ k (.int .i64 s.size)
  | [t], [.slice _ n _] => isSliceT P t = true ∧ k (.int .i64 n)
  | _, _ => TakeU P w (Builtin.len_ ts T vs.toArray) k
theorem lenV_sound {P : Program} {w : World} {ts : Array TypeId} {T : TypeId} {vs : List Value} {k : Value → Prop} (h : lenV P w ts T vs k) : ∃ r, (∀ w', Up w w' → (Builtin.len_ ts T vs.toArray).run P w' = .ok r w') ∧ k r := by
  obtain ⟨ts⟩ := ts
  unfold lenV at h
  split at h
  · rename_i t s hts
    simp only at hts; subst hts
    have hd : P.underlying t = some .string := by
      have hq := h.1
      unfold isStringT at hq
      split at hq
      · rename_i hu; exact hu
      · cases hq
    refine ⟨_, fun w' _ => ?_, h.2⟩
    simp [Builtin.len_, Bind.bind, Pure.pure, run_bind, run_underlying' hd, Sem.run, goInt]
  · rename_i t a n c hts
    simp only at hts; subst hts
    have hd : ∃ e, P.underlying t = some (.slice e) := by
      have hq := h.1
      unfold isSliceT at hq
      split at hq
      · rename_i e hu; exact ⟨e, hu⟩
      · cases hq
    obtain ⟨e, hd⟩ := hd
    refine ⟨_, fun w' _ => ?_, h.2⟩
    simp [Builtin.len_, Bind.bind, Pure.pure, run_bind, run_underlying' hd, Sem.run, goInt]
  · exact h
def indexV (P : Program) (T : TypeId) (x i : Value) (k : Value → Prop) : Prop := match x, i with
  | .string s, .int _ i => isStringT P T = true ∧ (0 ≤ i ∧ i < (s.size : Int)) ∧ k (.int .u8 (bAt s i))
  | .agg cs, .int _ i => match arrayEl P T with
    | some (n, 1) => (0 ≤ i ∧ i < (n : Int)) ∧ match cs[i.toNat]? with | some v => (∀ e, P.underlying T = some (.array n e) → tyOf P e = some (false, 1)) ∧ k v | none => False
    | _ => False
  | _, _ => False
theorem indexV_sound {P : Program} {T : TypeId} {x i : Value} {k : Value → Prop} (h : indexV P T x i k) : ∃ r, (∀ w, (Instr.index T x i).run P w = .ok r w) ∧ k r := by
  unfold indexV at h
  split at h
  · rename_i s q i
    obtain ⟨hq, h1, hk⟩ := h
    have hd : P.underlying T = some .string := by
      unfold isStringT at hq
      split at hq
      · rename_i hu; exact hu
      · cases hq
    refine ⟨_, fun w => ?_, hk⟩
    have hlt : i.toNat < s.size := by omega
    have e : s[i.toNat]? = some s[i.toNat] := by simp [hlt]
    simp only [Instr.index, asIntOf, Bind.bind, Pure.pure, Sem.bind, run_bind, run_underlying' hd, if_pos h1.1, e, Sem.run]
    have e2 : (s[i.toNat].toNat : Int) = bAt s i := by
      unfold bAt
      rw [List.getD_eq_getElem?_getD]
      have hl : i.toNat < s.data.toList.length := by simpa using hlt
      rw [List.getElem?_eq_getElem hl]
      rfl
    rw [e2]
  · rename_i cs q i
    split at h
    · rename_i n hz
      obtain ⟨h1, h⟩ := h
      split at h
      · rename_i v hv
        unfold arrayEl at hz
        split at hz
        · rename_i m e he
          obtain ⟨ti, hti, hh⟩ := Option.map_eq_some_iff.1 hz
          obtain ⟨rfl, hts⟩ : m = n ∧ ti.size = 1 := by simpa using hh
          have hty := h.1 e he
          refine ⟨_, fun w => ?_, h.2⟩
          simp only [Instr.index, asIntOf, Bind.bind, Pure.pure, Sem.bind, run_bind, run_underlying' he, Sem.run]
          rw [if_pos h1]
          simp only [run_bind, (tyOf_run hty w).2, part, (tyOf_run hty w).1, Bind.bind, Pure.pure, Nat.mul_one, hv, Bool.false_eq_true, if_false, Sem.run]
        · cases hz
      · exact h.elim
    · exact h.elim
  · exact h.elim
def extractV (v : Value) (i : Nat) (k : Value → Prop) : Prop := match v with
  | .tuple vs => match vs[i]? with | some u => k u | none => False
  | _ => False
theorem extractV_sound {P : Program} {v : Value} {i : Nat} {k : Value → Prop} (h : extractV v i k) : ∃ r, (∀ w, (Instr.extract v i).run P w = .ok r w) ∧ k r := by
  unfold extractV at h
  split at h
  · rename_i vs
    split at h
    · rename_i u hu
      exact ⟨u, fun w => by simp only [Instr.extract, hu]; rfl, h⟩
    · exact h.elim
  · exact h.elim


/-! ### One operation that only yields -/
def TakeP (P : Program) (s : Sem Value) (k : Value → Prop) : Prop := ∃ v, (∀ w, s.run P w = .ok v w) ∧ k v
def fldV (P : Program) (T : TypeId) (i : Nat) (v : Value) (k : Value → Prop) : Prop := TakeP P (Instr.field T v i) k
/-- It yields, whatever the world. -/
def valF (P : Program) (w : World) (E : List (Nat × Value)) (o : Oper) (k : Value → Prop) : Prop :=
  match o.op with
  | .move x | .assign x => withV E x fun v => k v
  | .pick c a b => withV E c fun cv => match cv with
    | .bool true => withV E a fun v => k v
    | .bool false => withV E b fun v => k v
    | _ => False
  | .load t x => withV E x fun v => match v with
    | .pointer (some ⟨b, o, none⟩) => loadV (tyOf P t) w.heap[b]? o k
    | _ => False
  | .lookup t x y ok => withV E x fun m => withV E y fun i => TakeU P w (Instr.lookup t m i ok) k
  | .build t ps => withP E ps.toList fun vs => TakeP P (Instr.build t vs.toArray) k
  | .fieldAddr t x i => withV E x fun v => match v with
    | .pointer (some a) => match fieldOff P t i with | some off => k (.pointer (some (a.add off))) | none => False
    | _ => False
  | .field t x i => withV E x fun v => fldV P t i v k
  | .indexAddr t x y => withV E x fun v => withV E y fun i => idxV P t v i k
  | .index t x y => withV E x fun v => withV E y fun i => indexV P t v i k
  | .extract x i => withV E x fun v => extractV v i k
  | .binOp op t x y _ => withV E x fun v => withV E y fun u => binV P w op t x y v u k
  | .unOp op _ x => withV E x fun v => unV op v k
  | .convert s d x => withV E x fun v => convV P w s d v k
  | .slice t x lo hi mx => withV E x fun v => withO E lo fun lo => withO E hi fun hi => withO E mx fun mx => sliceV P t v lo hi mx k
  | .nilCheck x => withV E x fun v => match v with
    | .pointer (some a) => k (.pointer (some a))
    | .map m => k (.map m)
    | .slice a n c => k (.slice a n c)
    | _ => False
  | .call c => match c.callee with
    | .builtin .len => withL E c.args.toList fun vs => lenV P w c.argTypes o.type vs k
    | .builtin .max => withL E c.args.toList fun vs => mmV true vs k
    | .builtin .min => withL E c.args.toList fun vs => mmV false vs k
    | _ => False
  | _ => False
def needsS : Op → Bool
  | .load .. | .lookup .. | .convert .. => true
  | .binOp .. => true
  | .call c => match c.callee with | .builtin .len => true | _ => false
  | _ => false

theorem run_ok_value {P : Program} {s : Sem Value} {w : World} {v : Value} (h : s.run P w = .ok v w) : (do pure (.value (← s)) : Sem Next).run P w = .ok (.value v) w := by
  rw [run_value, h]

theorem valF_sound {P : Program} {n : Nat} {w : World} {E : List (Nat × Value)} {o : Oper} {a : Act} {k : Value → Prop} (hE : Holds n E a) (h : valF P w E o k) :
    ∃ v, (∀ w', (needsS o.op = true → Up w w') → (execOp a.eval o).run P w' = .ok (.value v) w') ∧ k v := by
  obtain ⟨dst, op, type, pos, after, guard⟩ := o
  have tp : ∀ {s : Sem Value}, (∃ v, (∀ w, s.run P w = .ok v w) ∧ k v) → ∃ v, (∀ w', (needsS op = true → Up w w') → (do pure (.value (← s)) : Sem Next).run P w' = .ok (.value v) w') ∧ k v :=
    fun ⟨v, hv, hk⟩ => ⟨v, fun w _ => run_ok_value (hv w), hk⟩
  have ts : ∀ {s : Sem Value}, needsS op = true → (∃ v, (∀ w', Up w w' → s.run P w' = .ok v w') ∧ k v) → ∃ v, (∀ w', (needsS op = true → Up w w') → (do pure (.value (← s)) : Sem Next).run P w' = .ok (.value v) w') ∧ k v :=
    fun hn ⟨v, hv, hk⟩ => ⟨v, fun w hw => run_ok_value (hv w (hw hn)), hk⟩
  cases op <;> simp only [valF] at h <;> simp only [execOp]
  case move x => exact ⟨_, fun w _ => rfl, withV_elim hE h⟩
  case assign x => exact ⟨_, fun w _ => rfl, withV_elim hE h⟩
  case pick c x y =>
    have h := withV_elim hE h
    split at h
    · rename_i hc; rw [hc]; exact ⟨_, fun w _ => rfl, withV_elim hE h⟩
    · rename_i hc; rw [hc]; exact ⟨_, fun w _ => rfl, withV_elim hE h⟩
    · exact h.elim
  case load t x =>
    have h := withV_elim hE h
    split at h
    · rename_i b o hx; rw [hx]; exact ts rfl (loadV_sound h)
    · exact h.elim
  case lookup t x y ok => exact ts rfl (withV_elim hE (withV_elim hE h))
  case build t ps =>
    have h := withP_elim hE _ h
    have e : (ps.map fun p => (p.1, a.eval p.2)) = (ps.toList.map fun p => (p.1, a.eval p.2)).toArray := by rw [← Array.toList_map]
    rw [e]
    exact tp h
  case fieldAddr t x i =>
    have h := withV_elim hE h
    split at h
    · rename_i a' hx
      split at h
      · rename_i off ho; rw [hx]; exact tp ⟨_, fieldOff_run ho a', h⟩
      · exact h.elim
    · exact h.elim
  case field t x i => exact tp (withV_elim hE h)
  case indexAddr t x y => exact tp (idxV_sound (withV_elim hE (withV_elim hE h)))
  case index t x y => exact tp (indexV_sound (withV_elim hE (withV_elim hE h)))
  case extract x i => exact tp (extractV_sound (withV_elim hE h))
  case binOp op t x y u => exact ts rfl (binV_sound (withV_elim hE (withV_elim hE h)))
  case unOp op t x => exact tp (unV_sound (withV_elim hE h))
  case convert s d x => exact ts rfl (convV_sound (withV_elim hE h))
  case slice t x lo hi mx => exact tp (sliceV_sound (withO_elim hE (withO_elim hE (withO_elim hE (withV_elim hE h)))))
  case nilCheck x =>
    have h := withV_elim hE h
    generalize a.eval x = v at h ⊢
    cases v <;> try exact h.elim
    · rename_i p; cases p
      · exact h.elim
      · exact ⟨_, fun w _ => rfl, h⟩
    · exact ⟨_, fun w _ => rfl, h⟩
    · exact ⟨_, fun w _ => rfl, h⟩
  case call c =>
    obtain ⟨callee, args, argTypes⟩ := c
    have hargs : ∀ {f : List Value → Prop}, withL E args.toList f → f (args.map a.eval).toList := fun h => by
      have := withL_elim hE _ h
      rwa [← Array.toList_map] at this
    cases callee with
    | value x => exact h.elim
    | invoke r m => exact h.elim
    | builtin b =>
      cases b
      case len => exact ts rfl (lenV_sound (hargs h))
      case max => exact tp ((mmV_sound (ts := argTypes) (T := type)).1 (hargs h))
      case min => exact tp ((mmV_sound (ts := argTypes) (T := type)).2 (hargs h))
      all_goals exact False.elim h
  all_goals exact False.elim h

/-! ### One operation, whatever it does -/
/-- A new block. -/
def newF (T : TypeId) (cs : Array Value) (w : World) (k : Nat → World → Prop) : Prop :=
  ∀ b w', b = w.heap.size → w'.heap.size = b + 1 → Up w w' → w'.heap[b]? = some (.cells cs T) → k b w'
theorem newF_run {T : TypeId} {cs : Array Value} {w : World} {k : Nat → World → Prop} (h : newF T cs w k) : k w.heap.size { w with heap := w.heap.push (.cells cs T) } := by
  refine h _ _ rfl (by simp) ⟨rfl, rfl, rfl, by simp, fun i hi _ => ?_⟩ (by simp)
  simp only
  rw [Array.getElem?_push, if_neg (by omega)]
def zeroOf (P : Program) (T : TypeId) : Option Value := match P.info? T with | some i => i.zero | none => none
theorem zeroOf_run {P : Program} {T : TypeId} {z : Value} (h : zeroOf P T = some z) (w : World) : (zeroValue T).run P w = .ok z w := by
  unfold zeroOf at h
  split at h
  · rename_i i hi
    simp only [zeroValue, Bind.bind, run_bind, run_typeInfo' hi, h]
    rfl
  · cases h
def wr (cs : List Value) (o : Nat) : List Value → List Value
  | [] => cs
  | v :: vs => wr (cs.set o v) (o + 1) vs
/-- But for block b, all is as it was; no block is new. -/
abbrev Ux (b : Nat) (w w' : World) : Prop := Kp (fun i => i = b) w w'
def one' (v : Value) : Bool := match v with | .agg _ | .tuple _ => false | _ => true
def storeF (P : Program) (T : TypeId) (p v : Value) (w : World) (k : World → Prop) : Prop :=
  match p with
  | .pointer (some ⟨b, o, none⟩) => match w.heap[b]? with
    | some (.cells cs U fr) => match tyOf P T with
      | some (_, n) => ((v.cells.size = n ∧ fr = (0, 0)) ∧ (o + n ≤ cs.size ∧ v.cells.all one' = true)) ∧
          ∀ w', w'.heap.size = w.heap.size → Ux b w w' → w'.heap[b]? = some (.cells (wr cs.toList o v.cells.toList).toArray U fr) → k w'
      | none => False
    | _ => False
  | _ => False
theorem run_store' {P : Program} {w : World} {b o : Nat} {cs : Array Value} {T : TypeId} {v : Value} (h : w.heap[b]? = some (.cells cs T (0, 0))) (ho : o < cs.size) (hv : one' v = true) :
    (store ⟨b, o, none⟩ v).run P w = .ok () (w.setCell ⟨b, o, none⟩ v) := by
  have hc : w.cell? ⟨b, o, none⟩ = some cs[o] := by rw [cell_of_heap h]; simp [ho]
  have hf : w.frozen? ⟨b, o, none⟩ = false := by simp [World.frozen?, h]
  cases v <;> first | (cases hv; done) | (simp [store, Sem.run, hc, hf])
theorem heap_setCell' {w : World} {b o : Nat} {cs : Array Value} {T : TypeId} {fr : Nat × Nat} {v : Value} (h : w.heap[b]? = some (.cells cs T fr)) : (w.setCell ⟨b, o, none⟩ v).heap[b]? = some (.cells (cs.setIfInBounds o v) T fr) := by
  simp [World.setCell, Array.getElem?_modify, h]
theorem setCell_ux (w : World) (b o : Nat) (v : Value) : Ux b w (w.setCell ⟨b, o, none⟩ v) := by
  refine ⟨rfl, rfl, rfl, by simp [World.setCell], fun i hi hn => ?_⟩
  simp only [World.setCell, Array.getElem?_modify]
  rw [if_neg (fun e => hn e.symm)]
theorem size_setCell (w : World) (a : Addr) (v : Value) : (w.setCell a v).heap.size = w.heap.size := by simp only [World.setCell, Array.size_modify]
theorem run_storeCells' {P : Program} {b o : Nat} {T : TypeId} (vs : List Value) : ∀ (i : Nat) (cs : Array Value) (w : World), w.heap[b]? = some (.cells cs T (0, 0)) → o + i + vs.length ≤ cs.size → vs.all one' = true →
    ∃ w', (storeCells ⟨b, o, none⟩ vs i).run P w = .ok () w' ∧ w'.heap.size = w.heap.size ∧ Ux b w w' ∧ w'.heap[b]? = some (.cells (wr cs.toList (o + i) vs).toArray T (0, 0)) := by
  induction vs with
  | nil => exact fun i cs w h _ _ => ⟨w, rfl, rfl, Kp.refl _ _, h⟩
  | cons v vs ih =>
    intro i cs w h hl hv
    rw [List.all_cons, Bool.and_eq_true] at hv
    rw [List.length_cons] at hl
    have h1 := heap_setCell' (o := o + i) (v := v) h
    obtain ⟨w', e, hs, hu, hb⟩ := ih (i + 1) (cs.setIfInBounds (o + i) v) _ h1 (by rw [Array.size_setIfInBounds]; omega) hv.2
    refine ⟨w', ?_, hs.trans (size_setCell _ _ _), (setCell_ux w b (o + i) v).trans hu, ?_⟩
    · rw [storeCells]
      simp only [Bind.bind, run_bind, add_mk, run_store' h (show o + i < cs.size by omega) hv.1]
      exact e
    · rw [hb, Array.toList_setIfInBounds, ← Nat.add_assoc]
      rfl
theorem storeF_sound {P : Program} {T : TypeId} {p v : Value} {w : World} {k : World → Prop} (h : storeF P T p v w k) : OpU P (Instr.storeAt T p v) w k := by
  unfold storeF at h
  split at h
  · rename_i b o
    split at h
    · rename_i cs U fr hb
      split at h
      · rename_i g n ht
        obtain ⟨⟨⟨h1, rfl⟩, h2, h3⟩, hk⟩ := h
        obtain ⟨w', e, hs, hu, hb'⟩ := run_storeCells' (P := P) (o := o) v.cells.toList 0 cs w hb (by simp; omega) (by simpa using h3)
        unfold OpU
        simp only [Instr.storeAt, Instr.sureAddr, storeVar, Bind.bind, Pure.pure, Sem.bind, run_bind, (tyOf_run ht w).2]
        rw [if_neg (by simpa using h1)]
        simp only [Sem.bind, run_bind, Sem.run, e]
        exact hk w' hs hu (by simpa using hb')
      · exact h.elim
    · exact h.elim
  · exact h.elim
/-- The parts of a literal, one behind the other, each of s cells. -/
def rowOf (s : Nat) : Nat → List (Nat × Value) → Option (List Value)
  | _, [] => some []
  | i, (j, v) :: r => match Nat.beq i j, Nat.beq v.cells.size s with
    | true, true => match rowOf s (i + 1) r with | some l => some (v.cells.toList ++ l) | none => none
    | _, _ => none
def sliceElT (P : Program) (T : TypeId) : Option TypeId := match P.underlying T with | some (.slice e) => some e | _ => none
def buildF (P : Program) (T : TypeId) (n : Nat) (vs : List (Nat × Value)) (w : World) (k : Value → World → Prop) : Prop :=
  match sliceElT P T with
  | some e => match sliceEl P T with
    | some s => match rowOf s 0 vs with
      | some l => (Nat.beq vs.length n = true ∧ decide (n * s ≤ 16777216) = true ∧ (zeroOf P e).isSome = true) ∧ newF e l.toArray w fun b w' => k (.slice (some ⟨b, 0, none⟩) n n) w'
      | none => False
    | none => False
  | none => False

theorem getD_wr {d : Value} : ∀ (vs cs : List Value) (o : Nat), (wr cs o vs).length = cs.length
  | [], cs, o => rfl
  | v :: vs, cs, o => by rw [wr, getD_wr vs, List.length_set]; exact d
theorem foldl_set (off : Nat) : ∀ (vs : List Value) (j : Nat) (cs : Array Value), (vs.zipIdx j).foldl (fun cs (x : Value × Nat) => cs.setIfInBounds (off + x.2) x.1) cs = (wr cs.toList (off + j) vs).toArray
  | [], j, cs => rfl
  | v :: vs, j, cs => by
    rw [List.zipIdx_cons, List.foldl_cons, foldl_set off vs, Array.toList_setIfInBounds]
    rfl
theorem wr_mid : ∀ (vs pre mid post : List Value), mid.length = vs.length → wr (pre ++ mid ++ post) pre.length vs = pre ++ vs ++ post
  | [], pre, [], post, _ => by simp [wr]
  | [], pre, _ :: _, post, h => by cases h
  | v :: vs, pre, [], post, h => by cases h
  | v :: vs, pre, m :: mid, post, h => by
    have e : (pre ++ m :: mid ++ post).set pre.length v = (pre ++ [v]) ++ mid ++ post := by
      rw [List.append_assoc, List.set_append_right _ _ (Nat.le_refl _), Nat.sub_self]
      simp
    have hl : (pre ++ [v]).length = pre.length + 1 := by simp
    rw [wr, e, ← hl, wr_mid vs (pre ++ [v]) mid post (by simpa using h)]
    simp
theorem rowOf_fill {s : Nat} : ∀ (vs : List (Nat × Value)) (i : Nat) (l : List Value), rowOf s i vs = some l → ∀ (pre post : List Value), pre.length = i * s → post.length = vs.length * s →
    Instr.fill (fun i => some (i * s, s)) (pre ++ post).toArray vs = some (pre ++ l).toArray := by
  intro vs
  induction vs with
  | nil =>
    intro i l h pre post hpre hpost
    simp only [rowOf, Option.some.injEq] at h
    subst h
    have : post = [] := List.eq_nil_of_length_eq_zero (by simpa using hpost)
    subst this
    rfl
  | cons p r ih =>
    obtain ⟨j, v⟩ := p
    intro i l h pre post hpre hpost
    simp only [rowOf] at h
    split at h
    · rename_i hj hv
      have hj := Nat.eq_of_beq_eq_true hj
      have hv := Nat.eq_of_beq_eq_true hv
      subst hj
      split at h
      · rename_i l' hl'
        cases h
        have hp : s ≤ post.length := by rw [hpost, List.length_cons]; exact Nat.le_mul_of_pos_left _ (by omega)
        have hsz : (pre ++ post).toArray.size = i * s + post.length := by simp [hpre]
        simp only [Instr.fill]
        have hc : ¬ ((decide (v.cells.size ≠ s) || decide (i * s + v.cells.size > (pre ++ post).toArray.size)) = true) := by
          rw [hsz, hv]
          simp
          omega
        rw [if_neg hc]
        have e1 : (v.cells.zipIdx.foldl (fun cs (c, j) => cs.setIfInBounds (i * s + j) c) (pre ++ post).toArray) = (pre ++ v.cells.toList ++ post.drop s).toArray := by
          have h1 := foldl_set (i * s) v.cells.toList 0 (pre ++ post).toArray
          rw [← Array.foldl_toList, Array.toList_zipIdx]
          rw [h1]
          congr 1
          have h2 := wr_mid v.cells.toList pre (post.take s) (post.drop s) (by rw [List.length_take]; simp [hv]; omega)
          rw [List.append_assoc, List.take_append_drop, hpre] at h2
          simpa using h2
        rw [e1]
        have h3 := ih (i + 1) l' hl' (pre ++ v.cells.toList) (post.drop s) (by simp [hpre, hv, Nat.succ_mul]) (by rw [List.length_drop, hpost, List.length_cons, Nat.succ_mul]; omega)
        rw [h3]
        simp
      · cases h
    · cases h
theorem buildF_sound {P : Program} {T : TypeId} {n : Nat} {vs : List (Nat × Value)} {w : World} {k : Value → World → Prop} (h : buildF P T n vs w k) : OpM P (Instr.buildSlice T n vs.toArray) w k := by
  unfold buildF at h
  split at h
  · rename_i e he
    split at h
    · rename_i s hs
      split at h
      · rename_i l hl
        obtain ⟨⟨h1, h2, h3⟩, hk⟩ := h
        have h1 := Nat.eq_of_beq_eq_true h1
        have h2 := of_decide_eq_true h2
        obtain ⟨z, hz⟩ := Option.isSome_iff_exists.1 h3
        have hu : P.underlying T = some (.slice e) := by
          unfold sliceElT at he
          split at he
          · rename_i e' hu; cases he; exact hu
          · cases he
        have hsz : ∃ ti, P.info? e = some ti ∧ ti.size = s := by
          unfold sliceEl at hs
          rw [hu] at hs
          obtain ⟨ti, hti, hh⟩ := Option.map_eq_some_iff.1 hs
          exact ⟨ti, hti, hh⟩
        obtain ⟨ti, hti, rfl⟩ := hsz
        unfold OpM
        have hfill : ∀ zs : Array Value, Instr.fill (fun i => some (i * ti.size, ti.size)) ((Array.range (n * ti.size)).map (zs[· % zs.size]!)) vs = some l.toArray := by
          intro zs
          have := rowOf_fill vs 0 l hl [] ((Array.range (n * ti.size)).map (zs[· % zs.size]!)).toList (by simp) (by simp [h1])
          rw [List.nil_append, List.nil_append, Array.toArray_toList] at this
          exact this
        simp only [Instr.buildSlice, newRow, newObj, Bind.bind, Pure.pure, Sem.bind, run_bind, run_underlying' hu, run_sizeOf' hti]
        rw [if_neg (by omega)]
        by_cases h0 : n * ti.size = 0
        · rw [if_pos h0]
          simp only [Sem.run, Sem.bind, hfill]
          exact newF_run hk
        · rw [if_neg h0]
          simp only [run_bind, zeroOf_run hz, Sem.run, Sem.bind, hfill]
          exact newF_run hk
      · exact h.elim
    · exact h.elim
  · exact h.elim

def opF (P : Program) (E : List (Nat × Value)) (o : Oper) (w : World) (k : Value → World → Prop) : Prop :=
  match o.op with
  | .alloc t => match zeroOf P t with
    | some z => newF t z.cells w fun b w' => k (.pointer (some ⟨b, 0, none⟩)) w'
    | none => False
  | .box t x => withV E x fun v => newF t v.cells w fun b w' => k (.pointer (some ⟨b, 0, none⟩)) w'
  | .store t x y => withV E x fun p => withV E y fun v => storeF P t p v w (k undef)
  | .buildSlice t n ps => withP E ps.toList fun vs => buildF P t n vs w k
  | .makeMap t r => withO E r fun r => OpM P (Instr.makeMap t r) w k
  | .makeSlice t l c => withV E l fun l => withV E c fun c => OpM P (Instr.makeSlice t l c) w k
  | .mapUpdate t m y x => withV E m fun m => withV E y fun y => withV E x fun x => OpU P (Instr.mapUpdate t m y x) w (k undef)
  | .mapEntry t m y => withV E m fun m => withV E y fun y => OpM P (Instr.mapEntry t m y) w k
  | .entryStore t m s x => withV E m fun m => withV E s fun s => withV E x fun x => OpU P (Instr.entryStore t m s x) w (k undef)
  | .range t x => withV E x fun v => OpM P (Instr.range t v) w k
  | .next it b => withV E it fun v => OpM P (Instr.next v b o.type) w k
  | .entry it => withV E it fun v => OpM P (Instr.entry v) w k
  | .makeFunc fn fs cs => withL E fs.toList fun fs => withL E cs.toList fun cs => OpM P (Instr.makeFunc fn fs.toArray cs.toArray) w k
  | .makeInterface t x => withV E x fun v => OpM P (Instr.makeInterface t v) w k
  | .convert s d x => withV E x fun v => match v with
    | .string x => match isStringT P d with
      | true => (P.underlying s).isSome = true ∧ k (.string x) w
      | false => OpM P (convert s d (.string x)) w k
    | v => convV P w s d v fun v => k v w
  | .call c => match c.callee with
    | .value (.func f) => withL E c.args.toList fun vs => enters P f = true ∧ CallM P f vs.toArray w k
    | .builtin .append => withL E c.args.toList fun vs => OpM P (Builtin.append_ c.argTypes o.type vs.toArray) w k
    | .builtin .copy => withL E c.args.toList fun vs => OpM P (Builtin.copy_ c.argTypes o.type vs.toArray) w k
    | .builtin .delete => withL E c.args.toList fun vs => OpM P (Builtin.delete_ c.argTypes o.type vs.toArray) w k
    | .builtin _ => valF P w E o fun v => k v w
    | .value x => withV E x fun fv => withL E c.args.toList fun vs => NextM P (do let d ← Deferred.ofValue fv vs.toArray; invoke d.target d.args) w k
    | _ => False
  | _ => valF P w E o fun v => k v w

set_option maxHeartbeats 1000000 in
theorem opF_sound {P : Program} {n : Nat} {E : List (Nat × Value)} {o : Oper} {a : Act} {w : World} {k : Value → World → Prop} {Q : Exit → Act → World → Prop} {next : Act → World → Prop}
    (hE : Holds n E a) (hk : ∀ v w', k v w' → next (a.put o.dst v) w') (h : opF P E o w k) : o.wp P a w next Q := by
  have dflt : valF P w E o (fun v => k v w) → o.wp P a w next Q := fun h => by
    obtain ⟨v, hv, hkv⟩ := valF_sound hE h
    unfold Oper.wp
    rw [hv w (fun _ => Kp.refl _ _)]
    exact hk _ _ hkv
  obtain ⟨dst, op, type, pos, after, guard⟩ := o
  have um : ∀ {s : Sem Value}, OpM P s w k → Oper.upon P ⟨dst, op, type, pos, after, guard⟩ a next Q ((do pure (.value (← s)) : Sem Next).run P w) := fun h => upon_opM (o := ⟨dst, op, type, pos, after, guard⟩) hk h
  have uu : ∀ {s : Sem Unit}, OpU P s w (k undef) → Oper.upon P ⟨dst, op, type, pos, after, guard⟩ a next Q ((do s; pure .skip : Sem Next).run P w) := fun h => upon_opU (o := ⟨dst, op, type, pos, after, guard⟩) hk h
  cases op <;> simp only [opF] at h <;> (try exact dflt h) <;> unfold Oper.wp <;> simp only [execOp]
  case alloc t =>
    refine um ?_
    split at h
    · rename_i z hz
      unfold OpM
      simp only [Instr.alloc, newVar, newRow, newObj, Bind.bind, Pure.pure, Sem.bind, run_bind, zeroOf_run hz, Sem.run]
      exact newF_run h
    · exact h.elim
  case box t x =>
    refine um ?_
    have h := withV_elim hE h
    unfold OpM
    simp only [Instr.box, newVar, newRow, newObj, Bind.bind, Pure.pure, Sem.bind, Sem.run]
    exact newF_run h
  case store t x y => exact uu (storeF_sound (withV_elim hE (withV_elim hE h)))
  case buildSlice t m ps =>
    have h := withP_elim hE _ h
    refine um ?_
    have e : (ps.map fun p => (p.1, a.eval p.2)) = (ps.toList.map fun p => (p.1, a.eval p.2)).toArray := by rw [← Array.toList_map]
    rw [e]; exact buildF_sound h
  case makeInterface t x => exact um (withV_elim hE h)
  case makeFunc fn fs cs =>
    have h := withL_elim hE _ (withL_elim hE _ h)
    refine um ?_
    rw [← Array.toList_map, ← Array.toList_map] at h
    exact h
  case makeMap t r => exact um (withO_elim hE h)
  case makeSlice t l c => exact um (withV_elim hE (withV_elim hE h))
  case mapUpdate t m y x => exact uu (withV_elim hE (withV_elim hE (withV_elim hE h)))
  case mapEntry t m y => exact um (withV_elim hE (withV_elim hE h))
  case entryStore t m s x => exact uu (withV_elim hE (withV_elim hE (withV_elim hE h)))
  case range t x => exact um (withV_elim hE h)
  case next x b => exact um (withV_elim hE h)
  case entry x => exact um (withV_elim hE h)
  case convert s d x =>
    have h := withV_elim hE h
    refine um ?_
    have cv : ∀ {v : Value}, convV P w s d v (fun v => k v w) → OpM P (convert s d v) w k := fun h => by
      obtain ⟨r, hr, hk'⟩ := convV_sound h
      unfold OpM
      rw [hr w (Kp.refl _ _)]
      exact hk'
    split at h
    · rename_i y hy
      rw [hy]
      split at h
      · rename_i hst
        exact cv (by unfold convV; simp only [hst]; exact h)
      · exact h
    · exact cv h
  case call c =>
    obtain ⟨callee, args, argTypes⟩ := c
    have hargs : ∀ {f : List Value → Prop}, withL E args.toList f → f (args.map a.eval).toList := fun h => by
      have := withL_elim hE _ h
      rwa [← Array.toList_map] at this
    have bi : ∀ {b : Builtin} {s : Sem Value}, OpM P s w k → builtin b argTypes type (args.map fun | .const _ => true | _ => false) (args.map a.eval) = (do pure (.value (← s))) →
        (⟨dst, .call ⟨.builtin b, args, argTypes⟩, type, pos, after, guard⟩ : Oper).upon P a next Q ((do let d ← resolve a.eval ⟨.builtin b, args, argTypes⟩ type; invoke d.target d.args : Sem Next).run P w) := by
      intro b s hs e
      have e2 : (do let d ← resolve a.eval ⟨.builtin b, args, argTypes⟩ type; invoke d.target d.args : Sem Next) = builtin b argTypes type (args.map fun | .const _ => true | _ => false) (args.map a.eval) := rfl
      rw [e2, e]
      exact upon_opM (o := ⟨dst, .call ⟨.builtin b, args, argTypes⟩, type, pos, after, guard⟩) hk hs
    cases callee with
    | value x =>
      cases x with
      | func f =>
        simp only at h
        have h := hargs h
        have e2 : (do let d ← resolve a.eval ⟨.value (.func f), args, argTypes⟩ type; invoke d.target d.args : Sem Next) = callFunc f (#[] ++ args.map a.eval ++ #[]) := rfl
        rw [e2, Array.append_empty, Array.empty_append, run_callFunc h.1]
        exact upon_call hk h.2
      | tmp t =>
        have h := hargs (withV_elim hE h)
        exact upon_next (o := ⟨dst, .call ⟨.value (.tmp t), args, argTypes⟩, type, pos, after, guard⟩) hk h
      | const v =>
        have h := hargs (withV_elim hE h)
        exact upon_next (o := ⟨dst, .call ⟨.value (.const v), args, argTypes⟩, type, pos, after, guard⟩) hk h
      | global g =>
        have h := hargs (withV_elim hE h)
        exact upon_next (o := ⟨dst, .call ⟨.value (.global g), args, argTypes⟩, type, pos, after, guard⟩) hk h
    | invoke r m => exact h.elim
    | builtin b =>
      cases b
      case append => exact bi (hargs h) rfl
      case copy => exact bi (hargs h) rfl
      case delete => exact bi (hargs h) rfl
      all_goals exact dflt h

/-! ### A region in the order of its text -/
def guardF (all : Array Oper) (E : List (Nat × Value)) (o : Oper) (run : List (Nat × Value) → Prop) (pass : List (Nat × Value) → Prop) : Prop :=
  match o.guard with
  | none => run E
  | some (g, want) => match (all[g]?).bind (·.dst) with
    | none => False
    | some t => match look E t with
      | some (.bool b) => (b = want → run (put E t (.bool want))) ∧ (b = !want → pass (put E t (.bool !want)))
      | some v => pass (put E t v)
      | none => False
def stepF (P : Program) (all : Array Oper) (E : List (Nat × Value)) (o : Oper) (w : World) (K : List (Nat × Value) → World → Prop) : Prop :=
  guardF all E o (fun E => opF P E o w fun v w' => K (putD E o.dst v) w') (fun E => K (putD E o.dst undef) w)
def R (P : Program) (all : Array Oper) : List Oper → List (Nat × Value) → World → (List (Nat × Value) → World → Prop) → Prop
  | [], E, w, K => K E w
  | o :: os, E, w, K => stepF P all E o w fun E' w' => R P all os E' w' K

theorem Holds.same {n : Nat} {E : List (Nat × Value)} {a : Act} (h : Holds n E a) {t : Nat} {v : Value} (hv : look E t = some v) : Holds n (put E t v) a := by
  refine ⟨h.1, h.2.1, fun u x hx => ?_⟩
  rw [look_put] at hx
  by_cases e : t = u
  · subst e; rw [if_pos rfl] at hx; cases hx; exact h.2.2 _ _ hv
  · rw [if_neg e] at hx; exact h.2.2 _ _ hx

theorem guardF_elim {n : Nat} {all : Array Oper} {E : List (Nat × Value)} {o : Oper} {run pass : List (Nat × Value) → Prop} {a : Act} (hE : Holds n E a) (h : guardF all E o run pass) :
    (Region.wanted o (yielded all a.tmps) = true ∧ ∃ E', Holds n E' a ∧ run E') ∨ (Region.wanted o (yielded all a.tmps) = false ∧ ∃ E', Holds n E' a ∧ pass E') := by
  unfold guardF at h
  unfold Region.wanted
  split at h
  · rename_i hg; rw [hg]; exact .inl ⟨rfl, E, hE, h⟩
  · rename_i g want hg
    rw [hg]
    split at h
    · exact h.elim
    · rename_i t ht
      split at h
      · rename_i b hb
        have hv := hE.2.2 _ _ hb
        have hy : yielded all a.tmps g = some b := by
          unfold yielded
          rw [ht]
          show (match a.tmps[t]? with | some (.bool b) => some b | _ => none) = some b
          have : a.tmps[t]? = some (.bool b) := by
            rcases Nat.lt_or_ge t a.tmps.size with hlt | hge
            · rw [Array.getD_eq_getD_getElem?, Array.getElem?_eq_getElem hlt] at hv
              rw [Array.getElem?_eq_getElem hlt]; simpa using hv
            · rw [Array.getD_eq_getD_getElem?, Array.getElem?_eq_none hge] at hv
              simp [undef] at hv
          rw [this]
        simp only [hy]
        cases b <;> cases want
        · exact .inl ⟨rfl, _, hE.same hb, h.1 rfl⟩
        · exact .inr ⟨rfl, _, hE.same hb, h.2 rfl⟩
        · exact .inr ⟨rfl, _, hE.same hb, h.2 rfl⟩
        · exact .inl ⟨rfl, _, hE.same hb, h.1 rfl⟩
      · rename_i v hnb hb
        have hv := hE.2.2 _ _ hb
        have hy : yielded all a.tmps g = none := by
          unfold yielded
          rw [ht]
          show (match a.tmps[t]? with | some (.bool b) => some b | _ => none) = none
          rcases Nat.lt_or_ge t a.tmps.size with hlt | hge
          · rw [Array.getD_eq_getD_getElem?, Array.getElem?_eq_getElem hlt] at hv
            have hv : a.tmps[t] = v := by simpa using hv
            rw [Array.getElem?_eq_getElem hlt, hv]
            split
            · rename_i b hbb; injection hbb with hbb; exact (hnb b hbb).elim
            · rfl
          · rw [Array.getElem?_eq_none hge]
        simp only [hy]
        exact .inr ⟨rfl, _, hE.same hb, h⟩
      · exact h.elim

/-- Each operation's temporary is one of the frame's. -/
def fits (n : Nat) (ops : Array Oper) : Bool := ops.all fun o => match o.dst with | some d => decide (d < n) | none => true
theorem fits_dst {n : Nat} {ops : Array Oper} (h : fits n ops = true) {o : Oper} (ho : o ∈ ops) : ∀ t, o.dst = some t → t < n := by
  intro t ht
  have := Array.all_eq_true_iff_forall_mem.1 h o ho
  simpa [ht] using this

theorem R_sound {P : Program} {n : Nat} {ops : Array Oper} {Q : Exit → Act → World → Prop} (hf : fits n ops = true) {K : List (Nat × Value) → World → Prop}
    (hK : ∀ E a w, Holds n E a → K E w → Q .normal a w) :
    ∀ (l : List Nat) (os : List Oper), l.map (ops[·]?) = os.map some → ∀ (E : List (Nat × Value)) (a : Act) (w : World), Holds n E a → R P ops os E w K → wpOps P ops Q l a w
  | [], [], _, E, a, w, hE, h => hK E a w hE h
  | [], _ :: _, hl, _, _, _, _, _ => by simp at hl
  | _ :: _, [], hl, _, _, _, _, _ => by simp at hl
  | i :: l, o :: os, hl, E, a, w, hE, h => by
    simp only [List.map_cons, List.cons.injEq] at hl
    obtain ⟨ho, hl⟩ := hl
    have hmem : o ∈ ops := Array.mem_of_getElem? ho
    have hd := fits_dst hf hmem
    simp only [wpOps, ho]
    have h : stepF P ops E o w (fun E' w' => R P ops os E' w' K) := h
    rcases guardF_elim (o := o) hE h with ⟨hw, E', hE', hr⟩ | ⟨hw, E', hE', hr⟩
    · rw [if_pos hw]
      exact .inl (opF_sound hE' (fun v w' hk => R_sound hf hK l os hl _ _ _ (hE'.upd o.dst v hd) hk) hr)
    · rw [if_neg (by simp [hw])]
      exact R_sound hf hK l os hl _ _ _ (hE'.upd o.dst undef hd) hr

theorem range_map (ops : Array Oper) : (List.range ops.size).map (ops[·]?) = ops.toList.map some := by
  refine List.ext_getElem (by simp) fun i h1 h2 => ?_
  simp at h1
  simp [h1]

/-! ### Code -/
/-- From temporaries that hold 'E' on, the code comes to 'Q'. -/
def V (P : Program) (n : Nat) (c : Code) (Q : Exit → List (Nat × Value) → World → Prop) (E : List (Nat × Value)) (w : World) : Prop :=
  ∀ a, Holds n E a → c.wp P (fun e a' w' => ∃ E', Holds n E' a' ∧ Q e E' w') a w
def after (K : List (Nat × Value) → World → Prop) (Q : Exit → List (Nat × Value) → World → Prop) : Exit → List (Nat × Value) → World → Prop
  | .normal, E, w => K E w
  | e, E, w => Q e E w
def inBlock (id : Nat) (Q : Exit → List (Nat × Value) → World → Prop) : Exit → List (Nat × Value) → World → Prop
  | .exit j, E, w => match Nat.beq j id with | true => Q .normal E w | false => Q (.exit j) E w
  | e, E, w => Q e E w

section
variable {P : Program} {n : Nat} {Q : Exit → List (Nat × Value) → World → Prop} {E : List (Nat × Value)} {w : World}
theorem V_mono {c : Code} {Q' : Exit → List (Nat × Value) → World → Prop} (h : V P n c Q' E w) (hq : ∀ e E w, Q' e E w → Q e E w) : V P n c Q E w :=
  fun a ha => wp_mono (h a ha) fun _ _ _ ⟨E', h1, h2⟩ => ⟨E', h1, hq _ _ _ h2⟩
theorem V_keep {c : Code} (ks : Nat → Bool) (h : V P n c Q (keep ks E) w) : V P n c Q E w := fun a ha => h a (ha.kept ks)
theorem V_skip (h : Q .normal E w) : V P n .skip Q E w := fun a ha => wp_skip ⟨E, ha, h⟩
theorem V_ret (h : Q .ret E w) : V P n .ret Q E w := fun a ha => wp_ret ⟨E, ha, h⟩
theorem V_exit {id : Nat} (h : Q (.exit id) E w) : V P n (.exit id) Q E w := fun a ha => wp_exit ⟨E, ha, h⟩
theorem V_seq {x y : Code} (h : V P n x (after (V P n y Q) Q) E w) : V P n (.seq x y) Q E w := fun a ha => wp_seq (wp_mono (h a ha) fun e a' w' ⟨E', h1, h2⟩ => by
  cases e <;> first | exact h2 a' h1 | exact ⟨E', h1, h2⟩)
theorem V_cond {c : Operand} {x y : Code} {b : Bool} (hc : evO E c = some (.bool b)) (h1 : b = true → V P n x Q E w) (h2 : b = false → V P n y Q E w) : V P n (.cond c x y) Q E w :=
  fun a ha => wp_cond_split (evO_eval ha hc) (fun h => h1 h a ha) (fun h => h2 h a ha)
theorem V_block {id : Nat} {c : Code} (h : V P n c (inBlock id Q) E w) : V P n (.block id c) Q E w := fun a ha => wp_block (wp_mono (h a ha) fun e a' w' ⟨E', h1, h2⟩ => by
  cases e with
  | exit j =>
    simp only [Exit.inBlock]
    simp only [inBlock] at h2
    cases hb : Nat.beq j id with
    | true =>
      rw [if_pos (Nat.eq_of_beq_eq_true hb)]
      rw [hb] at h2
      exact ⟨E', h1, h2⟩
    | false =>
      rw [if_neg (Nat.ne_of_beq_eq_false hb)]
      rw [hb] at h2
      exact ⟨E', h1, h2⟩
  | _ => exact ⟨E', h1, h2⟩)
/-- A loop: a relation on the temporaries and the world, a number that falls. -/
theorem V_loop {c : Code} {ι : Type} (I : ι → List (Nat × Value) → World → Prop) (μ : ι → Nat) (i₀ : ι) (h₀ : I i₀ E w)
    (round : ∀ i E w, I i E w → V P n c (after (fun E' w' => ∃ i', I i' E' w' ∧ μ i' < μ i) Q) E w) : V P n (.loop c) Q E w := by
  intro a ha
  let J : Nat → Act → World → Prop := fun m a w => ∃ i E, Holds n E a ∧ I i E w ∧ μ i = m
  intro b k cs
  have key : ∀ m a w, J m a w → ∃ e a' w', (∃ E', Holds n E' a' ∧ Q e E' w') ∧ Arrives P (lone (b.at a (.code c :: .inLoop c :: k)) cs w) b k cs e a' w' := by
    intro m
    induction m using Nat.strongRecOn with
    | _ m ih =>
      rintro a w ⟨i, E, hE, hI, hm⟩
      obtain ⟨e, a₁, w₁, ⟨E', hE', hq⟩, harr⟩ := round i E w hI a hE b (.inLoop c :: k) cs
      cases e with
      | normal =>
        obtain ⟨i', hI', hlt⟩ := hq
        obtain ⟨e₂, a₂, w₂, hq₂, harr₂⟩ := ih (μ i') (hm ▸ hlt) a₁ w₁ ⟨i', E', hE', hI', rfl⟩
        exact ⟨e₂, a₂, w₂, hq₂, .of_steps (Steps.trans harr (.one step_inLoop)) harr₂⟩
      | exit id => exact ⟨_, a₁, w₁, ⟨E', hE', hq⟩, .pass (x := .inLoop c) rfl (fun _ _ => .inl (by simp)) harr⟩
      | goto l => exact ⟨_, a₁, w₁, ⟨E', hE', hq⟩, .pass (x := .inLoop c) rfl (fun _ _ => .inl (by simp)) harr⟩
      | ret => exact ⟨_, a₁, w₁, ⟨E', hE', hq⟩, .pass (x := .inLoop c) rfl (fun _ _ => .inl (by simp)) harr⟩
      | panic ch => exact ⟨_, a₁, w₁, ⟨E', hE', hq⟩, .pass (x := .inLoop c) rfl (fun _ _ => .inl (by simp)) harr⟩
      | outgrown => exact ⟨_, a₁, w₁, ⟨E', hE', hq⟩, .pass (x := .inLoop c) rfl (fun _ _ => .inl (by simp)) harr⟩
  obtain ⟨e, a', w', hq, harr⟩ := key _ a w ⟨i₀, E, ha, h₀, rfl⟩
  exact ⟨e, a', w', hq, .of_steps (.one step_loop) harr⟩
theorem V_region {id : Nat} {ops : Array Oper} (hf : fits n ops = true) (h : R P ops ops.toList E w (Q .normal)) : V P n (.region id ops false) Q E w :=
  fun a ha => wp_region (R_sound hf (fun E a w hE hK => ⟨E, hE, hK⟩) _ _ (range_map ops) E a w ha h)

end


/-- Operation i is behind j, by a road of so many steps. -/
def bef (ops : Array Oper) (i : Nat) : Nat → Nat → Bool
  | 0, _ => false
  | f + 1, j => match ops[j]? with
    | none => false
    | some o => o.after.any fun e => Region.binds .any e && (Nat.beq e.on i || bef ops i f e.on)
/-- Operation j may come up ahead of one of N. -/
def ob (ops : Array Oper) (N : List Nat) (j : Nat) : Bool := match ops[j]? with
  | none => true
  | some _ => N.any fun i => !(bef ops i 8 j)
/-- What stands behind a listed one is listed. -/
def Cl (ops : Array Oper) (listed : Array Bool) : Prop := ∀ k o, ops[k]? = some o → listed.getD k false = true → ∀ e ∈ o.after, Region.binds .any e = true → listed.getD e.on false = true
theorem Cl.start (ops : Array Oper) (n : Nat) : Cl ops (Array.replicate n false) := by
  intro k o _ h
  rw [Array.getD_eq_getD_getElem?] at h
  rcases Nat.lt_or_ge k n with h' | h'
  · simp [h'] at h
  · rw [Array.getElem?_eq_none (by simpa using h')] at h; cases h
theorem Cl.set {ops : Array Oper} {listed : Array Bool} (h : Cl ops listed) {j : Nat} (hj : j ∈ Region.ready .any ops listed) : Cl ops (listed.setIfInBounds j true) := by
  obtain ⟨hun, oj, hoj, hall⟩ := mem_ready.1 hj
  have hup : ∀ k, listed.getD k false = true → (listed.setIfInBounds j true).getD k false = true := by
    intro k hk
    rw [Array.getD_eq_getD_getElem?] at hk ⊢
    by_cases hjk : j = k
    · subst hjk
      rcases Nat.lt_or_ge j listed.size with h' | h'
      · simp [h']
      · rw [Array.getElem?_eq_none h'] at hk; cases hk
    · rw [Array.getElem?_setIfInBounds_ne hjk]; exact hk
  intro k o hk hl e he hb
  by_cases hjk : j = k
  · subst hjk
    rw [hoj] at hk; cases hk
    exact hup _ (hall e he hb)
  · refine hup _ (h k o hk ?_ e he hb)
    rw [Array.getD_eq_getD_getElem?] at hl ⊢
    rw [Array.getElem?_setIfInBounds_ne hjk] at hl
    exact hl
theorem bef_listed {ops : Array Oper} {listed : Array Bool} (h : Cl ops listed) {i : Nat} : ∀ (f k : Nat), (∀ o, ops[k]? = some o → ∀ e ∈ o.after, Region.binds .any e = true → listed.getD e.on false = true) → bef ops i f k = true → listed.getD i false = true
  | 0, _, _, hb => by cases hb
  | f + 1, k, hk, hb => by
    unfold bef at hb
    split at hb
    · cases hb
    · rename_i o ho
      obtain ⟨e, he, hb⟩ := Array.any_eq_true'.1 hb
      simp only [Bool.and_eq_true, Bool.or_eq_true] at hb
      have h1 := hk o ho e he hb.1
      rcases hb.2 with h2 | h2
      · rw [← Nat.eq_of_beq_eq_true h2]; exact h1
      · exact bef_listed h f e.on (fun o' ho' e' he' hb' => h e.on o' ho' h1 e' he' hb') h2
/-- Whatever order is picked; quiet operations leave the world; behind each other one that may come up ahead of one of N, S holds. -/
def wpG (P : Program) (ops : Array Oper) (Q : Exit → Act → World → Prop) (S : World → Prop) (N : List Nat) (qt : Nat → Bool) : Nat → Array Bool → Act → World → Prop
  | 0, listed, a, w => Region.ready .any ops listed = [] ∧ Q .normal a w
  | fuel + 1, listed, a, w =>
    (Region.ready .any ops listed = [] → Q .normal a w) ∧
    ∀ i ∈ Region.ready .any ops listed, wpOp P ops Q i (fun a' w' => ((qt i = true → w' = w) ∧ (qt i = false → ob ops N i = true → S w')) ∧ wpG P ops Q S N qt fuel (listed.setIfInBounds i true) a' w') a w
theorem wpAny_of_wpG {P : Program} {ops : Array Oper} {Q : Exit → Act → World → Prop} {S : World → Prop} {N : List Nat} {qt : Nat → Bool} :
    ∀ (fuel : Nat) (listed : Array Bool) (a : Act) (w : World), wpG P ops Q S N qt fuel listed a w → wpAny P .any ops Q fuel listed a w
  | 0, _, _, _, h => h
  | fuel + 1, _, _, _, h => ⟨h.1, fun i hi => wpOp_mono (fun a' w' h' => wpAny_of_wpG fuel _ a' w' h'.2) (h.2 i hi)⟩

theorem ob_of_ready {ops : Array Oper} {N : List Nat} {j m : Nat} {listed : Array Bool} (hcl : Cl ops listed) (hj : j ∈ Region.ready .any ops listed) (hm : m ∈ N) (hu : listed.getD m true = false) : ob ops N j = true := by
  obtain ⟨_, o, ho, hall⟩ := mem_ready.1 hj
  unfold ob
  rw [ho]
  refine List.any_eq_true.2 ⟨m, hm, ?_⟩
  rw [Bool.not_eq_true']
  refine Bool.eq_false_iff.2 fun h => ?_
  have h1 := bef_listed hcl 8 j (fun o' ho' e he hb => by rw [ho] at ho'; cases ho'; exact hall e he hb) h
  rcases Nat.lt_or_ge m listed.size with h' | h'
  · simp [h'] at h1 hu; rw [h1] at hu; cases hu
  · simp [Array.getElem?_eq_none h'] at h1

theorem unlisted_set {listed : Array Bool} {j m : Nat} (h : (listed.setIfInBounds j true).getD m true = false) : listed.getD m true = false := by
  by_cases hjm : j = m
  · subst hjm
    rcases Nat.lt_or_ge j listed.size with h' | h'
    · simp [h'] at h
    · simp [h', Array.getElem?_eq_none] at h
  · rwa [getD_set_ne true hjm] at h

theorem wpG_first {P : Program} {ops : Array Oper} {Q : Exit → Act → World → Prop} {S : World → Prop} {N : List Nat} {qt : Nat → Bool} {i : Nat} {oi : Oper} {v : Value} {T : World → Prop} (hi : ops[i]? = some oi)
    (hsel : ∀ (j : Nat) (o : Oper) cs b, ops[j]? = some o → o.op ≠ .select cs b) (hQ : ∀ c a w, Q (.panic c) (a.put oi.dst v) w → Q (.panic c) a w)
    (hT : ∀ w, (i ∈ N → S w) → T w) (hqt : qt i = true) :
    ∀ (fuel : Nat) (listed : Array Bool) (a : Act) (w : World), Cl ops listed →
      (∀ j oj, ops[j]? = some oj → j ≠ i → listed.getD j true = false → (∀ e ∈ oj.after, Region.binds .any e = true → e.on ≠ i) → oi.apart ops oj = true) →
      i ∈ Region.ready .any ops listed → YieldsIf P ops T oi v a → ((∃ m ∈ N, listed.getD m true = false) → S w) →
      wpG P ops Q S N qt fuel (listed.setIfInBounds i true) (a.put oi.dst v) w → wpG P ops Q S N qt (fuel + 1) listed a w := by
  intro fuel
  induction fuel with
  | zero =>
    intro listed a w hcl _ hr hy hS H
    refine ⟨fun h => (by rw [h] at hr; cases hr), fun j hj => ?_⟩
    by_cases hji : j = i
    · subst hji
      exact hy.wpOp hi (hT w fun hm => hS ⟨j, hm, (mem_ready.1 hr).1⟩) ⟨⟨fun _ => rfl, fun h => by rw [hqt] at h; cases h⟩, H⟩
    · have := ready_mono hj hji
      rw [H.1] at this
      cases this
  | succ fuel ih =>
    intro listed a w hcl hfree hr hy hS H
    refine ⟨fun h => (by rw [h] at hr; cases hr), fun j hj => ?_⟩
    by_cases hji : j = i
    · subst hji
      exact hy.wpOp hi (hT w fun hm => hS ⟨j, hm, (mem_ready.1 hr).1⟩) ⟨⟨fun _ => rfl, fun h => by rw [hqt] at h; cases h⟩, H⟩
    · have h1 := H.2 j (ready_mono hj hji)
      obtain ⟨hjun, oj, hoj, hall⟩ := mem_ready.1 hj
      have hnot : ∀ e ∈ oj.after, Region.binds .any e = true → e.on ≠ i := fun e he hb heq => by
        have h1 := hall e he hb
        have h0 := (mem_ready.1 hr).1
        rw [heq] at h1
        rcases Nat.lt_or_ge i listed.size with h' | h'
        · simp [h'] at h0 h1; rw [h0] at h1; cases h1
        · simp [Array.getElem?_eq_none h'] at h1
      have h2 := wpOp_putIf hoj (hfree j oj hoj hji hjun hnot) (fun cs b => hsel i oi cs b hi) (fun cs b => hsel j oj cs b hoj) hQ hy h1
      have hfree' : ∀ k ok, ops[k]? = some ok → k ≠ i → (listed.setIfInBounds j true).getD k true = false →
          (∀ e ∈ ok.after, Region.binds .any e = true → e.on ≠ i) → oi.apart ops ok = true := fun k ok hk hki hun hno => hfree k ok hk hki (unlisted_set hun) hno
      refine wpOp_mono (fun a' w' h3 => ⟨h3.2.1, ih (listed.setIfInBounds j true) a' w' (hcl.set hj) hfree' (ready_mono hr (Ne.symm hji)) h3.1 ?_ ?_⟩) h2
      · rintro ⟨m, hm, hu⟩
        have hu' := unlisted_set hu
        cases hq : qt j with
        | true => rw [h3.2.1.1 hq]; exact hS ⟨m, hm, hu'⟩
        | false => exact h3.2.1.2 hq (ob_of_ready hcl hj hm hu')
      · rw [Array.setIfInBounds_comm _ _ hji]
        exact h3.2.2

/-- A region's operations in an order of its own: (true, i): taken as soon as it may be; (false, i): the only one that may come up. -/
def D (P : Program) (ops : Array Oper) (w1 : World) (N : List Nat) : List (Bool × Nat) → List (Nat × Value) → World → (List (Nat × Value) → World → Prop) → Prop
  | [], E, w, K => K E w
  | (true, i) :: r, E, w, K => match ops[i]? with
    | none => False
    | some o => guardF ops E o (fun E => valF P w1 E o fun v => D P ops w1 N r (putD E o.dst v) w K) (fun E => D P ops w1 N r (putD E o.dst undef) w K)
  | (false, i) :: r, E, w, K => match ops[i]? with
    | none => False
    | some o => stepF P ops E o w fun E' w' => (match ob ops N i with | true => Up w1 w' | false => True) ∧ D P ops w1 N r E' w' K
def needs (ops : Array Oper) : List (Bool × Nat) → List Nat
  | [] => []
  | (true, i) :: r => match ops[i]? with
    | some o => match needsS o.op with | true => i :: needs ops r | false => needs ops r
    | none => needs ops r
  | (false, _) :: r => needs ops r
def quiet (sc : List (Bool × Nat)) (i : Nat) : Bool := sc.any fun p => p.1 && Nat.beq p.2 i
def sole (l : List Nat) (i : Nat) : Bool := match l with | [j] => Nat.beq j i | _ => false
def chk (ops : Array Oper) : List (Bool × Nat) → Array Bool → Bool
  | [], listed => (Region.ready .any ops listed).isEmpty
  | (true, i) :: r, listed => (Region.ready .any ops listed).contains i && Region.free .any ops listed i && chk ops r (listed.setIfInBounds i true)
  | (false, i) :: r, listed => sole (Region.ready .any ops listed) i && chk ops r (listed.setIfInBounds i true)
def okDraw (n : Nat) (ops : Array Oper) (sc : List (Bool × Nat)) : Bool :=
  fits n ops && Region.noSelect ops && chk ops sc (Array.replicate ops.size false) && Nat.beq sc.length ops.size && sc.all fun p => p.1 || !(quiet sc p.2)

theorem sole_spec {l : List Nat} {i : Nat} (h : sole l i = true) : l = [i] := by
  unfold sole at h
  split at h
  · rw [Nat.eq_of_beq_eq_true h]
  · cases h

theorem mem_needs {ops : Array Oper} {i : Nat} {o : Oper} : ∀ {sc : List (Bool × Nat)}, (true, i) ∈ sc → ops[i]? = some o → needsS o.op = true → i ∈ needs ops sc
  | (b, j) :: r, hm, ho, hn => by
    rcases List.mem_cons.1 hm with h | h
    · cases h; simp [needs, ho, hn]
    · have := mem_needs h ho hn
      cases b
      · exact this
      · simp only [needs]
        split
        · split
          · exact List.mem_cons_of_mem _ this
          · exact this
        · exact this
  | [], hm, _, _ => by cases hm


theorem D_sound {P : Program} {n : Nat} {ops : Array Oper} {Q : Exit → Act → World → Prop} {w1 : World} {sc : List (Bool × Nat)} (hok : okDraw n ops sc = true) {K : List (Nat × Value) → World → Prop}
    (hQ : ∀ c a d v w, Q (.panic c) (Act.put a d v) w → Q (.panic c) a w) (hK : ∀ E a w, Holds n E a → K E w → Q .normal a w) :
    ∀ (r : List (Bool × Nat)) (pre : List (Bool × Nat)), sc = pre ++ r → ∀ (listed : Array Bool), Cl ops listed → chk ops r listed = true → ∀ (E : List (Nat × Value)) (a : Act) (w : World), Holds n E a →
      ((∃ m ∈ needs ops sc, listed.getD m true = false) → Up w1 w) → D P ops w1 (needs ops sc) r E w K → wpG P ops Q (Up w1) (needs ops sc) (quiet sc) r.length listed a w := by
  obtain ⟨⟨⟨⟨hf, hsel⟩, _⟩, _⟩, hall⟩ : (((fits n ops = true ∧ Region.noSelect ops = true) ∧ chk ops sc (Array.replicate ops.size false) = true) ∧ Nat.beq sc.length ops.size = true) ∧ (sc.all fun p => p.1 || !(quiet sc p.2)) = true := by
    simpa [okDraw, Bool.and_eq_true] using hok
  intro r
  induction r with
  | nil =>
    intro pre hsc listed hcl hc E a w hE hS h
    refine ⟨?_, hK _ _ _ hE h⟩
    simpa [chk] using hc
  | cons p r ih =>
    obtain ⟨b, i⟩ := p
    intro pre hsc listed hcl hc E a w hE hS h
    cases b with
    | true =>
      simp only [chk, Bool.and_eq_true] at hc
      obtain ⟨⟨hr, hfree⟩, hc⟩ := hc
      simp only [D] at h
      cases ho : ops[i]? with
      | none => rw [ho] at h; exact h.elim
      | some o =>
        rw [ho] at h
        have hmem : o ∈ ops := Array.mem_of_getElem? ho
        have hd := fits_dst hf hmem
        have hin : (true, i) ∈ sc := by rw [hsc]; simp
        have hq : quiet sc i = true := List.any_eq_true.2 ⟨(true, i), hin, by simp [Nat.beq_refl]⟩
        have hS' : (∃ m ∈ needs ops sc, (listed.setIfInBounds i true).getD m true = false) → Up w1 w := fun ⟨m, hm, hu⟩ => hS ⟨m, hm, unlisted_set hu⟩
        rcases guardF_elim (o := o) hE h with ⟨hw, E', hE', hr'⟩ | ⟨hw, E', hE', hr'⟩
        · obtain ⟨v, hv, hk⟩ := valF_sound hE' hr'
          exact wpG_first (T := fun w => needsS o.op = true → Up w1 w) ho (Region.noSelect_spec hsel) (fun c a w => hQ c a _ _ w) (fun w hw hn => hw (mem_needs hin ho hn)) hq r.length listed a w hcl
            (Region.free_spec ho hfree) (by simpa using hr) (.inl ⟨hw, fun w hT => hv w hT⟩) hS (ih (pre ++ [(true, i)]) (by rw [hsc]; simp) _ (hcl.set (by simpa using hr)) hc _ _ w (hE'.upd o.dst v hd) hS' hk)
        · exact wpG_first (T := fun _ => True) ho (Region.noSelect_spec hsel) (fun c a w => hQ c a _ _ w) (fun _ _ => trivial) hq r.length listed a w hcl
            (Region.free_spec ho hfree) (by simpa using hr) (.inr ⟨hw, rfl⟩) hS (ih (pre ++ [(true, i)]) (by rw [hsc]; simp) _ (hcl.set (by simpa using hr)) hc _ _ w (hE'.upd o.dst undef hd) hS' hr')
    | false =>
      simp only [chk, Bool.and_eq_true] at hc
      obtain ⟨hr, hc⟩ := hc
      have hr := sole_spec hr
      simp only [D] at h
      cases ho : ops[i]? with
      | none => rw [ho] at h; exact h.elim
      | some o =>
        rw [ho] at h
        have hmem : o ∈ ops := Array.mem_of_getElem? ho
        have hd := fits_dst hf hmem
        have hin : (false, i) ∈ sc := by rw [hsc]; simp
        have hq : quiet sc i = false := by
          have := List.all_eq_true.1 hall _ hin
          simpa using this
        have hrdy : i ∈ Region.ready .any ops listed := by rw [hr]; simp
        have next : ∀ (E' : List (Nat × Value)) (v : Value) (w' : World), Holds n E' a → ((match ob ops (needs ops sc) i with | true => Up w1 w' | false => True) ∧ D P ops w1 (needs ops sc) r (putD E' o.dst v) w' K) →
            ((quiet sc i = true → w' = w) ∧ (quiet sc i = false → ob ops (needs ops sc) i = true → Up w1 w')) ∧ wpG P ops Q (Up w1) (needs ops sc) (quiet sc) r.length (listed.setIfInBounds i true) (a.put o.dst v) w' := by
          intro E' v w' hE' ⟨h1, h2⟩
          have hob : ob ops (needs ops sc) i = true → Up w1 w' := fun hob => by rw [hob] at h1; exact h1
          exact ⟨⟨fun h => (by rw [hq] at h; cases h), fun _ => hob⟩, ih (pre ++ [(false, i)]) (by rw [hsc]; simp) _ (hcl.set hrdy) hc _ _ w' (hE'.upd o.dst v hd) (fun ⟨m, hm, hu⟩ => hob (ob_of_ready hcl hrdy hm (unlisted_set hu))) h2⟩
        refine ⟨fun h0 => (by rw [hr] at h0; cases h0), fun j hj => ?_⟩
        rw [hr] at hj
        obtain rfl : j = i := by simpa using hj
        unfold wpOp
        rw [ho]
        rcases guardF_elim (o := o) hE (show guardF _ _ _ _ _ from h) with ⟨hw, E', hE', hr'⟩ | ⟨hw, E', hE', hr'⟩
        · show (if Region.wanted o (yielded ops a.tmps) = true then _ else _)
          rw [if_pos hw]
          exact .inl (opF_sound hE' (fun v w' hk => next _ _ _ hE' hk) hr')
        · show (if Region.wanted o (yielded ops a.tmps) = true then _ else _)
          rw [if_neg (by simp [hw])]
          exact next _ _ _ hE' hr'

theorem drew_up (w : World) : Up w w.drew := ⟨rfl, rfl, rfl, Nat.le_refl _, fun _ _ _ => rfl⟩

theorem V_draw {P : Program} {n : Nat} {Q : Exit → List (Nat × Value) → World → Prop} {E : List (Nat × Value)} {w : World} {id : Nat} {ops : Array Oper} (sc : List (Bool × Nat)) (hok : okDraw n ops sc = true) (hm : P.follows .mixedOrders = true)
    (hQ : ∀ c E w, ¬ Q (.panic c) E w) (h : ∀ w1, w1.heap = w.heap → Up w w1 → D P ops w1 (needs ops sc) sc E w1 (Q .normal)) : V P n (.region id ops true) Q E w := by
  intro a ha
  refine wp_region_any hm ?_
  have hlen : sc.length = ops.size := by
    simp only [okDraw, Bool.and_eq_true] at hok
    exact Nat.eq_of_beq_eq_true hok.1.2
  have hc : chk ops sc (Array.replicate ops.size false) = true := by
    simp only [okDraw, Bool.and_eq_true] at hok
    exact hok.1.1.2
  rw [← hlen]
  exact wpAny_of_wpG _ _ _ _ (D_sound (w1 := w.drew) hok (fun c a d v w ⟨E, _, hq⟩ => (hQ c E w hq).elim) (fun E a w hE hK => ⟨E, hE, hK⟩) sc [] rfl _ (Cl.start _ _) (hlen ▸ hc) E a w.drew ha (fun _ => Kp.refl _ _) (h w.drew rfl (drew_up w)))

end Go.Vc
/- What the operations come to, one by one: theorems over any program, for the walk of Eng. -/
set_option linter.unusedVariables false
set_option linter.unusedSimpArgs false
namespace Go.Vc
open Go Go.RowKit

/-! ### Entering, and what is handed back -/
def resF (P : Program) (E : List (Nat × Value)) (w : World) : List ResultVar → (List Value → Prop) → Prop
  | [], k => k []
  | .tmp t :: r, k => withV E (.tmp t) fun v => resF P E w r fun vs => k (v :: vs)
  | .cell p T :: r, k => withV E (.tmp p) fun pv => match pv with
    | .pointer (some ⟨b, o, none⟩) => loadV (tyOf P T) w.heap[b]? o fun v => resF P E w r fun vs => k (v :: vs)
    | _ => False
def pack : List Value → Value
  | [v] => v
  | vs => .tuple vs.toArray
def retQ (P : Program) (rs : List ResultVar) (R : Value → World → Prop) : Exit → List (Nat × Value) → World → Prop
  | .normal, E, w | .ret, E, w => resF P E w rs fun vs => R (pack vs) w
  | _, _, _ => False

def resOne (tmps : Array Value) : ResultVar → Sem Value
  | .tmp t => pure (tmps.getD t undef)
  | .cell a t => do loadVar t (← asAddr (tmps.getD a undef))
theorem resF_run {P : Program} {n : Nat} {E : List (Nat × Value)} {a : Act} {w : World} (hE : Holds n E a) : ∀ (rs : List ResultVar) {k : List Value → Prop}, resF P E w rs k →
    ∃ vs, (rs.mapM (resOne a.tmps)).run P w = .ok vs w ∧ k vs
  | [], k, h => ⟨[], rfl, h⟩
  | .tmp t :: r, k, h => by
    obtain ⟨vs, h1, h2⟩ := resF_run hE r (withV_elim hE h)
    refine ⟨a.eval (.tmp t) :: vs, ?_, h2⟩
    rw [List.mapM_cons]
    show Sem.run P (Sem.bind _ _) w = _
    rw [run_bind]
    show Sem.run P (Sem.bind _ _) w = _
    rw [run_bind, h1]
    rfl
  | .cell p T :: r, k, h => by
    have h := withV_elim hE h
    split at h
    · rename_i b o hpv
      obtain ⟨v, hv, hk⟩ := loadV_sound h
      obtain ⟨vs, h1, h2⟩ := resF_run hE r hk
      refine ⟨v :: vs, ?_, h2⟩
      have hv := hv w (Kp.refl _ _)
      have e : (resOne a.tmps (.cell p T)).run P w = .ok v w := by
        show (do let x ← asAddr (a.tmps.getD p undef); loadVar T x : Sem Value).run P w = _
        have hx : a.eval (.tmp p) = a.tmps.getD p undef := rfl
        rw [← hx, hpv]
        exact hv
      rw [List.mapM_cons]
      show Sem.run P (Sem.bind _ _) w = _
      rw [run_bind, e]
      show Sem.run P (Sem.bind _ _) w = _
      rw [run_bind, h1]
      rfl
    · exact h.elim

theorem results_run {P : Program} {n : Nat} {fn : Func} {E : List (Nat × Value)} {a : Act} {w : World} {R : Value → World → Prop} (hE : Holds n E a) (h : resF P E w fn.results.toList fun vs => R (pack vs) w) :
    ∃ v, (results fn a.tmps).run P w = .ok v w ∧ R v w := by
  obtain ⟨vs, h1, h2⟩ := resF_run hE _ h
  refine ⟨pack vs, ?_, h2⟩
  have e : results fn a.tmps = (do let vs ← fn.results.mapM (resOne a.tmps); pure (if h : vs.size = 1 then vs[0] else .tuple vs)) := by
    unfold results
    congr 1
  rw [e, Array.mapM_eq_mapM_toList]
  show Sem.run P (Sem.bind (Sem.bind _ _) _) w = _
  rw [run_bind, run_bind, h1]
  show Sem.run P (Sem.pure _) w = _
  match vs with
  | [] => rfl
  | [v] => rfl
  | v :: u :: r => rfl

def args0 : Nat → List Value → List (Nat × Value)
  | _, [] => []
  | i, v :: vs => (i, v) :: args0 (i + 1) vs
theorem look_args0 {vs : List Value} : ∀ {i t : Nat} {v : Value}, look (args0 i vs) t = some v → i ≤ t ∧ vs[t - i]? = some v := by
  induction vs with
  | nil => intro i t v h; cases h
  | cons x xs ih =>
    intro i t v h
    simp only [args0, look] at h
    cases hb : Nat.beq i t with
    | true =>
      have := Nat.eq_of_beq_eq_true hb
      subst this
      rw [hb] at h
      cases h
      exact ⟨Nat.le_refl _, by simp⟩
    | false =>
      have := Nat.ne_of_beq_eq_false hb
      rw [hb] at h
      obtain ⟨h1, h2⟩ := ih h
      refine ⟨by omega, ?_⟩
      rw [show t - i = (t - (i + 1)) + 1 from by omega]
      simpa using h2

/-- A call is its body's walk. -/
theorem calls_V {P : Program} {f : FuncId} {fn : Func} {c : Code} {args : List Value} {w : World} {R : Value → World → Prop} (hf : P.funcs[f]? = some fn) (hb : fn.body = some c) (hn : args.length ≤ fn.ntmps)
    (h : V P fn.ntmps c (retQ P fn.results.toList R) (args0 0 args) w) : Calls P f args.toArray w fun e w' => match e with | .returned v => R v w' | _ => False := by
  refine calls_of_wp hf hb (wp_mono (h _ ⟨by simp; omega, rfl, fun t v hv => ?_⟩) fun e a' w' ⟨E', hE', hq⟩ => ?_)
  · obtain ⟨_, h2⟩ := look_args0 hv
    have hlt : t < args.length := by
      rcases Nat.lt_or_ge t args.length with h | h
      · exact h
      · rw [List.getElem?_eq_none (by omega)] at h2; cases h2
    rw [Array.getD_eq_getD_getElem?, Array.getElem?_append_left (by simpa using hlt)]
    simpa using congrArg (fun x => x.getD undef) h2
  · cases e with
    | normal => obtain ⟨v, h1, h2⟩ := results_run hE' hq; exact ⟨hE'.2.1, v, h1, h2⟩
    | ret => obtain ⟨v, h1, h2⟩ := results_run hE' hq; exact ⟨hE'.2.1, v, h1, h2⟩
    | _ => exact hq.elim

end Go.Vc
/- Taking values apart in the walk: what goes on behind is left alone till it is known with what. -/
set_option linter.unusedVariables false
set_option linter.unusedSimpArgs false
namespace Go.Vc
open Go Go.RowKit
/-- The same, for the rewriting to count as a turn. -/
def mk {α : Type} (x : α) : α := x
@[push_cast] theorem mk_eq {α : Type} (x : α) : mk x = x := Eq.trans rfl rfl
def lk (o : Option Value) (f : Value → Prop) : Prop := match o with | some v => f v | none => False
def optF {α : Type} (o : Option α) (f : α → Prop) : Prop := match o with | some v => f v | none => False
def ptrF (v : Value) (f : Nat → Nat → Prop) : Prop := match v with | .pointer (some ⟨b, o, none⟩) => f b o | _ => False
def ptrA (v : Value) (f : Addr → Prop) : Prop := match v with | .pointer (some a) => f a | _ => False
def boolF (b : Bool) (p q : Prop) : Prop := match b with | true => p | false => q
def boolV (v : Value) (p q : Prop) : Prop := match v with | .bool true => p | .bool false => q | _ => False
def nilF (v : Value) (k : Value → Prop) : Prop := match v with
    | .pointer (some a) => k (.pointer (some a))
    | .map m => k (.map m)
    | .slice a n c => k (.slice a n c)
    | _ => False
def boolO (o : Option Value) (run : Bool → Prop) : Prop := match o with | some (.bool c) => run c | _ => False
/-- A guard's word (none was said: as if it said no). -/
def isB (v : Value) (b : Bool) : Bool := match v with | .bool c => c | _ => !b
def setB (v : Value) (b : Bool) : Value := match v with | .bool _ => .bool b | u => u
/-- A guarded operation: run, or passed over. -/
def guardK (c b : Bool) (run pass : Prop) : Prop := (c = b → run) ∧ (c = !b → pass)
def pairF {α β : Type} (o : Option (α × β)) (f : α → β → Prop) : Prop := match o with | some (a, b) => f a b | none => False
section
variable {P : Program}
@[congr] theorem lk_congr {o o' : Option Value} {f : Value → Prop} (h : mk o = o') : lk o f = lk o' f := by rw [← mk_eq o, h]
@[congr] theorem guardK_congr {c c' b b' : Bool} {p q : Prop} (h : mk c = c') (h2 : b = b') : guardK c b p q = guardK c' b' p q := by rw [← mk_eq c, h, h2]
@[congr] theorem optF_congr {α : Type} {o o' : Option α} {f : α → Prop} (h : mk o = o') : optF o f = optF o' f := by rw [← mk_eq o, h]
@[congr] theorem pairF_congr {α β : Type} {o o' : Option (α × β)} {f : α → β → Prop} (h : mk o = o') : pairF o f = pairF o' f := by rw [← mk_eq o, h]
@[congr] theorem ptrF_congr {o o' : Value} {f : Nat → Nat → Prop} (h : mk o = o') : ptrF o f = ptrF o' f := by rw [← mk_eq o, h]
@[congr] theorem ptrA_congr {o o' : Value} {f : Addr → Prop} (h : mk o = o') : ptrA o f = ptrA o' f := by rw [← mk_eq o, h]
@[congr] theorem boolF_congr {o o' : Bool} {p q : Prop} (h : mk o = o') : boolF o p q = boolF o' p q := by rw [← mk_eq o, h]
@[congr] theorem boolV_congr {o o' : Value} {p q : Prop} (h : mk o = o') : boolV o p q = boolV o' p q := by rw [← mk_eq o, h]
@[congr] theorem nilF_congr {o o' : Value} {f : Value → Prop} (h : mk o = o') : nilF o f = nilF o' f := by rw [← mk_eq o, h]
@[congr] theorem boolO_congr {o o' : Option Value} {f : Bool → Prop} (h : mk o = o') : boolO o f = boolO o' f := by rw [← mk_eq o, h]
@[congr] theorem withV_congr {E E' : List (Nat × Value)} {x : Operand} {f : Value → Prop} (h : mk E = E') : withV E x f = withV E' x f := by rw [← mk_eq E, h]
@[congr] theorem withL_congr {E E' : List (Nat × Value)} {x : List Operand} {f : List Value → Prop} (h : mk E = E') : withL E x f = withL E' x f := by rw [← mk_eq E, h]
@[congr] theorem withP_congr {E E' : List (Nat × Value)} {x : List (Nat × Operand)} {f : List (Nat × Value) → Prop} (h : mk E = E') : withP E x f = withP E' x f := by rw [← mk_eq E, h]
@[congr] theorem withO_congr {E E' : List (Nat × Value)} {x : Option Operand} {f : Option Value → Prop} (h : mk E = E') : withO E x f = withO E' x f := by rw [← mk_eq E, h]
@[congr] theorem R_congr {all : Array Oper} {os : List Oper} {E E' : List (Nat × Value)} {w : World} {K : List (Nat × Value) → World → Prop} (h : mk E = E') : R P all os E w K = R P all os E' w K := by rw [← mk_eq E, h]
@[congr] theorem D_congr {all : Array Oper} {w1 : World} {N : List Nat} {os : List (Bool × Nat)} {E E' : List (Nat × Value)} {w : World} {K : List (Nat × Value) → World → Prop} (h : mk E = E') : D P all w1 N os E w K = D P all w1 N os E' w K := by rw [← mk_eq E, h]
@[congr] theorem stepF_congr {all : Array Oper} {o : Oper} {E E' : List (Nat × Value)} {w : World} {K : List (Nat × Value) → World → Prop} (h : mk E = E') : stepF P all E o w K = stepF P all E' o w K := by rw [← mk_eq E, h]
@[congr] theorem guardF_congr {all : Array Oper} {o : Oper} {E E' : List (Nat × Value)} {r p : List (Nat × Value) → Prop} (h : mk E = E') : guardF all E o r p = guardF all E' o r p := by rw [← mk_eq E, h]
@[congr] theorem opF_congr {o : Oper} {E E' : List (Nat × Value)} {w : World} {k : Value → World → Prop} (h : mk E = E') : opF P E o w k = opF P E' o w k := by rw [← mk_eq E, h]
@[congr] theorem valF_congr {o : Oper} {E E' : List (Nat × Value)} {w : World} {k : Value → Prop} (h : mk E = E') : valF P w E o k = valF P w E' o k := by rw [← mk_eq E, h]
@[congr] theorem loadV_congr {t t' : Option (Bool × Nat)} {o o' : Option Obj} {n n' : Nat} {K : Value → Prop} (ht : mk t = t') (ho : o = o') (hn : n = n') : loadV t o n K = loadV t' o' n' K := by rw [← mk_eq t, ht, ho, hn]
@[congr] theorem binV_congr {w : World} {op : BinOp} {T : TypeId} {x y : Operand} {v v' u u' : Value} {K : Value → Prop} (hv : mk v = v') (hu : u = u') : binV P w op T x y v u K = binV P w op T x y v' u' K := by rw [← mk_eq v, hv, hu]
@[congr] theorem unV_congr {op : UnOp} {v v' : Value} {K : Value → Prop} (hv : mk v = v') : unV op v K = unV op v' K := by rw [← mk_eq v, hv]
@[congr] theorem convV_congr {w : World} {s t : TypeId} {v v' : Value} {K : Value → Prop} (hv : mk v = v') : convV P w s t v K = convV P w s t v' K := by rw [← mk_eq v, hv]
@[congr] theorem idxV_congr {T : TypeId} {v v' u u' : Value} {K : Value → Prop} (hv : mk v = v') (hu : u = u') : idxV P T v u K = idxV P T v' u' K := by rw [← mk_eq v, hv, hu]
@[congr] theorem indexV_congr {T : TypeId} {v v' u u' : Value} {K : Value → Prop} (hv : mk v = v') (hu : u = u') : indexV P T v u K = indexV P T v' u' K := by rw [← mk_eq v, hv, hu]
@[congr] theorem extractV_congr {v v' : Value} {i : Nat} {K : Value → Prop} (hv : mk v = v') : extractV v i K = extractV v' i K := by rw [← mk_eq v, hv]
@[congr] theorem lenV_congr {w : World} {ts : Array TypeId} {T : TypeId} {v v' : List Value} {K : Value → Prop} (hv : mk v = v') : lenV P w ts T v K = lenV P w ts T v' K := by rw [← mk_eq v, hv]
@[congr] theorem mmV_congr {b : Bool} {v v' : List Value} {K : Value → Prop} (hv : mk v = v') : mmV b v K = mmV b v' K := by rw [← mk_eq v, hv]
@[congr] theorem sliceV_congr {T : TypeId} {v v' : Value} {lo lo' hi hi' mx mx' : Option Value} {K : Value → Prop} (hv : mk v = v') (h1 : lo = lo') (h2 : hi = hi') (h3 : mx = mx') : sliceV P T v lo hi mx K = sliceV P T v' lo' hi' mx' K := by rw [← mk_eq v, hv, h1, h2, h3]
@[congr] theorem bndF_congr {lo lo' hi hi' : Option Value} {n n' c c' : Nat} {f : Nat → Nat → Prop} (h1 : mk lo = lo') (h2 : hi = hi') (h3 : n = n') (h4 : c = c') : bndF lo hi n c f = bndF lo' hi' n' c' f := by rw [← mk_eq lo, h1, h2, h3, h4]
@[congr] theorem fldV_congr {T : TypeId} {i : Nat} {v v' : Value} {K : Value → Prop} (hv : mk v = v') : fldV P T i v K = fldV P T i v' K := by rw [← mk_eq v, hv]
@[congr] theorem CallM_congr {f : FuncId} {as as' : Array Value} {w : World} {K : Value → World → Prop} (h : mk as = as') : CallM P f as w K = CallM P f as' w K := by rw [← mk_eq as, h]
@[congr] theorem newF_congr {T : TypeId} {cs cs' : Array Value} {w : World} {K : Nat → World → Prop} (h : mk cs = cs') : newF T cs w K = newF T cs' w K := by rw [← mk_eq cs, h]
@[congr] theorem storeF_congr {T : TypeId} {p p' v v' : Value} {w : World} {K : World → Prop} (h : mk p = p') (hv : v = v') : storeF P T p v w K = storeF P T p' v' w K := by rw [← mk_eq p, h, hv]
@[congr] theorem buildF_congr {T : TypeId} {n : Nat} {vs vs' : List (Nat × Value)} {w : World} {K : Value → World → Prop} (hv : mk vs = vs') : buildF P T n vs w K = buildF P T n vs' w K := by rw [← mk_eq vs, hv]
@[congr] theorem V_congr {n : Nat} {c : Code} {Q : Exit → List (Nat × Value) → World → Prop} {E E' : List (Nat × Value)} {w : World} (h : mk E = E') : V P n c Q E w = V P n c Q E' w := by rw [← mk_eq E, h]
@[congr] theorem after_congr {K : List (Nat × Value) → World → Prop} {Q : Exit → List (Nat × Value) → World → Prop} {e : Exit} {E E' : List (Nat × Value)} {w : World} (h : mk E = E') : after K Q e E w = after K Q e E' w := by rw [← mk_eq E, h]
@[congr] theorem inBlock_congr {i : Nat} {Q : Exit → List (Nat × Value) → World → Prop} {e : Exit} {E E' : List (Nat × Value)} {w : World} (h : mk E = E') : inBlock i Q e E w = inBlock i Q e E' w := by rw [← mk_eq E, h]
@[congr] theorem retQ_congr {rs : List ResultVar} {R : Value → World → Prop} {e : Exit} {E E' : List (Nat × Value)} {w : World} (h : mk E = E') : retQ P rs R e E w = retQ P rs R e E' w := by rw [← mk_eq E, h]
@[congr] theorem resF_congr {rs : List ResultVar} {k : List Value → Prop} {E E' : List (Nat × Value)} {w : World} (h : mk E = E') : resF P E w rs k = resF P E' w rs k := by rw [← mk_eq E, h]
@[congr] theorem TakeP_congr {s s' : Sem Value} {K : Value → Prop} (h : mk s = s') : TakeP P s K = TakeP P s' K := by rw [← mk_eq s, h]
@[congr] theorem TakeU_congr {w : World} {s s' : Sem Value} {K : Value → Prop} (h : mk s = s') : TakeU P w s K = TakeU P w s' K := by rw [← mk_eq s, h]
@[congr] theorem OpM_congr {w : World} {s s' : Sem Value} {K : Value → World → Prop} (h : mk s = s') : OpM P s w K = OpM P s' w K := by rw [← mk_eq s, h]
@[congr] theorem OpU_congr {w : World} {s s' : Sem Unit} {K : World → Prop} (h : mk s = s') : OpU P s w K = OpU P s' w K := by rw [← mk_eq s, h]
end
section
variable {p q : Prop}
@[push_cast] theorem guardK_tt : guardK true true p q = p := propext ⟨fun h => h.1 rfl, fun h => ⟨fun _ => h, fun e => by cases e⟩⟩
@[push_cast] theorem guardK_ff : guardK false false p q = p := propext ⟨fun h => h.1 rfl, fun h => ⟨fun _ => h, fun e => by cases e⟩⟩
@[push_cast] theorem guardK_tf : guardK true false p q = q := propext ⟨fun h => h.2 rfl, fun h => ⟨fun e => (by cases e), fun _ => h⟩⟩
@[push_cast] theorem guardK_ft : guardK false true p q = q := propext ⟨fun h => h.2 rfl, fun h => ⟨fun e => (by cases e), fun _ => h⟩⟩
theorem guardK_dt {x : Prop} [Decidable x] (h1 : x → p) (h2 : ¬ x → q) : guardK (decide x) true p q := ⟨fun e => h1 (of_decide_eq_true e), fun e => h2 (of_decide_eq_false e)⟩
theorem guardK_df {x : Prop} [Decidable x] (h1 : ¬ x → p) (h2 : x → q) : guardK (decide x) false p q := ⟨fun e => h1 (of_decide_eq_false e), fun e => h2 (of_decide_eq_true e)⟩
theorem guardK_nt {x : Prop} [Decidable x] (h1 : ¬ x → p) (h2 : x → q) : guardK (!decide x) true p q := ⟨fun e => h1 (of_decide_eq_false (by simpa using e)), fun e => h2 (of_decide_eq_true (by simpa using e))⟩
theorem guardK_nf {x : Prop} [Decidable x] (h1 : x → p) (h2 : ¬ x → q) : guardK (!decide x) false p q := ⟨fun e => h1 (of_decide_eq_true (by simpa using e)), fun e => h2 (of_decide_eq_false (by simpa using e))⟩
end
@[push_cast] theorem lk_some {v : Value} {f : Value → Prop} : lk (some v) f = f v := Eq.trans rfl rfl
@[push_cast] theorem optF_some {α : Type} {v : α} {f : α → Prop} : optF (some v) f = f v := Eq.trans rfl rfl
@[push_cast] theorem pairF_some {α β : Type} {a : α} {b : β} {f : α → β → Prop} : pairF (some (a, b)) f = f a b := Eq.trans rfl rfl
@[push_cast] theorem ptrF_some {b o : Nat} {f : Nat → Nat → Prop} : ptrF (.pointer (some ⟨b, o, none⟩)) f = f b o := Eq.trans rfl rfl
@[push_cast] theorem ptrA_some {a : Addr} {f : Addr → Prop} : ptrA (.pointer (some a)) f = f a := Eq.trans rfl rfl
@[push_cast] theorem boolF_true {p q : Prop} : boolF true p q = p := Eq.trans rfl rfl
@[push_cast] theorem boolF_false {p q : Prop} : boolF false p q = q := Eq.trans rfl rfl
@[push_cast] theorem boolV_true {p q : Prop} : boolV (.bool true) p q = p := Eq.trans rfl rfl
@[push_cast] theorem boolV_false {p q : Prop} : boolV (.bool false) p q = q := Eq.trans rfl rfl
@[push_cast] theorem nilF_ptr {a : Addr} {k : Value → Prop} : nilF (.pointer (some a)) k = k (.pointer (some a)) := Eq.trans rfl rfl
@[push_cast] theorem nilF_map {a : Option Nat} {k : Value → Prop} : nilF (.map a) k = k (.map a) := Eq.trans rfl rfl
@[push_cast] theorem nilF_sl {a : Option Addr} {n c : Nat} {k : Value → Prop} : nilF (.slice a n c) k = k (.slice a n c) := Eq.trans rfl rfl
@[push_cast] theorem isB_bool {c b : Bool} : isB (.bool c) b = c := Eq.trans rfl rfl
@[push_cast] theorem isB_undef {b : Bool} : isB undef b = !b := Eq.trans rfl rfl
@[push_cast] theorem setB_bool {c b : Bool} : setB (.bool c) b = .bool b := Eq.trans rfl rfl
@[push_cast] theorem setB_undef {b : Bool} : setB undef b = undef := Eq.trans rfl rfl
@[push_cast] theorem boolO_some {b : Bool} {k : Bool → Prop} : boolO (some (.bool b)) k = k b := Eq.trans rfl rfl
end Go.Vc
/- The words of the walk as one set of rewriting rules (the set 'push_cast' carries them), and what the steps over code come to. -/
set_option linter.unusedVariables false
set_option linter.unusedSimpArgs false
namespace Go.Vc
open Go Go.RowKit

attribute [push_cast] args0.eq_1 args0.eq_2 putD.eq_1 putD.eq_2 keep.eq_1 List.append_eq Option.some.injEq
section
variable {P : Program} {E : List (Nat × Value)} {w w1 : World}
@[push_cast] theorem R_nil {all : Array Oper} {K : List (Nat × Value) → World → Prop} : R P all [] E w K = K E w := Eq.trans rfl rfl
@[push_cast] theorem R_cons {all : Array Oper} {o : Oper} {os : List Oper} {K : List (Nat × Value) → World → Prop} : R P all (o :: os) E w K = stepF P all E o w fun E' w' => R P all os E' w' K := Eq.trans rfl rfl
@[push_cast] theorem stepF_is {all : Array Oper} {o : Oper} {K : List (Nat × Value) → World → Prop} : stepF P all E o w K = guardF all E o (fun E => opF P E o w fun v w' => K (putD E o.dst v) w') (fun E => K (putD E o.dst undef) w) := Eq.trans rfl rfl
@[push_cast] theorem withL_nil {f : List Value → Prop} : withL E [] f = f [] := Eq.trans rfl rfl
@[push_cast] theorem withL_cons {x : Operand} {xs : List Operand} {f : List Value → Prop} : withL E (x :: xs) f = withV E x fun v => withL E xs fun vs => f (v :: vs) := Eq.trans rfl rfl
@[push_cast] theorem withP_nil {f : List (Nat × Value) → Prop} : withP E [] f = f [] := Eq.trans rfl rfl
@[push_cast] theorem withO_none {f : Option Value → Prop} : withO E none f = f none := Eq.trans rfl rfl
@[push_cast] theorem withO_some {x : Operand} {f : Option Value → Prop} : withO E (some x) f = withV E x fun v => f (some v) := Eq.trans rfl rfl
@[push_cast] theorem after_normal {K : List (Nat × Value) → World → Prop} {Q : Exit → List (Nat × Value) → World → Prop} : after K Q .normal E w = K E w := Eq.trans rfl rfl
@[push_cast] theorem resF_nil {k : List Value → Prop} : resF P E w [] k = k [] := Eq.trans rfl rfl
@[push_cast] theorem resF_tmp {t : Tmp} {r : List ResultVar} {k : List Value → Prop} : resF P E w (.tmp t :: r) k = withV E (.tmp t) fun v => resF P E w r fun vs => k (v :: vs) := Eq.trans rfl rfl
@[push_cast] theorem D_nil {ops : Array Oper} {N : List Nat} {K : List (Nat × Value) → World → Prop} : D P ops w1 N [] E w K = K E w := Eq.trans rfl rfl
end

section
variable {P : Program} {E : List (Nat × Value)} {w w1 : World} {k : Value → World → Prop} {K : Value → Prop} {T : TypeId} {ps : String} {af : Array Edge} {g : Option (Nat × Bool)} {d : Option Tmp} {all : Array Oper} {op : Op}
  {run pass : List (Nat × Value) → Prop}
@[push_cast] theorem guardF_none : guardF all E ⟨d, op, T, ps, af, none⟩ run pass = run E := Eq.trans rfl rfl
@[push_cast] theorem guardF_some {j : Nat} {b : Bool} : guardF all E ⟨d, op, T, ps, af, some (j, b)⟩ run pass = optF all[j]? fun o' => optF o'.dst fun t => lk (look E t) fun v => guardK (isB v b) b (run (put E t (.bool b))) (pass (put E t (setB v (!b)))) := by
  unfold guardF optF lk guardK
  dsimp only
  cases all[j]? with
  | none => rfl
  | some o' => dsimp only [Option.bind_some]; cases o'.dst with
    | none => rfl
    | some t => dsimp only; cases look E t with
      | none => rfl
      | some v => cases v <;> first | rfl | (dsimp only [isB, setB]; cases b <;> simp)
@[push_cast] theorem withV_tmp {t : Nat} {f : Value → Prop} : withV E (.tmp t) f = lk (look E t) f := Eq.trans rfl rfl
@[push_cast] theorem withP_cons {i : Nat} {x : Operand} {xs : List (Nat × Operand)} {f : List (Nat × Value) → Prop} : withP E ((i, x) :: xs) f = withV E x fun v => withP E xs fun vs => f ((i, v) :: vs) := Eq.trans rfl rfl
@[push_cast] theorem withV_const {v : Value} {f : Value → Prop} : withV E (.const v) f = f v := Eq.trans rfl rfl
@[push_cast] theorem withV_func {v : Nat} {f : Value → Prop} : withV E (.func v) f = f (.func (.func v) #[] #[]) := Eq.trans rfl rfl
@[push_cast] theorem withV_global {v : Nat} {f : Value → Prop} : withV E (.global v) f = f (.pointer (some ⟨v, 0, none⟩)) := Eq.trans rfl rfl
end
section
variable {P : Program} {E : List (Nat × Value)} {w w1 : World}
@[push_cast] theorem D_take {ops : Array Oper} {N : List Nat} {i : Nat} {r : List (Bool × Nat)} {K : List (Nat × Value) → World → Prop} : D P ops w1 N ((true, i) :: r) E w K = optF ops[i]? fun o => guardF ops E o (fun E => valF P w1 E o fun v => D P ops w1 N r (putD E o.dst v) w K) (fun E => D P ops w1 N r (putD E o.dst undef) w K) := by rw [D]; cases ops[i]? <;> rfl
@[push_cast] theorem D_do {ops : Array Oper} {N : List Nat} {i : Nat} {r : List (Bool × Nat)} {K : List (Nat × Value) → World → Prop} : D P ops w1 N ((false, i) :: r) E w K = optF ops[i]? fun o => stepF P ops E o w fun E' w' => boolF (ob ops N i) (Up w1 w') True ∧ D P ops w1 N r E' w' K := by rw [D]; cases ops[i]? <;> rfl
@[push_cast] theorem resF_cell {p : Tmp} {T : TypeId} {r : List ResultVar} {k : List Value → Prop} : resF P E w (.cell p T :: r) k = withV E (.tmp p) fun pv => ptrF pv fun b o => loadV (tyOf P T) w.heap[b]? o fun v => resF P E w r fun vs => k (v :: vs) := Eq.trans rfl rfl
end
section
variable {P : Program} {E : List (Nat × Value)} {w : World}
@[push_cast] theorem R_arr {all : Array Oper} {os : List Oper} {K : List (Nat × Value) → World → Prop} : R P all (List.toArray os).toList E w K = R P all os E w K := Eq.trans rfl rfl
@[push_cast] theorem withL_arr {xs : List Operand} {f : List Value → Prop} : withL E (List.toArray xs).toList f = withL E xs f := Eq.trans rfl rfl
@[push_cast] theorem withP_arr {xs : List (Nat × Operand)} {f : List (Nat × Value) → Prop} : withP E (List.toArray xs).toList f = withP E xs f := Eq.trans rfl rfl
end
@[push_cast] theorem look_nil {t : Nat} : look [] t = none := rfl
@[push_cast] theorem look_cons {k : Nat} {v : Value} {r : List (Nat × Value)} {t : Nat} : look ((k, v) :: r) t = match Nat.beq k t with | true => some v | false => look r t := rfl
@[push_cast] theorem put_nil {t : Nat} {v : Value} : put [] t v = [(t, v)] := rfl
@[push_cast] theorem put_cons {k : Nat} {u : Value} {r : List (Nat × Value)} {t : Nat} {v : Value} : put ((k, u) :: r) t v = match Nat.beq k t with | true => (k, v) :: r | false => (k, u) :: put r t v := rfl
@[push_cast] theorem keep_cons {ks : Nat → Bool} {k : Nat} {u : Value} {r : List (Nat × Value)} : keep ks ((k, u) :: r) = match ks k with | true => (k, u) :: keep ks r | false => keep ks r := rfl

/-! ### 'opF', an operation at a time -/
section
variable {P : Program} {E : List (Nat × Value)} {w : World} {k : Value → World → Prop} {K : Value → Prop} {T : TypeId} {ps : String} {af : Array Edge} {g : Option (Nat × Bool)} {d : Option Tmp}
@[push_cast] theorem opF_move {x : Operand} : opF P E ⟨d, .move x, T, ps, af, g⟩ w k = withV E x fun v => k v w := Eq.trans rfl rfl
@[push_cast] theorem opF_assign {x : Operand} : opF P E ⟨d, .assign x, T, ps, af, g⟩ w k = withV E x fun v => k v w := Eq.trans rfl rfl
@[push_cast] theorem opF_pick {c a b : Operand} : opF P E ⟨d, .pick c a b, T, ps, af, g⟩ w k = withV E c fun cv => boolV cv (withV E a fun v => k v w) (withV E b fun v => k v w) := Eq.trans rfl rfl
@[push_cast] theorem opF_load {t : TypeId} {x : Operand} : opF P E ⟨d, .load t x, T, ps, af, g⟩ w k = withV E x fun v => ptrF v fun b o => loadV (tyOf P t) w.heap[b]? o fun v => k v w := Eq.trans rfl rfl
@[push_cast] theorem opF_lookup {t : TypeId} {x y : Operand} {ok : Bool} : opF P E ⟨d, .lookup t x y ok, T, ps, af, g⟩ w k = withV E x fun m => withV E y fun i => TakeU P w (Instr.lookup t m i ok) fun v => k v w := Eq.trans rfl rfl
@[push_cast] theorem opF_build {t : TypeId} {q : Array (Nat × Operand)} : opF P E ⟨d, .build t q, T, ps, af, g⟩ w k = withP E q.toList fun vs => TakeP P (Instr.build t vs.toArray) fun v => k v w := Eq.trans rfl rfl
@[push_cast] theorem opF_fieldAddr {t : TypeId} {x : Operand} {i : Nat} : opF P E ⟨d, .fieldAddr t x i, T, ps, af, g⟩ w k = withV E x fun v => ptrA v fun a => optF (fieldOff P t i) fun off => k (.pointer (some (a.add off))) w := by
  unfold opF valF withV ptrA
  dsimp only
  cases evO E x with
  | none => rfl
  | some v => cases v with
    | pointer p => cases p with
      | none => rfl
      | some a => dsimp only; cases fieldOff P t i <;> rfl
    | _ => rfl
@[push_cast] theorem opF_field {t : TypeId} {x : Operand} {i : Nat} : opF P E ⟨d, .field t x i, T, ps, af, g⟩ w k = withV E x fun v => fldV P t i v fun v => k v w := Eq.trans rfl rfl
@[push_cast] theorem opF_indexAddr {t : TypeId} {x y : Operand} : opF P E ⟨d, .indexAddr t x y, T, ps, af, g⟩ w k = withV E x fun v => withV E y fun i => idxV P t v i fun v => k v w := Eq.trans rfl rfl
@[push_cast] theorem opF_index {t : TypeId} {x y : Operand} : opF P E ⟨d, .index t x y, T, ps, af, g⟩ w k = withV E x fun v => withV E y fun i => indexV P t v i fun v => k v w := Eq.trans rfl rfl
@[push_cast] theorem opF_extract {x : Operand} {i : Nat} : opF P E ⟨d, .extract x i, T, ps, af, g⟩ w k = withV E x fun v => extractV v i fun v => k v w := Eq.trans rfl rfl
@[push_cast] theorem opF_binOp {op : BinOp} {t u : TypeId} {x y : Operand} : opF P E ⟨d, .binOp op t x y u, T, ps, af, g⟩ w k = withV E x fun v => withV E y fun u => binV P w op t x y v u fun v => k v w := Eq.trans rfl rfl
@[push_cast] theorem opF_unOp {op : UnOp} {t : TypeId} {x : Operand} : opF P E ⟨d, .unOp op t x, T, ps, af, g⟩ w k = withV E x fun v => unV op v fun v => k v w := Eq.trans rfl rfl
def convF (P : Program) (s t : TypeId) (w : World) (k : Value → World → Prop) (v : Value) : Prop := match v with
    | .string x => match isStringT P t with
      | true => (P.underlying s).isSome = true ∧ k (.string x) w
      | false => OpM P (convert s t (.string x)) w k
    | v => convV P w s t v fun v => k v w
@[congr] theorem convF_congr {s t : TypeId} {w : World} {k : Value → World → Prop} {v v' : Value} (h : mk v = v') : convF P s t w k v = convF P s t w k v' := by rw [← mk_eq v, h]
@[push_cast] theorem convF_str {s t : TypeId} {x : ByteArray} : convF P s t w k (.string x) = boolF (isStringT P t) ((P.underlying s).isSome = true ∧ k (.string x) w) (OpM P (convert s t (.string x)) w k) := Eq.trans rfl rfl
@[push_cast] theorem convF_int {s t : TypeId} {q : IntKind} {a : Int} : convF P s t w k (.int q a) = convV P w s t (.int q a) fun v => k v w := Eq.trans rfl rfl
@[push_cast] theorem convF_sl {s t : TypeId} {p : Option Addr} {n c : Nat} : convF P s t w k (.slice p n c) = convV P w s t (.slice p n c) fun v => k v w := Eq.trans rfl rfl
@[push_cast] theorem opF_convert {s t : TypeId} {x : Operand} : opF P E ⟨d, .convert s t x, T, ps, af, g⟩ w k = withV E x (convF P s t w k) := Eq.trans rfl rfl
@[push_cast] theorem opF_slice {t : TypeId} {x : Operand} {lo hi mx : Option Operand} : opF P E ⟨d, .slice t x lo hi mx, T, ps, af, g⟩ w k = withV E x fun v => withO E lo fun lo => withO E hi fun hi => withO E mx fun mx => sliceV P t v lo hi mx fun v => k v w := Eq.trans rfl rfl
@[push_cast] theorem opF_nilCheck {x : Operand} : opF P E ⟨d, .nilCheck x, T, ps, af, g⟩ w k = withV E x fun v => nilF v fun v => k v w := Eq.trans rfl rfl
@[push_cast] theorem opF_alloc {t : TypeId} : opF P E ⟨d, .alloc t, T, ps, af, g⟩ w k = optF (zeroOf P t) fun z => newF t z.cells w fun b w' => k (.pointer (some ⟨b, 0, none⟩)) w' := by unfold opF; dsimp only; cases zeroOf P t <;> rfl
@[push_cast] theorem opF_box {t : TypeId} {x : Operand} : opF P E ⟨d, .box t x, T, ps, af, g⟩ w k = withV E x fun v => newF t v.cells w fun b w' => k (.pointer (some ⟨b, 0, none⟩)) w' := Eq.trans rfl rfl
@[push_cast] theorem opF_store {t : TypeId} {x y : Operand} : opF P E ⟨d, .store t x y, T, ps, af, g⟩ w k = withV E x fun p => withV E y fun v => storeF P t p v w (k undef) := Eq.trans rfl rfl
@[push_cast] theorem opF_buildSlice {t : TypeId} {n : Nat} {q : Array (Nat × Operand)} : opF P E ⟨d, .buildSlice t n q, T, ps, af, g⟩ w k = withP E q.toList fun vs => buildF P t n vs w k := Eq.trans rfl rfl
@[push_cast] theorem opF_makeMap {t : TypeId} {r : Option Operand} : opF P E ⟨d, .makeMap t r, T, ps, af, g⟩ w k = withO E r fun r => OpM P (Instr.makeMap t r) w k := Eq.trans rfl rfl
@[push_cast] theorem opF_makeSlice {t : TypeId} {l c : Operand} : opF P E ⟨d, .makeSlice t l c, T, ps, af, g⟩ w k = withV E l fun l => withV E c fun c => OpM P (Instr.makeSlice t l c) w k := Eq.trans rfl rfl
@[push_cast] theorem opF_mapUpdate {t : TypeId} {m y x : Operand} : opF P E ⟨d, .mapUpdate t m y x, T, ps, af, g⟩ w k = withV E m fun m => withV E y fun y => withV E x fun x => OpU P (Instr.mapUpdate t m y x) w (k undef) := Eq.trans rfl rfl
@[push_cast] theorem opF_mapEntry {t : TypeId} {m y : Operand} : opF P E ⟨d, .mapEntry t m y, T, ps, af, g⟩ w k = withV E m fun m => withV E y fun y => OpM P (Instr.mapEntry t m y) w k := Eq.trans rfl rfl
@[push_cast] theorem opF_entryStore {t : TypeId} {m s x : Operand} : opF P E ⟨d, .entryStore t m s x, T, ps, af, g⟩ w k = withV E m fun m => withV E s fun s => withV E x fun x => OpU P (Instr.entryStore t m s x) w (k undef) := Eq.trans rfl rfl
@[push_cast] theorem opF_range {t : TypeId} {x : Operand} : opF P E ⟨d, .range t x, T, ps, af, g⟩ w k = withV E x fun v => OpM P (Instr.range t v) w k := Eq.trans rfl rfl
@[push_cast] theorem opF_next {x : Operand} {b : Bool} : opF P E ⟨d, .next x b, T, ps, af, g⟩ w k = withV E x fun v => OpM P (Instr.next v b T) w k := Eq.trans rfl rfl
@[push_cast] theorem opF_entry {x : Operand} : opF P E ⟨d, .entry x, T, ps, af, g⟩ w k = withV E x fun v => OpM P (Instr.entry v) w k := Eq.trans rfl rfl
@[push_cast] theorem opF_call {f : FuncId} {as : Array Operand} {ts : Array TypeId} : opF P E ⟨d, .call ⟨.value (.func f), as, ts⟩, T, ps, af, g⟩ w k = withL E as.toList fun vs => enters P f = true ∧ CallM P f vs.toArray w k := Eq.trans rfl rfl
@[push_cast] theorem opF_append {as : Array Operand} {ts : Array TypeId} : opF P E ⟨d, .call ⟨.builtin .append, as, ts⟩, T, ps, af, g⟩ w k = withL E as.toList fun vs => OpM P (Builtin.append_ ts T vs.toArray) w k := Eq.trans rfl rfl
@[push_cast] theorem opF_copy {as : Array Operand} {ts : Array TypeId} : opF P E ⟨d, .call ⟨.builtin .copy, as, ts⟩, T, ps, af, g⟩ w k = withL E as.toList fun vs => OpM P (Builtin.copy_ ts T vs.toArray) w k := Eq.trans rfl rfl
@[push_cast] theorem opF_delete {as : Array Operand} {ts : Array TypeId} : opF P E ⟨d, .call ⟨.builtin .delete, as, ts⟩, T, ps, af, g⟩ w k = withL E as.toList fun vs => OpM P (Builtin.delete_ ts T vs.toArray) w k := Eq.trans rfl rfl
@[push_cast] theorem opF_len {as : Array Operand} {ts : Array TypeId} : opF P E ⟨d, .call ⟨.builtin .len, as, ts⟩, T, ps, af, g⟩ w k = withL E as.toList fun vs => lenV P w ts T vs fun v => k v w := Eq.trans rfl rfl
@[push_cast] theorem opF_max {as : Array Operand} {ts : Array TypeId} : opF P E ⟨d, .call ⟨.builtin .max, as, ts⟩, T, ps, af, g⟩ w k = withL E as.toList fun vs => mmV true vs fun v => k v w := Eq.trans rfl rfl
@[push_cast] theorem opF_min {as : Array Operand} {ts : Array TypeId} : opF P E ⟨d, .call ⟨.builtin .min, as, ts⟩, T, ps, af, g⟩ w k = withL E as.toList fun vs => mmV false vs fun v => k v w := Eq.trans rfl rfl
/-! 'valF' -/
@[push_cast] theorem valF_move {x : Operand} : valF P w E ⟨d, .move x, T, ps, af, g⟩ K = withV E x fun v => K v := Eq.trans rfl rfl
@[push_cast] theorem valF_assign {x : Operand} : valF P w E ⟨d, .assign x, T, ps, af, g⟩ K = withV E x fun v => K v := Eq.trans rfl rfl
@[push_cast] theorem valF_pick {c a b : Operand} : valF P w E ⟨d, .pick c a b, T, ps, af, g⟩ K = withV E c fun cv => boolV cv (withV E a fun v => K v) (withV E b fun v => K v) := Eq.trans rfl rfl
@[push_cast] theorem valF_load {t : TypeId} {x : Operand} : valF P w E ⟨d, .load t x, T, ps, af, g⟩ K = withV E x fun v => ptrF v fun b o => loadV (tyOf P t) w.heap[b]? o K := Eq.trans rfl rfl
@[push_cast] theorem valF_lookup {t : TypeId} {x y : Operand} {ok : Bool} : valF P w E ⟨d, .lookup t x y ok, T, ps, af, g⟩ K = withV E x fun m => withV E y fun i => TakeU P w (Instr.lookup t m i ok) K := Eq.trans rfl rfl
@[push_cast] theorem valF_build {t : TypeId} {q : Array (Nat × Operand)} : valF P w E ⟨d, .build t q, T, ps, af, g⟩ K = withP E q.toList fun vs => TakeP P (Instr.build t vs.toArray) K := Eq.trans rfl rfl
@[push_cast] theorem valF_fieldAddr {t : TypeId} {x : Operand} {i : Nat} : valF P w E ⟨d, .fieldAddr t x i, T, ps, af, g⟩ K = withV E x fun v => ptrA v fun a => optF (fieldOff P t i) fun off => K (.pointer (some (a.add off))) := by
  unfold valF withV ptrA
  dsimp only
  cases evO E x with
  | none => rfl
  | some v => cases v with
    | pointer p => cases p with
      | none => rfl
      | some a => dsimp only; cases fieldOff P t i <;> rfl
    | _ => rfl
@[push_cast] theorem valF_field {t : TypeId} {x : Operand} {i : Nat} : valF P w E ⟨d, .field t x i, T, ps, af, g⟩ K = withV E x fun v => fldV P t i v K := Eq.trans rfl rfl
@[push_cast] theorem valF_indexAddr {t : TypeId} {x y : Operand} : valF P w E ⟨d, .indexAddr t x y, T, ps, af, g⟩ K = withV E x fun v => withV E y fun i => idxV P t v i K := Eq.trans rfl rfl
@[push_cast] theorem valF_index {t : TypeId} {x y : Operand} : valF P w E ⟨d, .index t x y, T, ps, af, g⟩ K = withV E x fun v => withV E y fun i => indexV P t v i K := Eq.trans rfl rfl
@[push_cast] theorem valF_extract {x : Operand} {i : Nat} : valF P w E ⟨d, .extract x i, T, ps, af, g⟩ K = withV E x fun v => extractV v i K := Eq.trans rfl rfl
@[push_cast] theorem valF_binOp {op : BinOp} {t u : TypeId} {x y : Operand} : valF P w E ⟨d, .binOp op t x y u, T, ps, af, g⟩ K = withV E x fun v => withV E y fun u => binV P w op t x y v u K := Eq.trans rfl rfl
@[push_cast] theorem valF_unOp {op : UnOp} {t : TypeId} {x : Operand} : valF P w E ⟨d, .unOp op t x, T, ps, af, g⟩ K = withV E x fun v => unV op v K := Eq.trans rfl rfl
@[push_cast] theorem valF_convert {s t : TypeId} {x : Operand} : valF P w E ⟨d, .convert s t x, T, ps, af, g⟩ K = withV E x fun v => convV P w s t v K := Eq.trans rfl rfl
@[push_cast] theorem valF_slice {t : TypeId} {x : Operand} {lo hi mx : Option Operand} : valF P w E ⟨d, .slice t x lo hi mx, T, ps, af, g⟩ K = withV E x fun v => withO E lo fun lo => withO E hi fun hi => withO E mx fun mx => sliceV P t v lo hi mx K := Eq.trans rfl rfl
@[push_cast] theorem valF_nilCheck {x : Operand} : valF P w E ⟨d, .nilCheck x, T, ps, af, g⟩ K = withV E x fun v => nilF v K := Eq.trans rfl rfl
@[push_cast] theorem valF_len {as : Array Operand} {ts : Array TypeId} : valF P w E ⟨d, .call ⟨.builtin .len, as, ts⟩, T, ps, af, g⟩ K = withL E as.toList fun vs => lenV P w ts T vs K := Eq.trans rfl rfl
@[push_cast] theorem valF_max {as : Array Operand} {ts : Array TypeId} : valF P w E ⟨d, .call ⟨.builtin .max, as, ts⟩, T, ps, af, g⟩ K = withL E as.toList fun vs => mmV true vs K := Eq.trans rfl rfl
@[push_cast] theorem valF_min {as : Array Operand} {ts : Array TypeId} : valF P w E ⟨d, .call ⟨.builtin .min, as, ts⟩, T, ps, af, g⟩ K = withL E as.toList fun vs => mmV false vs K := Eq.trans rfl rfl
end
/-! ### What the values come to -/
section
variable {P : Program} {w : World} {T : TypeId} {x y : Operand} {q r : IntKind} {a b : Int} {K : Value → Prop}
@[push_cast] theorem bin_add : binV P w .add T x y (.int q a) (.int q b) K = K (.int q (q.wrap (a + b))) := by simp [binV]
@[push_cast] theorem bin_sub : binV P w .sub T x y (.int q a) (.int q b) K = K (.int q (q.wrap (a - b))) := by simp [binV]
@[push_cast] theorem bin_mul : binV P w .mul T x y (.int q a) (.int q b) K = K (.int q (q.wrap (a * b))) := by simp [binV]
@[push_cast] theorem bin_quo : binV P w .quo T x y (.int q a) (.int q b) K = (b ≠ 0 ∧ K (.int q (q.wrap (a.tdiv b)))) := by simp [binV]
@[push_cast] theorem bin_rem : binV P w .rem T x y (.int q a) (.int q b) K = (b ≠ 0 ∧ K (.int q (a.tmod b))) := by simp [binV]
@[push_cast] theorem bin_and : binV P w .and T x y (.int q a) (.int q b) K = K (.int q (bitI .and q a b)) := by simp [binV]
@[push_cast] theorem bin_or : binV P w .or T x y (.int q a) (.int q b) K = K (.int q (bitI .or q a b)) := by simp [binV]
@[push_cast] theorem bin_xor : binV P w .xor T x y (.int q a) (.int q b) K = K (.int q (bitI .xor q a b)) := by simp [binV]
@[push_cast] theorem bin_andNot : binV P w .andNot T x y (.int q a) (.int q b) K = K (.int q (bitI .andNot q a b)) := by simp [binV]
@[push_cast] theorem bin_eql : binV P w .eql T x y (.int q a) (.int q b) K = K (.bool (decide (a = b))) := by simp [binV]
@[push_cast] theorem bin_neq : binV P w .neq T x y (.int q a) (.int q b) K = K (.bool (!decide (a = b))) := by simp [binV]
@[push_cast] theorem bin_lss : binV P w .lss T x y (.int q a) (.int q b) K = K (.bool (decide (a < b))) := by simp [binV]
@[push_cast] theorem bin_leq : binV P w .leq T x y (.int q a) (.int q b) K = K (.bool (decide (a ≤ b))) := by simp [binV]
@[push_cast] theorem bin_gtr : binV P w .gtr T x y (.int q a) (.int q b) K = K (.bool (decide (a > b))) := by simp [binV]
@[push_cast] theorem bin_geq : binV P w .geq T x y (.int q a) (.int q b) K = K (.bool (decide (a ≥ b))) := by simp [binV]
@[push_cast] theorem bin_shl : binV P w .shl T x y (.int q a) (.int r b) K = (0 ≤ b ∧ K (.int q (q.wrap (a * 2 ^ (min b.toNat q.bits))))) := Eq.trans rfl rfl
@[push_cast] theorem bin_shr : binV P w .shr T x y (.int q a) (.int r b) K = (0 ≤ b ∧ K (.int q (a.fdiv (2 ^ (min b.toNat q.bits))))) := Eq.trans rfl rfl
@[push_cast] theorem bin_cat {s t : ByteArray} : binV P w .add T x y (.string s) (.string t) K = (((s.size + t.size : Nat) : Int) ≤ 9223372036854775807 ∧ K (.string (s ++ t))) := Eq.trans rfl rfl
@[push_cast] theorem bin_seq {s t : ByteArray} : binV P w .eql T x y (.string s) (.string t) K = K (.bool (strEq s t)) := Eq.trans rfl rfl
@[push_cast] theorem bin_sne {s t : ByteArray} : binV P w .neq T x y (.string s) (.string t) K = K (.bool (!strEq s t)) := Eq.trans rfl rfl
@[push_cast] theorem bin_peq {p u : Option Addr} : binV P w .eql T x y (.pointer p) (.pointer u) K = optF (eqV P T (.pointer p) (.pointer u)) fun b => K (.bool b) := by
  show (match eqV P T (.pointer p) (.pointer u) with | some b => _ | none => _) = _
  cases eqV P T (.pointer p) (.pointer u) <;> rfl
@[push_cast] theorem bin_pne {p u : Option Addr} : binV P w .neq T x y (.pointer p) (.pointer u) K = optF (eqV P T (.pointer p) (.pointer u)) fun b => K (.bool (!b)) := by
  show (match eqV P T (.pointer p) (.pointer u) with | some b => _ | none => _) = _
  cases eqV P T (.pointer p) (.pointer u) <;> rfl
@[push_cast] theorem bin_leq' {p u : Option Addr} {n c m e : Nat} : binV P w .eql T x y (.slice p n c) (.slice u m e) K = optF (eqV P T (.slice p n c) (.slice u m e)) fun b => K (.bool b) := by
  show (match eqV P T (.slice p n c) (.slice u m e) with | some b => _ | none => _) = _
  cases eqV P T (.slice p n c) (.slice u m e) <;> rfl
@[push_cast] theorem bin_lne' {p u : Option Addr} {n c m e : Nat} : binV P w .neq T x y (.slice p n c) (.slice u m e) K = optF (eqV P T (.slice p n c) (.slice u m e)) fun b => K (.bool (!b)) := by
  show (match eqV P T (.slice p n c) (.slice u m e) with | some b => _ | none => _) = _
  cases eqV P T (.slice p n c) (.slice u m e) <;> rfl
@[push_cast] theorem bin_meq {p u : Option Nat} : binV P w .eql T x y (.map p) (.map u) K = optF (eqV P T (.map p) (.map u)) fun b => K (.bool b) := by
  show (match eqV P T (.map p) (.map u) with | some b => _ | none => _) = _
  cases eqV P T (.map p) (.map u) <;> rfl
@[push_cast] theorem bin_mne {p u : Option Nat} : binV P w .neq T x y (.map p) (.map u) K = optF (eqV P T (.map p) (.map u)) fun b => K (.bool (!b)) := by
  show (match eqV P T (.map p) (.map u) with | some b => _ | none => _) = _
  cases eqV P T (.map p) (.map u) <;> rfl
@[push_cast] theorem bin_beq {a b : Bool} : binV P w .eql T x y (.bool a) (.bool b) K = optF (eqV P T (.bool a) (.bool b)) fun b => K (.bool b) := by
  show (match eqV P T (.bool a) (.bool b) with | some b => _ | none => _) = _
  cases eqV P T (.bool a) (.bool b) <;> rfl
@[push_cast] theorem bin_bne {a b : Bool} : binV P w .neq T x y (.bool a) (.bool b) K = optF (eqV P T (.bool a) (.bool b)) fun b => K (.bool (!b)) := by
  show (match eqV P T (.bool a) (.bool b) with | some b => _ | none => _) = _
  cases eqV P T (.bool a) (.bool b) <;> rfl
@[push_cast] theorem eqV_p {b : Option Addr} : eqV P T (.pointer none) (.pointer b) = match isPtrT P T with | true => some b.isNone | false => none := by cases b <;> rfl
@[push_cast] theorem eqV_p2 {b : Option Addr} : eqV P T (.pointer b) (.pointer none) = match isPtrT P T with | true => some b.isNone | false => none := by cases b <;> rfl
@[push_cast] theorem eqV_s {b : Option Addr} {n c m e : Nat} : eqV P T (.slice b n c) (.slice none m e) = match isSliceT P T with | true => some b.isNone | false => none := by cases b <;> rfl
@[push_cast] theorem eqV_m {b : Option Nat} : eqV P T (.map b) (.map none) = match isMapT P T with | true => some b.isNone | false => none := by cases b <;> rfl
@[push_cast] theorem eqV_b {a b : Bool} : eqV P T (.bool a) (.bool b) = match isBoolT P T with | true => some (a == b) | false => none := Eq.trans rfl rfl
@[push_cast] theorem un_not {b : Bool} : unV .not (.bool b) K = K (.bool (!b)) := Eq.trans rfl rfl
@[push_cast] theorem un_neg : unV .neg (.int q a) K = K (.int q (q.wrap (0 - a))) := Eq.trans rfl rfl
@[push_cast] theorem un_xor : unV .xor (.int q a) K = K (.int q (bitI .xor q (if q.signed then -1 else q.max) a)) := Eq.trans rfl rfl
@[push_cast] theorem conv_int {s t : TypeId} : convV P w s t (.int q a) K = optF (intT P t) fun q => (P.underlying s).isSome = true ∧ K (.int q (q.wrap a)) := by show (match intT P t with | some q => _ | none => _) = _; cases intT P t <;> rfl
@[push_cast] theorem conv_str {s t : TypeId} {z : ByteArray} : convV P w s t (.string z) K = boolF (isStringT P t) ((P.underlying s).isSome = true ∧ K (.string z)) False := Eq.trans rfl rfl
@[push_cast] theorem conv_sl {s t : TypeId} {p : Option Addr} {n c : Nat} : convV P w s t (.slice p n c) K = TakeU P w (convert s t (.slice p n c)) K := Eq.trans rfl rfl
@[push_cast] theorem ext_tuple {vs : Array Value} {i : Nat} : extractV (.tuple vs) i K = lk vs[i]? K := Eq.trans rfl rfl
@[push_cast] theorem len_str {t : TypeId} {z : ByteArray} : lenV P w #[t] T [.string z] K = (isStringT P t = true ∧ K (.int .i64 z.size)) := Eq.trans rfl rfl
@[push_cast] theorem len_sl {t : TypeId} {p : Option Addr} {n c : Nat} : lenV P w #[t] T [.slice p n c] K = (isSliceT P t = true ∧ K (.int .i64 n)) := Eq.trans rfl rfl
@[push_cast] theorem len_map {t : TypeId} {p : Option Nat} : lenV P w #[t] T [.map p] K = TakeU P w (Builtin.len_ #[t] T #[.map p]) K := Eq.trans rfl rfl
@[push_cast] theorem mm_max : mmV true [.int q a, .int r b] K = K (.int q (max a b)) := Eq.trans rfl rfl
@[push_cast] theorem mm_min : mmV false [.int q a, .int r b] K = K (.int q (min a b)) := Eq.trans rfl rfl
@[push_cast] theorem mm_min3 {c : Int} {z : IntKind} : mmV false [.int q a, .int r b, .int z c] K = K (.int q (min (min a b) c)) := Eq.trans rfl rfl
@[push_cast] theorem index_str {z : ByteArray} : indexV P T (.string z) (.int q a) K = (isStringT P T = true ∧ (0 ≤ a ∧ a < (z.size : Int)) ∧ K (.int .u8 (bAt z a))) := Eq.trans rfl rfl
@[push_cast] theorem idx_sl {p : Addr} {n c : Nat} : idxV P T (.slice (some p) n c) (.int q a) K = optF (sliceEl P T) fun s => (0 ≤ a ∧ a < (n : Int)) ∧ K (.pointer (some (p.add (a.toNat * s)))) := by
  first
    | (show (match sliceEl P T with | some s => _ | none => _) = _; cases sliceEl P T <;> rfl)
@[push_cast] theorem idx_arr {p : Addr} : idxV P T (.pointer (some p)) (.int q a) K = pairF (arrayEl P T) fun n s => (0 ≤ a ∧ a < (n : Int)) ∧ K (.pointer (some (p.add (a.toNat * s)))) := by
  first
    | (show (match arrayEl P T with | some (n, s) => _ | none => _) = _; cases arrayEl P T <;> rfl)
@[push_cast] theorem slice_str {z : ByteArray} {lo hi : Option Value} : sliceV P T (.string z) lo hi none K = boolF (isStringT P T) (bndF lo hi z.size z.size fun l u => K (.string (z.extract l u))) False := Eq.trans rfl rfl
@[push_cast] theorem slice_sl {p : Option Addr} {n c : Nat} {lo hi : Option Value} : sliceV P T (.slice p n c) lo hi none K = optF (sliceEl P T) fun z => bndF lo hi n c fun l u => K (.slice (if c = l then p else p.map (·.add (l * z))) (u - l) (c - l)) := by
  first
    | (show (match sliceEl P T with | some s => _ | none => _) = _; cases sliceEl P T <;> rfl)
@[push_cast] theorem slice_arr {p : Addr} {lo hi : Option Value} : sliceV P T (.pointer (some p)) lo hi none K = pairF (arrayEl P T) fun n z => bndF lo hi n n fun l u => K (.slice (some (if n = l then p else p.add (l * z))) (u - l) (n - l)) := by
  first
    | (show (match arrayEl P T with | some (n, s) => _ | none => _) = _; cases arrayEl P T <;> rfl)
@[push_cast] theorem bnd_nn {n c : Nat} {f : Nat → Nat → Prop} : bndF none none n c f = f 0 n := Eq.trans rfl rfl
@[push_cast] theorem bnd_ln {n c : Nat} {f : Nat → Nat → Prop} : bndF (some (.int q a)) none n c f = ((0 ≤ a ∧ a ≤ (n : Int)) ∧ f a.toNat n) := Eq.trans rfl rfl
@[push_cast] theorem bnd_nh {n c : Nat} {f : Nat → Nat → Prop} : bndF none (some (.int q a)) n c f = ((0 ≤ a ∧ a ≤ (c : Int)) ∧ f 0 a.toNat) := Eq.trans rfl rfl
@[push_cast] theorem bnd_lh {n c : Nat} {f : Nat → Nat → Prop} : bndF (some (.int q a)) (some (.int r b)) n c f = ((0 ≤ b ∧ b ≤ (c : Int)) ∧ (0 ≤ a ∧ a ≤ b) ∧ f a.toNat b.toNat) := Eq.trans rfl rfl
@[push_cast] theorem load_one {n o : Nat} {cs : Array Value} {U : TypeId} {fr : Nat × Nat} : loadV (some (false, n)) (some (.cells cs U fr)) o K = lk cs[o]? K := Eq.trans rfl rfl
@[push_cast] theorem load_agg {n o : Nat} {cs : Array Value} {U : TypeId} {fr : Nat × Nat} : loadV (some (true, n)) (some (.cells cs U fr)) o K = (o + n ≤ cs.size ∧ K (.agg (cs.extract o (o + n)))) := Eq.trans rfl rfl
end
attribute [push_cast] add_mk Nat.zero_add Nat.add_zero Nat.mul_one Nat.mul_zero Nat.zero_mul Int.toNat_natCast Bool.not_true Bool.not_false Bool.not_not true_and and_true if_true if_false Option.isNone_some Option.isNone_none Option.isSome_some List.size_toArray List.length_cons List.length_nil List.getElem?_toArray List.getElem?_cons_zero List.getElem?_cons_succ
  decide_true decide_false eq_self ne_eq Option.map_some Option.map_none List.toList_toArray Value.cells.eq_1 List.extract_toArray List.extract_eq_take_drop List.drop_zero List.take_succ_cons List.drop_succ_cons List.take_zero
theorem wrap_i64 {n : Int} (h : -9223372036854775808 ≤ n ∧ n ≤ 9223372036854775807) : IntKind.i64.wrap n = n := by
  have e : IntKind.i64.wrap n = (if n % 18446744073709551616 ≥ 9223372036854775808 then n % 18446744073709551616 - 18446744073709551616 else n % 18446744073709551616) := by
    simp [IntKind.wrap, IntKind.bits, IntKind.signed]
  rw [e]; split <;> omega
theorem wrap_u64 {n : Int} (h : 0 ≤ n ∧ n ≤ 18446744073709551615) : IntKind.u64.wrap n = n := by
  have e : IntKind.u64.wrap n = n % 18446744073709551616 := by simp [IntKind.wrap, IntKind.bits, IntKind.signed]
  rw [e]; omega
theorem wrap_u32 {n : Int} (h : 0 ≤ n ∧ n ≤ 4294967295) : IntKind.u32.wrap n = n := by
  have e : IntKind.u32.wrap n = n % 4294967296 := by simp [IntKind.wrap, IntKind.bits, IntKind.signed]
  rw [e]; omega
theorem wrap_u8 {n : Int} (h : 0 ≤ n ∧ n ≤ 255) : IntKind.u8.wrap n = n := by
  have e : IntKind.u8.wrap n = n % 256 := by simp [IntKind.wrap, IntKind.bits, IntKind.signed]
  rw [e]; omega
attribute [push_cast] wrap_i64 wrap_u64 wrap_u32 wrap_u8 Int.tdiv_eq_ediv_of_nonneg Int.tmod_eq_emod_of_nonneg not_false_eq_true
/-! ### Over code -/
section
variable {P : Program} {n : Nat} {Q : Exit → List (Nat × Value) → World → Prop} {E : List (Nat × Value)} {w : World} {K : List (Nat × Value) → World → Prop}
@[push_cast] theorem after_ret : after K Q .ret E w = Q .ret E w := Eq.trans rfl rfl
@[push_cast] theorem after_exit {i : Nat} : after K Q (.exit i) E w = Q (.exit i) E w := Eq.trans rfl rfl
@[push_cast] theorem inBlock_normal {i : Nat} : inBlock i Q .normal E w = Q .normal E w := Eq.trans rfl rfl
@[push_cast] theorem inBlock_ret {i : Nat} : inBlock i Q .ret E w = Q .ret E w := Eq.trans rfl rfl
@[push_cast] theorem inBlock_exit {i j : Nat} : inBlock i Q (.exit j) E w = match Nat.beq j i with | true => Q .normal E w | false => Q (.exit j) E w := Eq.trans rfl rfl
@[push_cast] theorem retQ_ret {rs : List ResultVar} {R : Value → World → Prop} : retQ P rs R .ret E w = resF P E w rs fun vs => R (pack vs) w := Eq.trans rfl rfl
@[push_cast] theorem retQ_normal {rs : List ResultVar} {R : Value → World → Prop} : retQ P rs R .normal E w = resF P E w rs fun vs => R (pack vs) w := Eq.trans rfl rfl
@[push_cast] theorem pack_one {v : Value} : pack [v] = v := rfl
@[push_cast] theorem pack_nil : pack [] = .tuple #[] := rfl
@[push_cast] theorem pack_two {v u : Value} : pack [v, u] = .tuple #[v, u] := rfl
@[push_cast] theorem pack_three {v u x : Value} : pack [v, u, x] = .tuple #[v, u, x] := rfl
theorem callM_of {f : FuncId} {args : Array Value} {k R : Value → World → Prop} (h : CallM P f args w R) (hk : ∀ v w', R v w' → k v w') : CallM P f args w k :=
  Calls.mono h fun e w' he => by cases e <;> first | exact hk _ _ he | exact he
theorem callM_V {f : FuncId} {fn : Func} {c : Code} {args : List Value} {R : Value → World → Prop} (hf : P.funcs[f]? = some fn) (hb : fn.body = some c) {n : Nat} (hm : fn.ntmps = n) (hn : Nat.ble args.length n = true) {rs : List ResultVar} (hr : fn.results.toList = rs)
    (h : V P n c (retQ P rs R) (args0 0 args) w) : CallM P f args.toArray w R := by
  subst hm hr
  exact calls_V hf hb (Nat.le_of_ble_eq_true hn) h
end

/-- The temporaries of l, in l's order. -/
def sel : List Nat → List (Nat × Value) → List (Nat × Value)
  | [], _ => []
  | t :: r, E => match look E t with | some v => (t, v) :: sel r E | none => sel r E
attribute [push_cast] sel.eq_1 sel.eq_2
theorem look_sel {l : List Nat} {E : List (Nat × Value)} {t : Nat} {v : Value} (h : look (sel l E) t = some v) : look E t = some v := by
  induction l with
  | nil => cases h
  | cons x r ih =>
    simp only [sel] at h
    cases hx : look E x with
    | none => rw [hx] at h; exact ih h
    | some u =>
      rw [hx] at h
      simp only [look] at h
      cases hb : Nat.beq x t with
      | true => rw [hb] at h; have := Nat.eq_of_beq_eq_true hb; subst this; rw [hx]; exact h
      | false => rw [hb] at h; exact ih h
theorem Holds.sel {n : Nat} {E : List (Nat × Value)} {a : Act} (h : Holds n E a) (l : List Nat) : Holds n (sel l E) a := ⟨h.1, h.2.1, fun t v hv => h.2.2 t v (look_sel hv)⟩
theorem V_sel {P : Program} {n : Nat} {Q : Exit → List (Nat × Value) → World → Prop} {E : List (Nat × Value)} {w : World} {c : Code} (l : List Nat) (h : V P n c Q (sel l E) w) : V P n c Q E w := fun a ha => h a (ha.sel l)
/-! ### Steps: a region, and what goes on behind it with the temporaries that are still asked for -/
def memB (l : List Nat) (t : Nat) : Bool := match l with
  | [] => false
  | x :: r => match Nat.beq x t with | true => true | false => memB r t
attribute [push_cast] memB.eq_1 memB.eq_2
section
variable {P : Program} {n : Nat} {Q : Exit → List (Nat × Value) → World → Prop} {E : List (Nat × Value)} {w : World} {id : Nat} {ops : Array Oper} {y : Code}
theorem VR (l : List Nat) (hf : fits n ops = true) (h : R P ops ops.toList E w fun E' w' => V P n y Q (sel l E') w') : V P n (.seq (.region id ops false) y) Q E w :=
  fun a ha => wp_seq (wp_region (R_sound hf (fun E' a w hE hK => V_sel _ hK a hE) _ _ (range_map ops) E a w ha h))
theorem VR1 (l : List Nat) (hf : fits n ops = true) (h : R P ops ops.toList E w fun E' w' => Q .normal (sel l E') w') : V P n (.region id ops false) Q E w :=
  fun a ha => wp_region (R_sound hf (fun E' a w hE hK => ⟨_, hE.sel _, hK⟩) _ _ (range_map ops) E a w ha h)
theorem VD_aux {Q' : Exit → Act → World → Prop} {K : List (Nat × Value) → World → Prop} (sc : List (Bool × Nat)) (hok : okDraw n ops sc = true) (hm : P.follows .mixedOrders = true)
    (hQ : ∀ c a w, ¬ Q' (.panic c) a w) (hK : ∀ E a w, Holds n E a → K E w → Q' .normal a w) (h : ∀ w1, w1.heap = w.heap → Up w w1 → D P ops w1 (needs ops sc) sc E w1 K) {a : Act} (ha : Holds n E a) : (Code.region id ops true).wp P Q' a w := by
  refine wp_region_any hm ?_
  have hlen : sc.length = ops.size := by
    simp only [okDraw, Bool.and_eq_true] at hok
    exact Nat.eq_of_beq_eq_true hok.1.2
  have hc : chk ops sc (Array.replicate ops.size false) = true := by
    simp only [okDraw, Bool.and_eq_true] at hok
    exact hok.1.1.2
  rw [← hlen]
  exact wpAny_of_wpG _ _ _ _ (D_sound (w1 := w.drew) hok (fun c a d v w hq => (hQ c _ w hq).elim) hK sc [] rfl _ (Cl.start _ _) (hlen ▸ hc) E a w.drew ha (fun _ => Kp.refl _ _) (h w.drew rfl (drew_up w)))
theorem VD (l : List Nat) (sc : List (Bool × Nat)) {N : List Nat} (hok : okDraw n ops sc = true) (hN : needs ops sc = N) (hm : P.follows .mixedOrders = true) (hQ : ∀ c E w, ¬ Q (.panic c) E w)
    (h : ∀ w1, w1.heap = w.heap → Up w w1 → D P ops w1 N sc E w1 fun E' w' => V P n y Q (sel l E') w') : V P n (.seq (.region id ops true) y) Q E w := by
  subst hN
  exact fun a ha => wp_seq (VD_aux sc hok hm (fun c a w ⟨E, _, hq⟩ => hQ c E w hq) (fun E' a w hE hK => V_sel _ hK a hE) h ha)
theorem VD1 (l : List Nat) (sc : List (Bool × Nat)) {N : List Nat} (hok : okDraw n ops sc = true) (hN : needs ops sc = N) (hm : P.follows .mixedOrders = true) (hQ : ∀ c E w, ¬ Q (.panic c) E w)
    (h : ∀ w1, w1.heap = w.heap → Up w w1 → D P ops w1 N sc E w1 fun E' w' => Q .normal (sel l E') w') : V P n (.region id ops true) Q E w := by
  subst hN
  exact fun a ha => VD_aux sc hok hm (fun c a w ⟨E, _, hq⟩ => hQ c E w hq) (fun E' a w hE hK => ⟨_, hE.sel _, hK⟩) h ha
theorem V_ift {c : Operand} {x y : Code} (hc : evO E c = some (.bool true)) (h : V P n x Q E w) : V P n (.cond c x y) Q E w := V_cond hc (fun _ => h) (fun e => by cases e)
theorem V_iff {c : Operand} {x y : Code} (hc : evO E c = some (.bool false)) (h : V P n y Q E w) : V P n (.cond c x y) Q E w := V_cond hc (fun e => by cases e) (fun _ => h)
theorem V_ifd {c : Operand} {x y : Code} {p : Prop} [Decidable p] (hc : evO E c = some (.bool (decide p))) (h1 : p → V P n x Q E w) (h2 : ¬ p → V P n y Q E w) : V P n (.cond c x y) Q E w :=
  V_cond hc (fun e => h1 (of_decide_eq_true e)) (fun e => h2 (of_decide_eq_false e))
theorem V_ifnd {c : Operand} {x y : Code} {p : Prop} [Decidable p] (hc : evO E c = some (.bool (!decide p))) (h1 : ¬ p → V P n x Q E w) (h2 : p → V P n y Q E w) : V P n (.cond c x y) Q E w :=
  V_cond hc (fun e => h1 (of_decide_eq_false (by simpa using e))) (fun e => h2 (of_decide_eq_true (by simpa using e)))
/-- The round's end: the loop goes on, a step nearer. -/
def again {ι : Type} (l : List Nat) (env : ι → List (Nat × Value)) (I : ι → World → Prop) (μ : ι → Nat) (i : ι) (E' : List (Nat × Value)) (w' : World) : Prop := ∃ i', sel l E' = env i' ∧ I i' w' ∧ μ i' < μ i
@[congr] theorem again_congr {ι : Type} {l : List Nat} {env : ι → List (Nat × Value)} {I : ι → World → Prop} {μ : ι → Nat} {i : ι} {E E' : List (Nat × Value)} {w : World} (h : mk E = E') : again l env I μ i E w = again l env I μ i E' w := by rw [← mk_eq E, h]
theorem V_loopE {c : Code} {ι : Type} (l : List Nat) (env : ι → List (Nat × Value)) (I : ι → World → Prop) (μ : ι → Nat) (i₀ : ι) (hE : sel l E = env i₀) (h₀ : I i₀ w)
    (round : ∀ i w, I i w → V P n c (after (again l env I μ i) Q) (env i) w) : V P n (.loop c) Q E w :=
  V_loop (fun i E w => sel l E = env i ∧ I i w) μ i₀ ⟨hE, h₀⟩ (fun i E w ⟨he, hI⟩ => V_sel l (he ▸ V_mono (round i w hI) (fun e E' w' hq => by
    cases e <;> first
      | exact hq
      | (obtain ⟨i', h1, h2, h3⟩ := hq; exact ⟨i', ⟨h1, h2⟩, h3⟩))))
end
end Go.Vc
/- Numbers: masks, shifts and bytes, as the walk leaves them. -/
set_option linter.unusedVariables false
set_option linter.unusedSimpArgs false
namespace Go.Vc
open Go Go.RowKit
theorem bAt_range (s : ByteArray) (i : Int) : 0 ≤ bAt s i ∧ bAt s i ≤ 255 := by
  unfold bAt
  have := (s.data.toList.getD i.toNat 0).toNat_lt
  omega
theorem bAt_nat (s : ByteArray) (i : Nat) (h : i < s.data.toList.length) : bAt s (i : Int) = (s.data.toList[i].toNat : Int) := by
  unfold bAt
  rw [Int.toNat_natCast, List.getD_eq_getElem?_getD, List.getElem?_eq_getElem h]; rfl
theorem wrap_nat (k : IntKind) (n : Nat) (h : n < 2 ^ (k.bits - (if k.signed then 1 else 0))) : k.wrap (n : Int) = n := by
  cases k <;> simp [IntKind.wrap, IntKind.bits, IntKind.signed] at h ⊢ <;> (try split) <;> omega
theorem bitI_and (k : IntKind) (a b : Nat) (ha : a < 2 ^ (k.bits - (if k.signed then 1 else 0))) (hb : b < 2 ^ (k.bits - (if k.signed then 1 else 0))) : bitI .and k (a : Int) (b : Int) = ((a &&& b : Nat) : Int) := by
  have h2 : (2 : Nat) ^ (k.bits - (if k.signed then 1 else 0)) ≤ 2 ^ k.bits := Nat.pow_le_pow_right (by omega) (by omega)
  show k.wrap ((BitVec.ofInt k.bits a &&& BitVec.ofInt k.bits b).toNat : Nat) = _
  rw [BitVec.toNat_and, BitVec.ofInt_natCast, BitVec.ofInt_natCast, BitVec.toNat_ofNat, BitVec.toNat_ofNat, Nat.mod_eq_of_lt (by omega), Nat.mod_eq_of_lt (by omega)]
  exact wrap_nat k _ (Nat.lt_of_le_of_lt Nat.and_le_left ha)
theorem bitI_or (k : IntKind) (a b : Nat) (ha : a < 2 ^ (k.bits - (if k.signed then 1 else 0))) (hb : b < 2 ^ (k.bits - (if k.signed then 1 else 0))) : bitI .or k (a : Int) (b : Int) = ((a ||| b : Nat) : Int) := by
  have h2 : (2 : Nat) ^ (k.bits - (if k.signed then 1 else 0)) ≤ 2 ^ k.bits := Nat.pow_le_pow_right (by omega) (by omega)
  show k.wrap ((BitVec.ofInt k.bits a ||| BitVec.ofInt k.bits b).toNat : Nat) = _
  rw [BitVec.toNat_or, BitVec.ofInt_natCast, BitVec.ofInt_natCast, BitVec.toNat_ofNat, BitVec.toNat_ofNat, Nat.mod_eq_of_lt (by omega), Nat.mod_eq_of_lt (by omega)]
  exact wrap_nat k _ (Nat.or_lt_two_pow ha hb)
theorem bitI_xor (k : IntKind) (a b : Nat) (ha : a < 2 ^ (k.bits - (if k.signed then 1 else 0))) (hb : b < 2 ^ (k.bits - (if k.signed then 1 else 0))) : bitI .xor k (a : Int) (b : Int) = ((a ^^^ b : Nat) : Int) := by
  have h2 : (2 : Nat) ^ (k.bits - (if k.signed then 1 else 0)) ≤ 2 ^ k.bits := Nat.pow_le_pow_right (by omega) (by omega)
  show k.wrap ((BitVec.ofInt k.bits a ^^^ BitVec.ofInt k.bits b).toNat : Nat) = _
  rw [BitVec.toNat_xor, BitVec.ofInt_natCast, BitVec.ofInt_natCast, BitVec.toNat_ofNat, BitVec.toNat_ofNat, Nat.mod_eq_of_lt (by omega), Nat.mod_eq_of_lt (by omega)]
  exact wrap_nat k _ (Nat.xor_lt_two_pow ha hb)
theorem mask16 (x : Int) (h : 0 ≤ x ∧ x ≤ 4294967295) : bitI .and .u32 x 65535 = x % 65536 := by
  have := bitI_and .u32 x.toNat 65535 (by simp [IntKind.bits, IntKind.signed]; omega) (by simp [IntKind.bits, IntKind.signed])
  rw [show ((x.toNat : Nat) : Int) = x from by omega, Nat.and_two_pow_sub_one_eq_mod x.toNat 16] at this
  refine Eq.trans this ?_
  omega
theorem join16 (y x : Int) (hx : 0 ≤ x ∧ x ≤ 65535) (hy : 0 ≤ y ∧ y ≤ 65535) : bitI .or .u32 (y * 65536) x = y * 65536 + x := by
  have := bitI_or .u32 (y.toNat * 65536) x.toNat (by simp [IntKind.bits, IntKind.signed]; omega) (by simp [IntKind.bits, IntKind.signed]; omega)
  have e := Nat.two_pow_add_eq_or_of_lt (i := 16) (b := x.toNat) (by omega) y.toNat
  rw [show y.toNat * 65536 = 2 ^ 16 * y.toNat from by omega, ← e] at this
  rw [show (y * 65536 : Int) = ((2 ^ 16 * y.toNat : Nat) : Int) from by omega, show x = ((x.toNat : Nat) : Int) from by omega]
  refine Eq.trans this ?_
  omega
theorem u8_mod (n : Int) : IntKind.u8.wrap n = n % 256 := by simp [IntKind.wrap, IntKind.bits, IntKind.signed]
theorem u32_mod (n : Int) : IntKind.u32.wrap n = n % 4294967296 := by simp [IntKind.wrap, IntKind.bits, IntKind.signed]
theorem byteN {a : Int} (h : 0 ≤ a ∧ a < 256) : ((UInt8.ofNat a.toNat).toNat : Int) = a := by
  rw [UInt8.toNat_ofNat_of_lt' (by simp only [UInt8.size]; omega)]; omega
@[push_cast] theorem strEq_dec (s t : ByteArray) : strEq s t = decide (s = t) := by
  have e : (s = t) ↔ s.data.toList = t.data.toList := ⟨fun h => by rw [h], fun h => by cases s; cases t; congr 1; exact Array.ext' h⟩
  unfold strEq
  rw [ByteArray.toList_eq, ByteArray.toList_eq]
  by_cases h : s = t
  · rw [decide_eq_true h]; exact beq_iff_eq.2 (e.1 h)
  · rw [decide_eq_false h]; exact beq_false_of_ne (fun h' => h (e.2 h'))
theorem fdiv_pow (a : Int) (n : Nat) (h : 0 ≤ a) : a.fdiv (2 ^ n) = a / 2 ^ n := Int.fdiv_eq_ediv_of_nonneg _ (Int.le_of_lt (Int.pow_pos (by omega)))
end Go.Vc
