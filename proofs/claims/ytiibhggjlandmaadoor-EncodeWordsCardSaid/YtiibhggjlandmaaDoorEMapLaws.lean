/- Laws of the walk for maps with whole numbers as keys: looking up, inserting, a region that fills a map. No program. -/
import Derived.Test.YtiibhggjlandmaaDoorWMore
import Derived.Test.YtiibhggjlandmaaDoorProg
import Derived.MapKept
import Derived.WalkKit
namespace Go.Proofs.YtiibhggjlandmaaDoor.PF
set_option linter.unusedVariables false
set_option linter.unusedSimpArgs false
open Go.RowKit Go.Proofs.YtiibhggjlandmaaDoorW.PrintWords
variable {P : Program} {ops : Array Oper} {Q : Exit → Act → World → Prop}
/-- The entry of a whole number. -/
def findE (x : Int) : List MapEntry → Option Value
  | [] => none
  | m :: r => match m.key with
    | .int .i64 y => if x = y then some m.val else findE x r
    | _ => findE x r
theorem findNow_int (x : Int) : ∀ (es : List MapEntry) (i : Nat), (∀ m ∈ es, ∃ y, m.key = .int .i64 y) → ∃ j, Instr.findNow (.int .i64) (.int .i64 x) es i = some ((findE x es).map fun v => (j, v))
  | [], i, h => ⟨0, by simp [Instr.findNow, findE]⟩
  | m :: r, i, h => by
    obtain ⟨y, hy⟩ := h m List.mem_cons_self
    unfold Instr.findNow findE
    simp only [hy, Instr.sameNow, if_true]
    by_cases c : x = y
    · exact ⟨i, by simp [c]⟩
    · obtain ⟨j, hj⟩ := findNow_int x r (i + 1) (fun m hm => h m (List.mem_cons_of_mem _ hm))
      refine ⟨j, ?_⟩
      have c1 : (x == y) = false := beq_eq_false_iff_ne.mpr c
      rw [c1, if_neg c]
      exact hj
theorem run_lookup_int (t k e : TypeId) (w : World) (g : Nat) (es : Array MapEntry) (clock : Nat) (x : Int) (z : Value)
    (hg : w.heap[g]? = some (.map es clock)) (ht : P.underlying t = some (.map k e)) (hk : P.underlying k = some (.int .i64)) (hes : ∀ m ∈ es.toList, ∃ y, m.key = .int .i64 y) (hz : (zeroValue e).run P w = .ok z w) :
    (Instr.lookup t (.map (some g)) (.int .i64 x) true).run P w = .ok (.tuple #[(findE x es.toList).getD z, .bool (findE x es.toList).isSome]) w := by
  obtain ⟨j, hj⟩ := findNow_int x es.toList 0 hes
  have h1 := MapKept.run_getObj_map (P := P) hg
  have h2 := fun e => MapKept.run_checkKey (P := P) (w := w) hk (show MapKept.IsKey (.int .i64) (.int .i64 x) from rfl) e 9999
  have h3 := MapKept.run_findKey (P := P) (w := w) hk hj
  unfold Instr.lookup
  cases hf : findE x es.toList with
  | none =>
    rw [hf] at h3
    simp only [Sem.run_bind, Sem.run_pure, run_underlying ht, Result.andThen, h1, h2, h3, Option.map_none, hz]
    rfl
  | some v =>
    rw [hf] at h3
    simp only [Sem.run_bind, Sem.run_pure, run_underlying ht, Result.andThen, h1, h2, h3, Option.map_some]
    rfl
theorem run_insert_int (t k e : TypeId) (w : World) (g : Nat) (es : Array MapEntry) (clock : Nat) (x : Int) (v : Value)
    (hg : w.heap[g]? = some (.map es clock)) (ht : P.underlying t = some (.map k e)) (hk : P.underlying k = some (.int .i64)) (hes : ∀ m ∈ es.toList, ∃ y, m.key = .int .i64 y) (hn : findE x es.toList = none) :
    (Instr.mapUpdate t (.map (some g)) (.int .i64 x) v).run P w = .ok () { w with heap := w.heap.setIfInBounds g (.map (es.push { key := .int .i64 x, val := v, born := clock }) (clock + 1)) } := by
  obtain ⟨j, hj⟩ := findNow_int x es.toList 0 hes
  have h1 := MapKept.run_getObj_map (P := P) hg
  have h2 := MapKept.run_checkKey (P := P) (w := w) hk (show MapKept.IsKey (.int .i64) (.int .i64 x) from rfl) false 9999
  have h3 := MapKept.run_findKey (P := P) (w := w) hk hj
  rw [hn] at h3
  unfold Instr.mapUpdate
  simp only [Sem.run_bind, run_underlying ht, Result.andThen, h1, h2, h3, Option.map_none, MapKept.run_setObj_map _ hg]
/-- A region that fills one map (tmp 1) with whole numbers as keys: run outright. -/
def runM (P : Program) (T : TypeId) : List Oper → Act → List MapEntry → Nat → Option (Act × List MapEntry × Nat)
  | [], a, es, c => some (a, es, c)
  | o :: r, a, es, c =>
    if o.dst = some 1 then none else
    match o.guard, o.op with
    | .none, .build t parts => match P.built t (parts.map fun (i, x) => (i, a.eval x)).toList with
      | some cells => runM P T r (a.put o.dst (.agg cells)) es c
      | none => none
    | .none, .move x => runM P T r (a.put o.dst (a.eval x)) es c
    | .none, .assign x => runM P T r (a.put o.dst (a.eval x)) es c
    | .none, .insert t (.tmp 1) (.const (.int .i64 x)) v => if t = T ∧ (findE x es).isNone = true then runM P T r (a.put o.dst undef) (es ++ [{ key := .int .i64 x, val := a.eval v, born := c }]) (c + 1) else none
    | _, _ => none
theorem put_one (a : Act) (d : Option Tmp) (v : Value) (h : d ≠ some 1) : (a.put d v).tmps.getD 1 undef = a.tmps.getD 1 undef := by
  cases d with
  | none => rfl
  | some j =>
    have hj : j ≠ 1 := fun e => h (by rw [e])
    simp [Act.put, hj]
theorem alloc_set (w : World) (o o' : Obj) : ({ (w.alloc o) with heap := (w.alloc o).heap.setIfInBounds w.heap.size o' } : World) = w.alloc o' := by
  have e : (w.alloc o).heap.setIfInBounds w.heap.size o' = (w.alloc o').heap := by
    show (w.heap.push o).setIfInBounds w.heap.size o' = w.heap.push o'
    apply Array.ext'
    simp
  show ({ (w.alloc o) with heap := _ } : World) = _
  rw [e]; rfl
theorem event_skip {o : Oper} {rest : List Oper} {a : Act} {W w1 : World} (hgd : o.guard = none) (hrun : (execOp a.eval o).run P W = .ok .skip w1) (h : wpList P ops Q rest (a.put o.dst undef) w1) : wpList P ops Q (o :: rest) a W := by
  refine wpList_plain hgd fun K hK => ?_
  unfold Oper.wp
  rw [hrun]
  exact hK _ _ h
theorem runM_wp (T k e : TypeId) (hT : P.underlying T = some (.map k e)) (hk : P.underlying k = some (.int .i64)) (w0 : World) : ∀ (l : List Oper) (a : Act) (es : List MapEntry) (c : Nat) (x : Act × List MapEntry × Nat), runM P T l a es c = some x → a.tmps.getD 1 undef = .map (some w0.heap.size) →
    (∀ m ∈ es, ∃ y, m.key = .int .i64 y) → Q .normal x.1 (w0.alloc (.map x.2.1.toArray x.2.2)) → wpList P ops Q l a (w0.alloc (.map es.toArray c))
  | [], a, es, c, x, h, h1, he, hq => by
    simp only [runM, Option.some.injEq] at h; subst h; exact hq
  | o :: r, a, es, c, x, h, h1, he, hq => by
    unfold runM at h
    split at h
    · exact absurd h (by simp)
    next hd =>
    split at h
    · next t parts hg ho =>
      split at h
      · next cells hc =>
        refine wpList_build hg t parts ho (by rw [hc]; rfl) ?_
        rw [hc]
        exact runM_wp T k e hT hk w0 r _ es c x h ((put_one a o.dst _ hd).trans h1) he hq
      · exact absurd h (by simp)
    · next y hg ho =>
      refine Kd.event_run (v := a.eval y) (w1 := w0.alloc (.map es.toArray c)) hg (by simp [execOp, ho]) ?_
      exact runM_wp T k e hT hk w0 r _ es c x h ((put_one a o.dst _ hd).trans h1) he hq
    · next y hg ho =>
      refine Kd.event_run (v := a.eval y) (w1 := w0.alloc (.map es.toArray c)) hg (by simp [execOp, ho]) ?_
      exact runM_wp T k e hT hk w0 r _ es c x h ((put_one a o.dst _ hd).trans h1) he hq
    · next t y v hg ho =>
      split at h
      · next hc =>
        obtain ⟨rfl, hn⟩ := hc
        have hrun := run_insert_int t k e (w0.alloc (.map es.toArray c)) w0.heap.size es.toArray c y (a.eval v) (heap_alloc_new w0 _) hT hk he (by simpa using hn)
        rw [alloc_set] at hrun
        refine event_skip (w1 := w0.alloc (.map (es ++ [({ key := .int .i64 y, val := a.eval v, born := c } : MapEntry)]).toArray (c + 1))) hg ?_ ?_
        · have e1 : a.eval (.tmp 1) = .map (some w0.heap.size) := h1
          have e2 : a.eval (.const (.int .i64 y)) = .int .i64 y := rfl
          simp [execOp, ho, e1, e2, hrun]
        · refine runM_wp t k e hT hk w0 r _ _ _ x h ((put_one a o.dst _ hd).trans h1) ?_ hq
          intro m hm
          rcases List.mem_append.mp hm with hm | hm
          · exact he m hm
          · simp only [List.mem_singleton] at hm; subst hm; exact ⟨y, rfl⟩
      · exact absurd h (by simp)
    · exact absurd h (by simp)
/-- The region's first operation makes the map. -/
def startM1 (P : Program) (T : TypeId) (w : World) (o : Oper) (r : List Oper) (a : Act) : Option (Act × List MapEntry × Nat) :=
  match o.dst, o.guard, o.op with
  | some 1, .none, .makeMap t .none => if 1 < a.tmps.size then runM P T r (a.put (some 1) (.map (some w.heap.size))) [] 0 else none
  | _, _, _ => none
def startM (P : Program) (T : TypeId) (w : World) : List Oper → Act → Option (Act × List MapEntry × Nat)
  | o :: r, a => startM1 P T w o r a
  | [], _ => none
theorem startM_wp (T k e : TypeId) (hT : P.underlying T = some (.map k e)) (hk : P.underlying k = some (.int .i64)) (w : World) (l : List Oper) (a : Act) (x : Act × List MapEntry × Nat) (h : startM P T w l a = some x) (hq : Q .normal x.1 (w.alloc (.map x.2.1.toArray x.2.2))) : wpList P ops Q l a w := by
  cases l with
  | nil => exact absurd h (by simp [startM])
  | cons o r =>
    replace h : startM1 P T w o r a = some x := h
    unfold startM1 at h
    split at h
    · next t hd hg ho =>
      split at h
      · next hs =>
        refine Kd.event_run (v := .map (some w.heap.size)) (w1 := w.alloc (.map #[] 0)) hg (by simp [execOp, ho, Instr.makeMap]) ?_
        rw [hd]
        refine runM_wp T k e hT hk w r _ [] 0 x h ?_ (by simp) hq
        simp [Act.put, hs]
      · exact absurd h (by simp)
    · exact absurd h (by simp)
theorem wp_region_map {id : Nat} {a : Act} {w : World} (T k e : TypeId) (hT : P.underlying T = some (.map k e)) (hk : P.underlying k = some (.int .i64)) (x : Act × List MapEntry × Nat) (h : startM P T w ops.toList a = some x) (hq : Q .normal x.1 (w.alloc (.map x.2.1.toArray x.2.2))) : (Code.region id ops false).wp P Q a w :=
  wp_region_list (startM_wp T k e hT hk w _ a x h hq)
/-- A region of one operation that gives a value. -/
def oneRun (P : Program) (a : Act) (w : World) : List Oper → Option (Act × World)
  | [o] => match o.guard, (execOp a.eval o).run P w with
    | .none, .ok (.value v) w' => some (a.put o.dst v, w')
    | _, _ => none
  | _ => none
theorem wp_region_one {id : Nat} {a : Act} {w : World} (v : Value) (w1 : World) (a1 : Act) (h : oneRun P a w ops.toList = some (a1, w1)) (hv : v = v) (hq : Q .normal a1 w1) : (Code.region id ops false).wp P Q a w := by
  refine wp_region_list ?_
  generalize ops.toList = l at h
  unfold oneRun at h
  split at h
  · next o =>
    split at h
    · next v w' hg hr =>
      simp only [Option.some.injEq, Prod.mk.injEq] at h
      obtain ⟨rfl, rfl⟩ := h
      exact Kd.event_run hg hr (wpList_nil hq)
    · exact absurd h (by simp)
  · exact absurd h (by simp)
end Go.Proofs.YtiibhggjlandmaaDoor.PF
