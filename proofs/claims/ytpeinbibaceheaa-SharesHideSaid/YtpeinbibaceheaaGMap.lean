import Derived.Maps.Own
import Derived.Maps.OwnOps
import Derived.WalkKit
import Derived.Deep.Draws
/-
  Maps with int keys, told as lists of pairs: what a mlook-up finds, what a store leaves.
-/
namespace ObsMap
open Go

/-- What a map holds at a key. -/
def mlook : List (Int × Value) → Int → Option Value
  | [], _ => none
  | p :: m, k => if p.1 = k then some p.2 else mlook m k

/-- A map behind a store. -/
def mput : List (Int × Value) → Int → Value → List (Int × Value)
  | [], k, v => [(k, v)]
  | p :: m, k, v => if p.1 = k then (k, v) :: m else p :: mput m k v

theorem mlook_mput (k2 k : Int) (v : Value) : ∀ m, mlook (mput m k v) k2 = if k2 = k then some v else mlook m k2
  | [] => by
    by_cases h : k2 = k
    · subst h; simp [mput, mlook]
    · have : k ≠ k2 := fun e => h e.symm
      simp [mput, mlook, h, this]
  | p :: m => by
    by_cases h1 : p.1 = k
    · by_cases h : k2 = k
      · subst h; simp [mput, mlook, h1]
      · have h2 : k ≠ k2 := fun e => h e.symm
        have h3 : p.1 ≠ k2 := fun e => h2 (h1.symm.trans e)
        simp only [mput, if_pos h1, mlook, if_neg h2, if_neg h3, if_neg h]
    · have ih := mlook_mput k2 k v m
      by_cases h : p.1 = k2
      · have : k2 ≠ k := fun e => h1 (h.trans e)
        simp [mput, mlook, h, this]
      · simp [mput, mlook, h1, h, ih]

theorem mput_none (k : Int) (v : Value) : ∀ m, mlook m k = none → mput m k v = m ++ [(k, v)]
  | [], _ => rfl
  | p :: m, h => by
    by_cases h1 : p.1 = k
    · simp [mlook, h1] at h
    · simp only [mlook, if_neg h1] at h
      simp only [mput, if_neg h1, mput_none k v m h, List.cons_append]

/-- Block b is a map that holds the pairs m. -/
def IsMap (w : World) (b : Nat) (m : List (Int × Value)) : Prop :=
  ∃ es clock, w.heap[b]? = some (.map es clock) ∧ es.toList.map (fun e => (e.key, e.val)) = m.map (fun p => (Value.int .i64 p.1, p.2))

theorem findNow_mlook (k : Int) : ∀ (es : List MapEntry) (m : List (Int × Value)) (i : Nat), es.map (fun e => (e.key, e.val)) = m.map (fun p => (Value.int .i64 p.1, p.2)) →
    (mlook m k = none ∧ Instr.findNow (.int .i64) (.int .i64 k) es i = some none) ∨
    ∃ j e v, mlook m k = some v ∧ Instr.findNow (.int .i64) (.int .i64 k) es i = some (some (i + j, v)) ∧ es[j]? = some e ∧ e.key = .int .i64 k ∧
      ∀ v' : Value, ((es.modify j fun e => { e with key := .int .i64 k, val := v' }).map (fun e => (e.key, e.val)) = (mput m k v').map (fun p => (Value.int .i64 p.1, p.2)))
  | [], [], i, _ => .inl ⟨rfl, rfl⟩
  | [], _ :: _, _, h => by simp at h
  | _ :: _, [], _, h => by simp at h
  | e :: es, p :: m, i, h => by
    simp only [List.map_cons, List.cons.injEq, Prod.mk.injEq] at h
    obtain ⟨⟨h1, h2⟩, h3⟩ := h
    by_cases hk : p.1 = k
    · refine .inr ⟨0, e, p.2, by simp [mlook, hk], ?_, rfl, by rw [h1, hk], ?_⟩
      · simp [Instr.findNow, Instr.sameNow, h1, hk, h2]
      · intro v'; simp [mput, hk, h3]
    · have hk' : (k == p.1) = false := by simpa using fun e : k = p.1 => hk e.symm
      rcases findNow_mlook k es m (i + 1) h3 with ⟨a, b⟩ | ⟨j, e', v, a, b, c, d, f⟩
      · refine .inl ⟨by simp [mlook, hk, a], ?_⟩
        simp [Instr.findNow, Instr.sameNow, h1, hk', b]
      · refine .inr ⟨j + 1, e', v, by simp [mlook, hk, a], ?_, by simpa using c, d, ?_⟩
        · simp [Instr.findNow, Instr.sameNow, h1, hk', b]; omega
        · intro v'
          have := f v'
          simp [mput, hk, h1, h2, this]

theorem check_run {P : Program} {w : World} {kt : TypeId} (hk : P.underlying kt = some (.int .i64)) (k : Int) (c : Bool) : (Instr.checkKey c 10000 kt (.int .i64 k)).run P w = .ok () w :=
  MapKept.run_checkKey (k := .int .i64 k) hk (show IntKind.i64 = IntKind.i64 from rfl) c 9999

theorem lookup_run {P : Program} {w : World} {t kt et : TypeId} {b : Nat} {m : List (Int × Value)} (ht : P.underlying t = some (.map kt et)) (hk : P.underlying kt = some (.int .i64))
    {z : Value} (hz : (zeroValue et).run P w = .ok z w) (h : IsMap w b m) (k : Int) (c : Bool) :
    (Instr.lookup t (.map (some b)) (.int .i64 k) c).run P w = .ok (if c then .tuple #[(mlook m k).getD z, .bool (mlook m k).isSome] else (mlook m k).getD z) w := by
  obtain ⟨es, clock, hb, he⟩ := h
  rcases findNow_mlook k es.toList m 0 he with ⟨a, hf⟩ | ⟨j, e, v, a, hf, _⟩
  · have := MapKept.run_findKey (P := P) (w := w) hk hf
    simp [Instr.lookup, run_underlying ht, MapKept.run_getObj_map hb, check_run hk, this, hz, Result.andThen, a]
  · have := MapKept.run_findKey (P := P) (w := w) hk hf
    simp [Instr.lookup, run_underlying ht, MapKept.run_getObj_map hb, check_run hk, this, Result.andThen, a]

theorem update_run {P : Program} {w : World} {t kt et : TypeId} {b : Nat} {m : List (Int × Value)} (ht : P.underlying t = some (.map kt et)) (hk : P.underlying kt = some (.int .i64))
    (h : IsMap w b m) (k : Int) (v : Value) :
    ∃ w', (Instr.mapUpdate t (.map (some b)) (.int .i64 k) v).run P w = .ok () w' ∧ IsMap w' b (mput m k v) ∧ w.grownBy w' (some b) := by
  obtain ⟨es, clock, hb, he⟩ := h
  have grown : ∀ o : Obj, w.grownBy { w with heap := w.heap.setIfInBounds b o } (some b) := fun o =>
    ⟨rfl, rfl, rfl, by simp, fun i hi hne => (MapKept.heap_set hb).2 i (fun e => hne (by rw [e]))⟩
  rcases findNow_mlook k es.toList m 0 he with ⟨a, hf⟩ | ⟨j, e, v0, a, hf, hj, hek, hm⟩
  · have hr := MapKept.run_findKey (P := P) (w := w) hk hf
    refine ⟨{ w with heap := w.heap.setIfInBounds b (.map (es.push ⟨.int .i64 k, v, clock⟩) (clock + 1)) }, ?_, ⟨_, _, (MapKept.heap_set hb).1, ?_⟩, grown _⟩
    · simp [Instr.mapUpdate, run_underlying ht, MapKept.run_getObj_map hb, check_run hk, hr, MapKept.run_setObj_map _ hb, Result.andThen]
    · rw [Array.toList_push, List.map_append, he, mput_none k v m a, List.map_append]; rfl
  · have hr := MapKept.run_findKey (P := P) (w := w) hk hf
    have hj' : es[j]? = some e := by simpa using hj
    have hs : (Instr.keyThatStays (.int .i64 k) (.int .i64 k)).run P w = .ok (.int .i64 k) w := MapKept.run_keyThatStays (d := .int .i64) rfl
    refine ⟨{ w with heap := w.heap.setIfInBounds b (.map (es.modify j fun e => { e with key := .int .i64 k, val := v }) clock) }, ?_, ⟨_, _, (MapKept.heap_set hb).1, ?_⟩, grown _⟩
    · simp [Instr.mapUpdate, run_underlying ht, MapKept.run_getObj_map hb, check_run hk, hr, hj', hek, hs, MapKept.run_setObj_map _ hb, Result.andThen]
    · rw [Array.toList_modify]; exact hm v

theorem IsMap.made (w : World) : IsMap (w.alloc (.map #[] 0)) w.heap.size [] := ⟨#[], 0, by show (w.heap.push _)[w.heap.size]? = _; simp, rfl⟩
theorem IsMap.lt {w : World} {b : Nat} {m : List (Int × Value)} (h : IsMap w b m) : b < w.heap.size := by
  obtain ⟨_, _, hb, _⟩ := h
  exact (Array.getElem?_eq_some_iff.1 hb).1
theorem IsMap.kept {w w' : World} {b : Nat} {m : List (Int × Value)} {row : Option Nat} (h : IsMap w b m) (hg : w.grownBy w' row) (hne : some b ≠ row) : IsMap w' b m := by
  obtain ⟨es, c, hb, he⟩ := h
  have hlt := (Array.getElem?_eq_some_iff.1 hb).1
  exact ⟨es, c, (hg.block b hlt hne).trans hb, he⟩
theorem IsMap.drawn {w : World} {b : Nat} {m : List (Int × Value)} (h : IsMap w b m) (n : Nat) : IsMap (w.drewN n) b m := h
theorem IsMap.alloc {w : World} {b : Nat} {m : List (Int × Value)} (h : IsMap w b m) (o : Obj) : IsMap (w.alloc o) b m := h.kept (World.grownBy_alloc w o none) (by simp)

/-- The mlook-up without ok, for the walk. -/
theorem wpList_look {P : Program} (w : World) {ops : Array Oper} {rest : List Oper} {o : Oper} {a : Act} {Q : Exit → Act → World → Prop}
    (hg : o.guard = none) (m x : Operand) (t : TypeId) (hop : o.op = Op.lookup t m x false)
    (kt et : TypeId) (ht : P.underlying t = some (.map kt et)) (hk : P.underlying kt = some (.int .i64)) (z : Value) (hz : (zeroValue et).run P w = .ok z w) (b : Nat) (l : List (Int × Value))
    (hm : a.eval m = .map (some b)) (h : IsMap w b l) (k : Int) (hx : a.eval x = .int .i64 k)
    (hK : wpList P ops Q rest (a.put o.dst ((mlook l k).getD z)) w) :
    wpList P ops Q (o :: rest) a w := by
  refine wpList_plain hg fun K' hK' => ?_
  have hrun := lookup_run ht hk hz h k false
  unfold Oper.wp
  simp [execOp, hop, hm, hx, hrun, Result.andThen]
  exact hK' _ _ hK

/-- A store, for the walk. -/
theorem wpList_put {P : Program} (w : World) {ops : Array Oper} {rest : List Oper} {o : Oper} {a : Act} {Q : Exit → Act → World → Prop}
    (hg : o.guard = none) (m x v : Operand) (t : TypeId) (hop : o.op = Op.mapUpdate t m x v)
    (kt et : TypeId) (ht : P.underlying t = some (.map kt et)) (hk : P.underlying kt = some (.int .i64)) (b : Nat) (l : List (Int × Value))
    (hm : a.eval m = .map (some b)) (h : IsMap w b l) (k : Int) (val : Value) (hx : a.eval x = .int .i64 k) (hv : a.eval v = val)
    (hK : ∀ w', IsMap w' b (mput l k val) → w.grownBy w' (some b) → wpList P ops Q rest (a.put o.dst undef) w') :
    wpList P ops Q (o :: rest) a w := by
  refine wpList_plain hg fun K' hK' => ?_
  obtain ⟨w', hrun, r1, r2⟩ := update_run ht hk h k val
  unfold Oper.wp
  simp [execOp, hop, hm, hx, hv, hrun, Result.andThen]
  exact hK' _ _ (hK w' r1 r2)

end ObsMap
