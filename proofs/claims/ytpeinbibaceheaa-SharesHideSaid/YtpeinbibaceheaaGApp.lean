import Derived.Laws.AppendOwn
import Derived.Laws.AppendOwnNone
import Derived.WalkKit
namespace ObsMap
open Go

/-- append looks at its second argument's type only to see whether it is a whole number. -/
theorem append_types {P : Program} {w : World} {t t' ty e e' : TypeId} {args : Array Value} (ht : P.underlying t = some (.slice e)) (ht' : P.underlying t' = some (.slice e')) :
    (Builtin.append_ #[t, t'] ty args).run P w = (Builtin.append_ #[t, t] ty args).run P w := by
  unfold Builtin.append_
  simp only [show (#[t, t'] : Array TypeId)[0]? = some t from rfl, show (#[t, t'] : Array TypeId)[1]? = some t' from rfl, show (#[t, t] : Array TypeId)[0]? = some t from rfl, show (#[t, t] : Array TypeId)[1]? = some t from rfl]
  cases h0 : args[0]? with
  | none => rfl
  | some s =>
    cases h1 : args[1]? with
    | none => rfl
    | some x =>
      simp only [Sem.run_bind, run_underlying ht, Result.andThen]
      cases s <;> try rfl
      simp only [Sem.run_bind]
      cases (Go.sizeOf e).run P w with
      | halt h w1 => rfl
      | ok sz w1 => simp only [Result.andThen, run_underlying ht, run_underlying ht', Sem.run_pure]

/-- An append whose run is known, for the walk. -/
theorem wpList_append_of {P : Program} {w : World} {ops : Array Oper} {rest : List Oper} {o : Oper} {a : Act} {Q : Exit → Act → World → Prop} (hgd : o.guard = none) (s x : Operand) (t t' : TypeId)
    (ho : o.op = .call { callee := .builtin .append, args := #[s, x], argTypes := #[t, t'] }) (v1 v2 : Value) (hs : a.eval s = v1) (hx : a.eval x = v2) (v' : Value) (w' : World)
    (hrun : (Builtin.append_ #[t, t'] o.type #[v1, v2]).run P w = .ok v' w') (h : wpList P ops Q rest (a.put o.dst v') w') : wpList P ops Q (o :: rest) a w := by
  refine wpList_plain hgd fun K hK => ?_
  unfold Oper.wp
  simp [execOp, ho, resolve, invoke, builtin, hs, hx, hrun, Result.andThen]
  exact hK _ _ h

end ObsMap
