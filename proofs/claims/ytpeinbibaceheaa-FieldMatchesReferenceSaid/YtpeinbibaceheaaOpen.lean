import Derived.Test.YtpeinbibaceheaaWMore
import Derived.ProofKit
import Derived.OpenShut
/-
  From a row's reading of an argument to what the walks know of it: by the argument's type.
-/
namespace Go.Proofs.YtpeinbibaceheaaW.PrintWords
open Go.RowKit

/-- Whatever reads at type t is of the kind d, and ok. -/
def Opens {α : Type} (P : Program) (t : TypeId) (d : Kd α) (ok : α → Prop) : Prop :=
  ∀ {H : Type} (enc : TypeId × Value → H) (w : World) (base : Nat) (spare : Nat → Bool) (held : Bool) (fuel : Nat) (cs : List Value) (x : DataW H × List MemPlace),
    DataW.trod enc P w base spare held fuel t cs = some x → ∃ a : α, d.K w a cs ∧ ok a

theorem Opens.mono {α : Type} {P : Program} {t : TypeId} {d : Kd α} {ok ok' : α → Prop} (h : Opens P t d ok) (hm : ∀ a, ok a → ok' a) : Opens P t d ok' := by
  intro H enc w base spare held fuel cs x hx
  obtain ⟨a, ha, hb⟩ := h enc w base spare held fuel cs x hx
  exact ⟨a, ha, hm a hb⟩

theorem opens_int {P : Program} {t : TypeId} {k : IntKind} (ht : P.underlying t = some (.int k)) : Opens P t (Kd.int k) (fun n => (Lit.int k n).wf = true) := by
  intro H enc w base spare held fuel cs x hx
  obtain ⟨n, rfl, _, hw⟩ := DataW.trod_int ht hx
  exact ⟨n, rfl, hw⟩

theorem opens_bool {P : Program} {t : TypeId} (ht : P.underlying t = some .bool) : Opens P t Kd.bool (fun _ => True) := by
  intro H enc w base spare held fuel cs x hx
  obtain ⟨n, rfl, _⟩ := DataW.trod_bool ht hx
  exact ⟨n, rfl, trivial⟩

theorem opens_string {P : Program} {t : TypeId} (ht : P.underlying t = some .string) : Opens P t Kd.string (fun s => s.size ≤ maxLen) := by
  intro H enc w base spare held fuel cs x hx
  obtain ⟨n, rfl, _, hw⟩ := DataW.trod_string ht hx
  exact ⟨n, rfl, hw⟩

theorem opens_slice {α : Type} {P : Program} {t e : TypeId} {d : Kd α} {ok : α → Prop} (ht : P.underlying t = some (.slice e)) (hsz : P.cellsOf e = d.sz) (hd : Opens P e d ok) :
    Opens P t (Kd.slice e d) (fun l => l.length ≤ maxLen ∧ ∀ a ∈ l, ok a) := by
  intro H enc w base spare held fuel cs x hx
  rcases DataW.trod_slice ht hx with ⟨rfl, _⟩ | ⟨a, len, cap, elems, rest, n, _, rfl, _, hb, hl, hm, hlen, hel, _, _⟩
  · exact ⟨[], ⟨none, 0, rfl, Nat.le_refl _, rfl, by simp, fun h => absurd h (Nat.lt_irrefl 0)⟩, by simp, fun a h => by simp at h⟩
  · have hone : ∀ i, i < len → ∃ y : α, (∃ c, w.cells? base (a.add (i * P.cellsOf e)) (P.cellsOf e) = some c ∧ d.K w y c) ∧ ok y := by
      intro i hi
      have h1 := hel i hi
      rw [List.getElem?_eq_getElem (by omega)] at h1
      obtain ⟨c, hc, hc2⟩ := Option.bind_eq_some_iff.1 h1
      obtain ⟨y, hy, hok⟩ := hd enc w base spare held n c _ hc2
      exact ⟨y, ⟨c, hc, hy⟩, hok⟩
    have hall : ∀ m, m ≤ len → ∃ l : List α, l.length = m ∧ ∀ i y, l[i]? = some y → (∃ c, w.cells? base (a.add (i * P.cellsOf e)) (P.cellsOf e) = some c ∧ d.K w y c) ∧ ok y := by
      intro m
      induction m with
      | zero => intro _; exact ⟨[], rfl, fun i y h => by simp at h⟩
      | succ m ih =>
        intro h
        obtain ⟨l, hl1, hl2⟩ := ih (by omega)
        obtain ⟨y, hy⟩ := hone m (by omega)
        refine ⟨l ++ [y], by simp [hl1], fun i z hz => ?_⟩
        by_cases hi : i < m
        · rw [List.getElem?_append_left (by omega)] at hz; exact hl2 i z hz
        · by_cases hi2 : i = m
          · subst hi2
            rw [List.getElem?_append_right (by omega), hl1, Nat.sub_self] at hz
            simp at hz; subst hz; exact hy
          · rw [List.getElem?_eq_none (by simp; omega)] at hz; cases hz
    obtain ⟨l, hl1, hl2⟩ := hall len (Nat.le_refl _)
    refine ⟨l, ⟨some a, cap, by rw [hl1], by omega, rfl, by rw [hl1]; exact Nat.le_trans hl hm, fun _ => ⟨a, rfl, fun j y hj => ?_⟩⟩, by rw [hl1]; exact Nat.le_trans hl hm, fun y hy => ?_⟩
    · obtain ⟨⟨c, hc, hK⟩, _⟩ := hl2 j y hj
      obtain ⟨_, h2, h3⟩ := World.cells?_some hc
      refine ⟨c, d.K_len hK, hK, fun i u hu => ?_⟩
      have hi : i < P.cellsOf e := by
        have := (List.getElem?_eq_some_iff.1 hu).1
        omega
      have h4 := h3 i hi
      rw [hu, add_add, hsz] at h4
      exact h4
    · obtain ⟨j, hj, hje⟩ := List.getElem_of_mem hy
      exact (hl2 j y (by rw [List.getElem?_eq_getElem hj, hje])).2

theorem okWide_array {P : Program} {w : World} {r : Reach} {base : Nat} {t e : TypeId} {n : Nat} {v : Value} (ht : P.underlying t = some (.array n e)) (h : Value.okWide P w r base t v) : ∃ cs, v = .agg cs ∧ cs.size = P.cellsOf t := by
  simp only [Value.okWide, ht] at h
  obtain ⟨cs, h1, h2, _⟩ := h
  exact ⟨cs, h1, h2⟩

/-- Two kinds side by side. -/
theorem pair_at {α β : Type} {d0 : Kd α} {d1 : Kd β} {w : World} {cs : List Value} {a : α} {b : β} (o s0 s1 : Nat) (h0 : d0.K w a ((cs.drop o).take s0)) (h1 : d1.K w b ((cs.drop (o + s0)).take s1)) :
    (Kd.pair d0 d1).K w (a, b) ((cs.drop o).take (s0 + s1)) :=
  ⟨_, _, by rw [List.take_add, List.drop_drop], h0, h1⟩

end Go.Proofs.YtpeinbibaceheaaW.PrintWords
