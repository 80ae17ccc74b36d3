import Derived.Test.YtpeinbibaceheaaX5
import Derived.Test.YtpeinbibaceheaaBr6
/-
  What interpolation comes to, in plain arithmetic.
-/
namespace Go.Proofs.Ytpeinbibaceheaa.X
open Go.RowKit Go.Proofs.YtpeinbibaceheaaW.PrintWords Go.Proofs.YtpeinbibaceheaaW.PrintLast
open ObsMath

theorem rd41_at {l : List S41} {i : Nat} (hi : i < l.length) : rd_T41 l (i : Int) = l[i] := by simp [rd_T41, List.getElem?_eq_getElem hi]

theorem dupN_iff (l : List S41) : ∀ n, n ≤ l.length → (dupN l n = false ↔ ∀ i j, i < j → j < n → XI l i ≠ XI l j)
  | 0, _ => by simp [dupN]
  | n + 1, h => by
    have ih := dupN_iff l n (by omega)
    simp only [dupN, Bool.or_eq_false_iff, ih, List.any_eq_false]
    constructor
    · rintro ⟨h1, h2⟩ i j hij hj
      by_cases e : j = n
      · subst e
        have hi : i < l.length := by omega
        have hm : l[i] ∈ l.take j := by
          rw [List.mem_take_iff_getElem]
          exact ⟨i, by omega, rfl⟩
        have := h2 _ hm
        unfold XI
        rw [rd41_at hi]
        simpa using this
      · exact h1 i j hij (by omega)
    · intro h1
      refine ⟨fun i j hij hj => h1 i j hij (by omega), fun p hp => ?_⟩
      obtain ⟨i, hi, rfl⟩ := List.mem_take_iff_getElem.1 hp
      have := h1 i n (by omega) (by omega)
      unfold XI at this
      rw [rd41_at (by omega)] at this
      simpa using this

/-- What Interpolate asks. -/
structure IGood (l : List S41) (x : Int) : Prop where
  n1 : 1 ≤ l.length
  n16 : l.length ≤ 16
  hx : inP x = true
  ok : l.all okP = true
  nd : dupN l l.length = false

theorem IGood.dst {l : List S41} {x : Int} (h : IGood l x) : Dst (XI l) l.length where
  lo i _ := (ok_at h.ok i).1.1
  hi i _ := (ok_at h.ok i).1.2
  inj i j hi hj e := by
    have hd := (dupN_iff l l.length (Nat.le_refl _)).1 h.nd
    rcases Nat.lt_trichotomy i j with h1 | h1 | h1
    · exact absurd e (hd i j h1 hj)
    · exact h1
    · exact absurd e.symm (hd j i h1 hi)

theorem IGood.of_dst {l : List S41} {x : Int} (n1 : 1 ≤ l.length) (n16 : l.length ≤ 16) (hx : inP x = true) (ok : l.all okP = true) (hd : ∀ i j, i < j → j < l.length → XI l i ≠ XI l j) : IGood l x :=
  ⟨n1, n16, hx, ok, (dupN_iff l l.length (Nat.le_refl _)).2 hd⟩

/-- The interpolated value. -/
def ival (l : List S41) (x : Int) : Int := nv (XI l) (YI l) x (l.length - 1) 0

theorem IGood.val {l : List S41} {x : Int} (h : IGood l x) : interpF l x = (ival l x, 0) := interpF_ok h.n1 h.n16 h.hx h.ok h.nd

theorem interpF_cases (l : List S41) (x : Int) : (IGood l x ∧ interpF l x = (ival l x, 0)) ∨ (¬ IGood l x ∧ (interpF l x).1 = 0 ∧ (interpF l x).2 ≠ 0) := by
  by_cases h : l.length < 1 ∨ l.length > 16 ∨ inP x = false
  · right
    refine ⟨fun g => ?_, by rw [interpF_arg h], by rw [interpF_arg h]; simp⟩
    rcases h with h | h | h
    · exact absurd g.n1 (by omega)
    · exact absurd g.n16 (by omega)
    · rw [g.hx] at h; cases h
  · have h1 : 1 ≤ l.length := by
      rcases Nat.lt_or_ge l.length 1 with h' | h'
      · exact absurd (.inl h') h
      · exact h'
    have h2 : l.length ≤ 16 := by
      rcases Nat.lt_or_ge 16 l.length with h' | h'
      · exact absurd (.inr (.inl h')) h
      · exact h'
    have h3 : inP x = true := by
      cases h4 : inP x with
      | true => rfl
      | false => exact absurd (.inr (.inr h4)) h
    cases ha : l.all okP with
    | false =>
      right
      have e : interpF l x = (0, 1) := by unfold interpF; rw [if_neg h, if_pos ha]
      exact ⟨fun g => (by rw [g.ok] at ha; cases ha), by rw [e], by rw [e]; simp⟩
    | true =>
      cases hd : dupN l l.length with
      | true =>
        right
        have e := interpF_dup h1 h2 h3 ha hd
        exact ⟨fun g => (by rw [g.nd] at hd; cases hd), by rw [e], by rw [e]; simp⟩
      | false =>
        left
        have g : IGood l x := ⟨h1, h2, h3, ha, hd⟩
        exact ⟨g, g.val⟩

theorem inP_ival {l : List S41} {x : Int} (h : IGood l x) : inP (ival l x) = true := inP_iff.2 (nv_range _ _ _ (fun i => (ok_at h.ok i).2) _ _)

/-- The value is that of any polynomial of at most as many coefficients through the points. -/
theorem IGood.unique {l : List S41} {x : Int} (h : IGood l x) {f : F → F} (hf : PF l.length f) (hv : ∀ i, i < l.length → f (toF (XI l i)) = toF (YI l i)) (y : Int) : toF (ival l y) = f (toF y) :=
  nv_unique h.n1 h.dst hf hv y

theorem IGood.poly {l : List S41} {x : Int} (h : IGood l x) : ∃ f : F → F, PF l.length f ∧ (∀ i, i < l.length → f (toF (XI l i)) = toF (YI l i)) ∧ ∀ y, toF (ival l y) = f (toF y) :=
  nv_exists h.n1 h.dst

theorem IGood.at_ {l : List S41} {x : Int} (h : IGood l x) (y : Int) (hy : inP y = true) : IGood l y := ⟨h.n1, h.n16, hy, h.ok, h.nd⟩

end Go.Proofs.Ytpeinbibaceheaa.X
