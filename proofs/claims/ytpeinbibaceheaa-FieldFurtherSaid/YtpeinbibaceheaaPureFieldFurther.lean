/- The statement FieldFurther over plain numbers: when a further point changes an interpolated value. -/
import Derived.Test.YtpeinbibaceheaaX11
import Derived.Test.YtpeinbibaceheaaBr6b
import Derived.Test.YtpeinbibaceheaaXOpn
namespace Go.Proofs.Ytpeinbibaceheaa.Pure
open Go.RowKit Go.Proofs.Ytpeinbibaceheaa.X Go.Proofs.YtpeinbibaceheaaW.PrintWords
open ObsMath
set_option linter.unusedVariables false

theorem XI_snoc (l : List S41) (p : S41) {i : Nat} (hi : i < l.length) : XI (l ++ [p]) i = XI l i ∧ YI (l ++ [p]) i = YI l i := by
  unfold XI YI
  rw [rd41_at (by simp; omega), rd41_at hi, List.getElem_append_left hi]
  exact ⟨rfl, rfl⟩
theorem XI_last (l : List S41) (p : S41) : XI (l ++ [p]) l.length = p.f0 ∧ YI (l ++ [p]) l.length = p.f1 := by
  unfold XI YI
  rw [rd41_at (by simp)]
  simp

theorem good_init {l : List S41} {p : S41} {x : Int} (h1 : 1 ≤ l.length) (h : IGood (l ++ [p]) x) : IGood l x := by
  have ha := h.ok
  rw [List.all_append, Bool.and_eq_true] at ha
  have hn := h.n16
  refine IGood.of_dst h1 (by simp at hn; omega) h.hx ha.1 ?_
  intro i j hij hj e
  have := h.dst.inj i j (by simp; omega) (by simp; omega) (by rw [(XI_snoc l p (by omega)).1, (XI_snoc l p hj).1, e])
  omega

/-- Two polynomials that agree at all places but that of one more differ everywhere else. -/
theorem differ {X : Nat → Int} {n : Nat} (hd : Dst X n) {f g : F → F} (hf : PF (n + 1) f) (hg : PF (n + 1) g) (h : ∀ i, i < n → f (toF (X i)) = g (toF (X i))) {y : F} (hy : ∀ i, i < n → y ≠ toF (X i)) (he : f y = g y) (x : F) :
    f x = g x := by
  refine PF.unique hf hg (y :: (List.range n).map (fun i => toF (X i))) ?_ (by simp) ?_ x
  · refine List.nodup_cons.2 ⟨?_, nodup_of_dst hd⟩
    intro hm
    obtain ⟨i, hi, e⟩ := List.mem_map.1 hm
    exact hy i (List.mem_range.1 hi) e.symm
  · intro r hr
    rcases List.mem_cons.1 hr with rfl | hr
    · exact he
    · obtain ⟨i, hi, rfl⟩ := List.mem_map.1 hr
      exact h i (List.mem_range.1 hi)

theorem further_iff {l : List S41} {p : S41} {x : Int} (h1 : 1 ≤ l.length) (g : IGood (l ++ [p]) x) :
    (ival l x = ival (l ++ [p]) x) ↔ ((∃ i, i < l.length ∧ XI l i = x) ∨ ival l p.f0 = p.f1) := by
  have gl := good_init h1 g
  obtain ⟨f, pf, hf, hv⟩ := gl.poly
  obtain ⟨f2, pf2, hf2, hv2⟩ := g.poly
  have pf' : PF (l.length + 1) f := pf.mono (by omega)
  have pf2' : PF (l.length + 1) f2 := pf2.mono (by simp)
  have hxp := inP_iff.1 g.hx
  have hop := ok_at g.ok l.length
  rw [(XI_last l p).1, (XI_last l p).2] at hop
  have agree : ∀ i, i < l.length → f (toF (XI l i)) = f2 (toF (XI l i)) := by
    intro i hi
    have := hf2 i (by simp; omega)
    rw [(XI_snoc l p hi).1, (XI_snoc l p hi).2] at this
    rw [hf i hi, this]
  have last : f2 (toF p.f0) = toF p.f1 := by
    have := hf2 l.length (by simp)
    rwa [(XI_last l p).1, (XI_last l p).2] at this
  have hne : ∀ i, i < l.length → toF p.f0 ≠ toF (XI l i) := by
    intro i hi e
    have e2 := toF_inj hop.1.1 hop.1.2 (ok_at gl.ok i).1.1 (ok_at gl.ok i).1.2 e
    have := g.dst.inj l.length i (by simp) (by simp; omega) (by rw [(XI_last l p).1, (XI_snoc l p hi).1, e2])
    omega
  have gp := gl.at_ p.f0 (inP_iff.2 hop.1)
  constructor
  · intro e
    by_cases hx : ∃ i, i < l.length ∧ XI l i = x
    · exact .inl hx
    · right
      refine eqP (inP_ival gp) (inP_iff.2 hop.2) ?_
      rw [hv, ← last]
      refine differ gl.dst pf' pf2' agree (y := toF x) ?_ ?_ _
      · intro i hi e2
        exact hx ⟨i, hi, (toF_inj hxp.1 hxp.2 (ok_at gl.ok i).1.1 (ok_at gl.ok i).1.2 e2).symm⟩
      · rw [← hv, ← hv2, e]
  · intro h
    refine eqP (inP_ival gl) (inP_ival g) ?_
    rw [hv, hv2]
    rcases h with ⟨i, hi, rfl⟩ | h
    · exact agree i hi
    · exact differ gl.dst pf' pf2' agree hne (by rw [last, ← hv, h]) _

theorem of_l0 (l : List S41) (x : Int) (a b on : Int) (y0 y1 : Int) (hl : l.length ≤ 16) : ∀ (d k i : Nat) (o : Bool), l.length - i = d → i ≤ l.length → d < k →
    (o = true ↔ ∃ j, j < i ∧ XI l j = x) →
    ∃ o2 : Bool, (o2 = true ↔ ∃ j, j < l.length ∧ XI l j = x) ∧ observatorylaw06_FieldFurther.l0 k l x true a b on o (i : Int) y0 y1 = if o2 = true then some ((a == b) == true) else some ((a == b) == (on == y1)) := by
  intro d
  induction d with
  | zero =>
    intro k i o h1 h2 h3 ho
    obtain ⟨k, rfl⟩ : ∃ m, k = m + 1 := ⟨k - 1, by omega⟩
    obtain rfl : i = l.length := by omega
    refine ⟨o, ho, ?_⟩
    simp only [observatorylaw06_FieldFurther.l0]
    rw [if_neg (by omega), if_pos trivial]
  | succ d ih =>
    intro k i o h1 h2 h3 ho
    obtain ⟨k, rfl⟩ : ∃ m, k = m + 1 := ⟨k - 1, by omega⟩
    simp only [observatorylaw06_FieldFurther.l0]
    rw [if_pos (by clear ho; omega), w_succ (by clear ho; omega)]
    cases o with
    | true =>
      rw [if_pos rfl]
      obtain ⟨j, hj, e⟩ := ho.1 rfl
      exact ih k (i + 1) true (by clear ho; omega) (by clear ho; omega) (by clear ho; omega) ⟨fun _ => ⟨j, by clear ho; omega, e⟩, fun _ => rfl⟩
    | false =>
      rw [if_neg (by simp), if_pos (by clear ho; omega)]
      refine ih k (i + 1) _ (by clear ho; omega) (by clear ho; omega) (by clear ho; omega) ?_
      rw [beq_iff_eq]
      constructor
      · intro e; exact ⟨i, by clear ho; omega, e⟩
      · rintro ⟨j, hj, e⟩
        by_cases hji : j = i
        · subst hji; exact e
        · exact absurd (ho.2 ⟨j, by clear ho; omega, e⟩) (by simp)

theorem FieldFurther (z0 : List (S41)) (z1 : S41) (a2 : Int) (h0 : (fun l => l.length ≤ maxLen ∧ ∀ a ∈ l, ok41 a) z0) (h1 : ok41 z1) (h2 : (Lit.int .i64 a2).wf = true) : ∃ k, observatorylaw06_FieldFurther.f k z0 z1.f0 z1.f1 a2 = some true := by
  refine ⟨100, ?_⟩
  have up : ∀ k, observatorylaw06_FieldFurther.j0 (k + 1) z0 a2 true true z1.f0 z1.f1 = some true := fun k => by simp only [observatorylaw06_FieldFurther.j0]; rw [if_pos trivial]
  unfold observatorylaw06_FieldFurther.f
  simp only [observatorylaw06_head.f, Option.bind_some]
  by_cases n1 : (z0.length : Int) < 1
  · rw [if_pos n1, up]
  rw [if_neg n1]
  by_cases n2 : (z0.length : Int) > 15
  · rw [decide_eq_true n2, up]
  rw [decide_eq_false n2]
  have fi : ∀ l y, field_Interpolate.f l y = some (interpF l y) := fun _ _ => rfl
  simp only [observatorylaw06_FieldFurther.j0, fi]
  rw [if_neg (by simp), Option.bind_some, if_pos (by simp; omega), Option.bind_some, Option.bind_some, if_pos (by simp; omega), Option.bind_some, Option.bind_some, Option.bind_some, List.nil_append]
  have n1' : 1 ≤ z0.length := by omega
  rcases interpF_cases (z0 ++ [(⟨z1.f0, z1.f1⟩ : S41)]) a2 with ⟨g, eg⟩ | ⟨ng, e1, e2⟩
  · have gl := good_init n1' g
    have hop := ok_at g.ok z0.length
    rw [(XI_last _ _).1, (XI_last _ _).2] at hop
    have gp := gl.at_ z1.f0 (inP_iff.2 hop.1)
    rw [eg, gl.val, gp.val]
    simp only [if_true, observatorylaw06_FieldFurther.j1]
    rw [if_neg (by simp)]
    obtain ⟨o2, ho2, hv⟩ := of_l0 z0 a2 (ival z0 a2) (ival (z0 ++ [(⟨z1.f0, z1.f1⟩ : S41)]) a2) (ival z0 z1.f0) z1.f0 z1.f1 (by omega) z0.length 98 0 false (by omega) (by omega) (by omega) (by simp)
    have hv' : observatorylaw06_FieldFurther.l0 98 z0 a2 true (ival z0 a2) (ival (z0 ++ [(⟨z1.f0, z1.f1⟩ : S41)]) a2) (ival z0 z1.f0) false 0 z1.f0 z1.f1 = _ := hv
    rw [hv']
    have hi := further_iff n1' g
    cases o2 with
    | true =>
      have A : (ival z0 a2 == ival (z0 ++ [(⟨z1.f0, z1.f1⟩ : S41)]) a2) = true := by simpa using hi.2 (.inl (ho2.1 rfl))
      rw [if_pos rfl, A]; rfl
    | false =>
      rw [if_neg (by simp)]
      have hno : ¬ ∃ j, j < z0.length ∧ XI z0 j = a2 := fun h => by have := ho2.2 h; cases this
      by_cases e : ival z0 z1.f0 = z1.f1
      · have A : (ival z0 a2 == ival (z0 ++ [(⟨z1.f0, z1.f1⟩ : S41)]) a2) = true := by simpa using hi.2 (.inr e)
        have B : (ival z0 z1.f0 == z1.f1) = true := by simpa using e
        rw [A, B]; rfl
      · have A : (ival z0 a2 == ival (z0 ++ [(⟨z1.f0, z1.f1⟩ : S41)]) a2) = false := by
          rw [beq_eq_false_iff_ne]
          intro h
          rcases hi.1 h with h | h
          · exact hno h
          · exact e h
        have B : (ival z0 z1.f0 == z1.f1) = false := by rw [beq_eq_false_iff_ne]; exact e
        rw [A, B]; rfl
  · have fin : ∀ a b c d, observatorylaw06_FieldFurther.j1 99 z0 a2 true a b (interpF (z0 ++ [(⟨z1.f0, z1.f1⟩ : S41)]) a2).2 c true d z1.f1 = some true := by
      intro a b c d
      simp only [observatorylaw06_FieldFurther.j1]
      rw [if_pos trivial, if_pos trivial]
      simp [e2]
    by_cases c1 : (interpF z0 a2).2 = 0
    · rw [if_pos c1, if_neg e2]; exact fin _ _ _ _
    · rw [if_neg c1]; exact fin _ _ _ _

end Go.Proofs.Ytpeinbibaceheaa.Pure
