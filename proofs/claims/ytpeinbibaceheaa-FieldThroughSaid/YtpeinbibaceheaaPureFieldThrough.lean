/- The statement FieldThrough over plain numbers: the interpolated value at a point's X is its Y; the order of the points makes no difference. -/
import Derived.Test.YtpeinbibaceheaaX10
import Derived.Test.YtpeinbibaceheaaBr6b
import Derived.Test.YtpeinbibaceheaaXOpn
namespace Go.Proofs.Ytpeinbibaceheaa.Pure
open Go.RowKit Go.Proofs.Ytpeinbibaceheaa.X Go.Proofs.YtpeinbibaceheaaW.PrintWords
open ObsMath
set_option linter.unusedVariables false

theorem okP_all_rev {l : List S41} : l.reverse.all okP = l.all okP := by rw [List.all_reverse]

theorem XI_rev (l : List S41) {i : Nat} (hi : i < l.length) : XI l.reverse i = XI l (l.length - 1 - i) ∧ YI l.reverse i = YI l (l.length - 1 - i) := by
  unfold XI YI
  rw [rd41_at (by simpa using hi), rd41_at (by omega), List.getElem_reverse]
  exact ⟨rfl, rfl⟩

theorem good_rev {l : List S41} {x : Int} (h : IGood l x) : IGood l.reverse x := by
  refine IGood.of_dst (by simpa using h.n1) (by simpa using h.n16) h.hx (by rw [okP_all_rev]; exact h.ok) ?_
  intro i j hij hj
  rw [List.length_reverse] at hj
  rw [(XI_rev l (by omega)).1, (XI_rev l hj).1]
  intro e
  have := h.dst.inj _ _ (by omega) (by omega) e
  omega

theorem ival_rev {l : List S41} {x : Int} (h : IGood l x) : ival l.reverse x = ival l x := by
  obtain ⟨f, pf, hf, hv⟩ := h.poly
  refine eqP (inP_ival (good_rev h)) (inP_ival h) ?_
  rw [hv]
  refine (good_rev h).unique (by simpa using pf) ?_ x
  intro i hi
  rw [List.length_reverse] at hi
  rw [(XI_rev l hi).1, (XI_rev l hi).2]
  exact hf _ (by omega)

theorem interpF_rev_bad {l : List S41} {x : Int} (h : ¬ IGood l x) : interpF l.reverse x = interpF l x := by
  by_cases c : l.length < 1 ∨ l.length > 16 ∨ inP x = false
  · rw [interpF_arg c, interpF_arg (by simpa using c)]
  · cases ha : l.all okP with
    | false =>
      have e1 : interpF l x = (0, 1) := by unfold interpF; rw [if_neg c, if_pos ha]
      have e2 : interpF l.reverse x = (0, 1) := by unfold interpF; rw [if_neg (by simpa using c), if_pos (by rw [okP_all_rev]; exact ha)]
      rw [e1, e2]
    | true =>
      have h1 : 1 ≤ l.length := by
        rcases Nat.lt_or_ge l.length 1 with h' | h'
        · exact absurd (.inl h') c
        · exact h'
      have h2 : l.length ≤ 16 := by
        rcases Nat.lt_or_ge 16 l.length with h' | h'
        · exact absurd (.inr (.inl h')) c
        · exact h'
      have h3 : inP x = true := by
        cases h4 : inP x with
        | true => rfl
        | false => exact absurd (.inr (.inr h4)) c
      cases hd : dupN l l.length with
      | false => exact absurd ⟨h1, h2, h3, ha, hd⟩ h
      | true =>
        cases hd2 : dupN l.reverse l.reverse.length with
        | false =>
          have g : IGood l.reverse x := ⟨by simpa using h1, by simpa using h2, h3, by rw [okP_all_rev]; exact ha, hd2⟩
          exact absurd (by simpa using good_rev g) h
        | true => rw [interpF_dup h1 h2 h3 ha hd, interpF_dup (by simpa using h1) (by simpa using h2) h3 (by rw [okP_all_rev]; exact ha) hd2]

theorem ival_point {l : List S41} {x : Int} (h : IGood l x) {i : Nat} (hi : i < l.length) : ival l (XI l i) = YI l i := by
  obtain ⟨f, pf, hf, hv⟩ := h.poly
  have ho := ok_at h.ok i
  have g := h.at_ (XI l i) (inP_iff.2 ho.1)
  exact eqP (inP_ival g) (inP_iff.2 ho.2) (by rw [hv, hf i hi])

theorem rev_l0 (l : List S41) (x raw : Int) (a e : Int) (hl : l.length ≤ 16) (tail : Option Bool)
    (ht : ∀ k, 1 ≤ k → observatorylaw06_FieldThrough.l0 k l x raw true a e l.reverse (-1) = tail) :
    ∀ (d k : Nat), d ≤ l.length → d + 1 ≤ k → observatorylaw06_FieldThrough.l0 k l x raw true a e (l.reverse.take (l.length - d)) ((d : Int) - 1) = tail := by
  intro d
  induction d with
  | zero =>
    intro k _ hk
    rw [Nat.sub_zero, List.take_of_length_le (by simp)]
    exact ht k (by omega)
  | succ d ih =>
    intro k hd hk
    obtain ⟨k, rfl⟩ : ∃ m, k = m + 1 := ⟨k - 1, by omega⟩
    have hi : d < l.length := by omega
    have e1 : ((d + 1 : Nat) : Int) - 1 = (d : Int) := by omega
    have e2 : l.reverse.take (l.length - d) = l.reverse.take (l.length - (d + 1)) ++ [(⟨(l[d]).f0, (l[d]).f1⟩ : S41)] := by
      rw [show l.length - d = (l.length - (d + 1)) + 1 by omega, List.take_succ_eq_append_getElem (by simp; omega), List.getElem_reverse]
      congr 3
      simp only [show l.length - 1 - (l.length - (d + 1)) = d by omega]
    rw [e1]
    simp only [observatorylaw06_FieldThrough.l0]
    rw [if_pos (by omega), if_pos (by omega), if_pos (by omega), if_pos (by simp; omega), rd41_at hi, ← e2, w64 (by omega) (by omega)]
    exact ih k (by omega) (by omega)

theorem FieldThrough (z0 : List (S41)) (a1 : Int) (a2 : Int) (h0 : (fun l => l.length ≤ maxLen ∧ ∀ a ∈ l, ok41 a) z0) (h1 : (Lit.int .i64 a1).wf = true) (h2 : (Lit.int .u8 a2).wf = true) : ∃ k, observatorylaw06_FieldThrough.f k z0 a1 a2 = some true := by
  refine ⟨100, ?_⟩
  have hraw : 0 ≤ a2 ∧ a2 ≤ 255 := by
    simp only [Lit.wf, Bool.and_eq_true, decide_eq_true_eq] at h2
    exact h2
  have up : ∀ k, observatorylaw06_FieldThrough.j0 (k + 1) z0 a1 a2 true true = some true := fun k => by simp only [observatorylaw06_FieldThrough.j0]; rw [if_pos trivial]
  unfold observatorylaw06_FieldThrough.f
  simp only [observatorylaw06_head.f, Option.bind_some]
  by_cases n1 : (z0.length : Int) < 1
  · rw [if_pos n1, up]
  rw [if_neg n1]
  by_cases n2 : (z0.length : Int) > 16
  · rw [decide_eq_true n2, up]
  rw [decide_eq_false n2]
  simp only [observatorylaw06_FieldThrough.j0]
  rw [if_neg (by simp)]
  have hq : 0 ≤ Int.tmod (wrap64 a2) (z0.length : Int) ∧ Int.tmod (wrap64 a2) (z0.length : Int) < (z0.length : Int) := by
    rw [w64 (by omega) (by omega), tm _ (by omega)]
    exact ⟨Int.emod_nonneg _ (by omega), Int.emod_lt_of_pos _ (by omega)⟩
  obtain ⟨q, hq1⟩ : ∃ q : Nat, Int.tmod (wrap64 a2) (z0.length : Int) = (q : Int) := ⟨(Int.tmod (wrap64 a2) (z0.length : Int)).toNat, by omega⟩
  rw [hq1] at hq
  have hqn : q < z0.length := by omega
  rw [w64 (n := (z0.length : Int) - 1) (by omega) (by omega)]
  have fi : ∀ l y, field_Interpolate.f l y = some (interpF l y) := fun _ _ => rfl
  rw [fi, Option.bind_some]
  have main : ∀ k, 1 ≤ k → observatorylaw06_FieldThrough.l0 k z0 a1 a2 true (interpF z0 a1).1 (interpF z0 a1).2 z0.reverse (-1) = some true := by
    intro k hk
    obtain ⟨k, rfl⟩ : ∃ m, k = m + 1 := ⟨k - 1, by omega⟩
    simp only [observatorylaw06_FieldThrough.l0]
    rw [if_neg (by omega), fi, Option.bind_some, hq1]
    rcases interpF_cases z0 a1 with ⟨g, e⟩ | ⟨ng, e1, e2⟩
    · have gp := ival_point g hqn
      have g2 := g.at_ (XI z0 q) (inP_iff.2 (ok_at g.ok q).1)
      have hx : (rd_T41 z0 (q : Int)).f0 = XI z0 q := rfl
      have hy : (rd_T41 z0 (q : Int)).f1 = YI z0 q := rfl
      rw [e, if_pos rfl, if_neg (by omega), if_pos (by omega), if_pos (by omega), hx, fi, g2.val, Option.bind_some, (good_rev g).val, ival_rev g, hy, gp]
      simp
    · rw [if_neg e2, e1]
      rw [interpF_rev_bad ng]
      simp
  have := rev_l0 z0 a1 a2 _ _ (by omega) (some true) main z0.length 99 (Nat.le_refl _) (by omega)
  rw [Nat.sub_self, List.take_zero] at this
  exact this

end Go.Proofs.Ytpeinbibaceheaa.Pure
