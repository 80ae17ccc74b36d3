/- The statement SharesWrong over plain numbers: more than enough shares with one of them changed lie on no polynomial of that degree. -/
import Derived.Test.YtpeinbibaceheaaX13
import Derived.Test.YtpeinbibaceheaaBr7b
namespace Go.Proofs.Ytpeinbibaceheaa.Pure
open Go.RowKit Go.Proofs.Ytpeinbibaceheaa.X Go.Proofs.YtpeinbibaceheaaW.PrintWords Go.Proofs.YtpeinbibaceheaaW.PrintLast
open ObsMath
set_option linter.unusedVariables false

theorem SharesWrong : observatorylaw07_SharesWrong.Pure := by
  intro a0 l1 a2 a3 a4 a5 a6 _ _ _ _ h2 h3 h4 h5 h6
  simp only [Lit.wf, Bool.and_eq_true, decide_eq_true_eq] at h2 h3 h4 h5
  have b2 : 0 ≤ a2 ∧ a2 ≤ 255 := h2
  have b3 : 0 ≤ a3 ∧ a3 ≤ 255 := h3
  have b5 : 0 ≤ a5 ∧ a5 ≤ 255 := h5
  have hn := nOf_range a2
  have hm := mOf_range a2 a3
  have hol := outL_length l1 (nOf a2 - 1)
  have ho := outL_inP l1 (nOf a2 - 1) (by omega)
  have hsl := shareList_length (a0 % 2147483647 :: outL l1 (nOf a2 - 1)) (mOf a2 a3)
  have sel := pick_sel (a0 % 2147483647 :: outL l1 (nOf a2 - 1)) (mOf a2 a3) a4 (mOf a2 a3) (Nat.le_refl _)
  refine ⟨40, ?_⟩
  unfold observatorylaw07_SharesWrong.f
  rw [made_eq (k := 40) l1 (by omega) b2.1 (by omega) b3.1 (by omega)]
  simp only [observatorylaw07_head.f, Option.bind_some, elem7_eq, shares_Split.f]
  rw [split_ok hn.1 hm.1 (by omega) hol (inP_mod _) ho]
  simp only [if_true, observatorylaw07_SharesWrong.j0]
  rw [if_neg (by rw [hsl]; simp), chosen_eq _ _ (by omega) (by omega), Option.bind_some, hsl]
  obtain ⟨ss, hss⟩ : ∃ ss, ss = pick (shareList (a0 % 2147483647 :: outL l1 (nOf a2 - 1)) (mOf a2 a3)) a4 (mOf a2 a3) := ⟨_, rfl⟩
  rw [← hss] at sel ⊢
  have hlen := sel.len
  simp only [observatorylaw07_SharesWrong.j1, shares_Join.f, Option.bind_some, elem7_eq]
  by_cases hl : ss.length ≤ nOf a2
  · rw [if_pos (by omega), if_pos trivial]
  rw [if_neg (by omega)]
  by_cases hz : a6 % 2147483647 = 0
  · rw [if_pos (by simp [hz])]
  rw [if_neg (by simpa using hz), if_neg (by omega)]
  obtain ⟨a5, rfl⟩ := Int.eq_ofNat_of_zero_le b5.1
  have hk : a5 % ss.length < ss.length := Nat.mod_lt _ (by omega)
  have e : Int.tmod (wrap64 (a5 : Int)) (ss.length : Int) = ((a5 % ss.length : Nat) : Int) := by
    rw [w64 (n := (a5 : Int)) (by omega) (by omega)]
    exact (Int.ofNat_tmod a5 ss.length).symm
  rw [e, if_pos (Int.natCast_nonneg _), if_pos (Int.ofNat_lt.2 hk), Int.toNat_natCast, rd54_at hk]
  have vk := validS_iff.1 (List.all_eq_true.1 (sel.valid (by omega)) _ (List.getElem_mem hk))
  have rk := inP_iff.1 vk.2.2
  have hw : wrap64 ((ss[a5 % ss.length]).f1 + a6 % 2147483647) = (ss[a5 % ss.length]).f1 + a6 % 2147483647 := w64 (by omega) (by omega)
  rw [hw, join_wrong sel (n := nOf a2) (by rw [List.length_cons, hol]; omega) hn.1 (by omega) (by omega) (by omega) hk (inP_mod _) (by omega)]
  rfl

end Go.Proofs.Ytpeinbibaceheaa.Pure
