/- The statement SharesHide over plain numbers: any secret fits to fewer than enough shares. -/
import Derived.Test.YtpeinbibaceheaaX15
import Derived.Test.YtpeinbibaceheaaBr7c
namespace Go.Proofs.Ytpeinbibaceheaa.Pure
open Go.RowKit Go.Proofs.Ytpeinbibaceheaa.X Go.Proofs.YtpeinbibaceheaaW.PrintWords Go.Proofs.YtpeinbibaceheaaW.PrintLast
open ObsMath
set_option linter.unusedVariables false

/-- The places that follow each other. -/
def kq (q m j : Nat) : Nat := (q + j) % m

theorem kq_inj {q m i j : Nat} (hij : i < j) (hj : j < m) : kq q m i ≠ kq q m j := by
  intro e
  have h := Nat.sub_mod_eq_zero_of_mod_eq e.symm
  rw [show q + j - (q + i) = j - i by omega, Nat.mod_eq_of_lt (by omega)] at h
  omega

theorem kq_eq {q m i : Nat} (hq : q ≤ 255) (hi : i ≤ 16) (hm : 1 ≤ m) : Int.tmod (wrap64 (wrap64 (q : Int) + (i : Int))) (m : Int) = (kq q m i : Int) := by
  rw [w64 (n := (q : Int)) (by omega) (by omega), w64 (by omega) (by omega)]
  exact (Int.ofNat_tmod (q + i) m).symm

/-- The points that the law takes. -/
def pts (t : Int) (p : List Int) (q m : Nat) : Nat → List S41
  | 0 => [⟨0, t⟩]
  | j + 1 => pts t p q m j ++ [⟨(kq q m j : Int) + 1, evI p ((kq q m j : Int) + 1)⟩]
def plc (q m : Nat) : Nat → List Int
  | 0 => []
  | j + 1 => plc q m j ++ [(kq q m j : Int)]

theorem pts_length (t : Int) (p : List Int) (q m : Nat) : ∀ j, (pts t p q m j).length = j + 1
  | 0 => rfl
  | j + 1 => by simp [pts, pts_length t p q m j]
theorem plc_length (q m : Nat) : ∀ j, (plc q m j).length = j
  | 0 => rfl
  | j + 1 => by simp [plc, plc_length q m j]

theorem XI_app {l : List S41} {x : S41} {i : Nat} (h : i < l.length) : XI (l ++ [x]) i = XI l i ∧ YI (l ++ [x]) i = YI l i := by
  unfold XI YI
  rw [rd41_at (by simp; omega), rd41_at h, List.getElem_append_left h]
  exact ⟨rfl, rfl⟩
theorem XI_end {l : List S41} {x : S41} : XI (l ++ [x]) l.length = x.f0 ∧ YI (l ++ [x]) l.length = x.f1 := by
  unfold XI YI
  rw [rd41_at (by simp)]
  simp

theorem pts_zero (t : Int) (p : List Int) (q m : Nat) : ∀ j, XI (pts t p q m j) 0 = 0 ∧ YI (pts t p q m j) 0 = t
  | 0 => ⟨rfl, rfl⟩
  | j + 1 => by
    have hl := pts_length t p q m j
    rw [pts, (XI_app (by omega)).1, (XI_app (by omega)).2]
    exact pts_zero t p q m j

theorem pts_succ (t : Int) (p : List Int) (q m : Nat) : ∀ j i, i < j → XI (pts t p q m j) (i + 1) = (kq q m i : Int) + 1 ∧ YI (pts t p q m j) (i + 1) = evI p ((kq q m i : Int) + 1)
  | 0, i, h => by omega
  | j + 1, i, h => by
    have hl := pts_length t p q m j
    by_cases e : i = j
    · subst e
      have h2 := XI_end (l := pts t p q m i) (x := ⟨(kq q m i : Int) + 1, evI p ((kq q m i : Int) + 1)⟩)
      rw [hl] at h2
      exact h2
    · rw [pts, (XI_app (by omega)).1, (XI_app (by omega)).2]
      exact pts_succ t p q m j i (by omega)

theorem pts_ok (t : Int) (p : List Int) (q : Nat) {m : Nat} (ht : inP t = true) (hm : 1 ≤ m) (h8 : m ≤ 8) : ∀ j, (pts t p q m j).all okP = true
  | 0 => by simp only [pts, List.all_cons, List.all_nil, okP, ht]; decide
  | j + 1 => by
    have hk : kq q m j < m := Nat.mod_lt _ (by omega)
    rw [pts, List.all_append, pts_ok t p q ht hm h8 j, Bool.true_and, List.all_cons, List.all_nil, Bool.and_true]
    unfold okP
    rw [inP_evI, Bool.and_true]
    exact inP_iff.2 (by simp only []; omega)

theorem pts_good (t : Int) (p : List Int) (q : Nat) {m j : Nat} (ht : inP t = true) (hm : j + 1 ≤ m) (h8 : m ≤ 8) : PGood (pts t p q m j) := by
  have hl := pts_length t p q m j
  have hk : ∀ i, kq q m i < m := fun i => Nat.mod_lt _ (by omega)
  have hx : ∀ i, i < j + 1 → XI (pts t p q m j) i = if i = 0 then 0 else (kq q m (i - 1) : Int) + 1 := by
    intro i hi
    cases i with
    | zero => rw [(pts_zero t p q m j).1]; rfl
    | succ i => rw [(pts_succ t p q m j i (by omega)).1, if_neg (by omega)]; rfl
  refine ⟨pts_ok t p q ht (by omega) h8 j, ⟨?_, ?_, ?_⟩, by omega⟩
  · intro i hi
    rw [hx i (by omega)]; split <;> omega
  · intro i hi
    have := hk (i - 1)
    rw [hx i (by omega)]; split <;> omega
  · have key : ∀ a b, a < b → b < j + 1 → XI (pts t p q m j) a ≠ XI (pts t p q m j) b := by
      intro a b hab hb e
      rw [hx a (by omega), hx b hb, if_neg (by omega : ¬ b = 0)] at e
      by_cases ha : a = 0
      · rw [if_pos ha] at e; omega
      · rw [if_neg ha] at e
        exact kq_inj (q := q) (m := m) (i := a - 1) (j := b - 1) (by omega) (by omega) (by omega)
    intro a b ha hb e
    rcases Nat.lt_trichotomy a b with h | h | h
    · exact absurd e (key a b h (by omega))
    · exact h
    · exact absurd e.symm (key b a h (by omega))

theorem plc_get (q m : Nat) : ∀ n i (h : i < (plc q m n).length), (plc q m n)[i] = (kq q m i : Int)
  | 0, i, h => by simp [plc] at h
  | n + 1, i, h => by
    have hl := plc_length q m n
    have hl2 := plc_length q m (n + 1)
    by_cases e : i < n
    · simp only [plc]
      rw [List.getElem_append_left (by omega)]
      exact plc_get q m n i (by omega)
    · obtain rfl : i = n := by omega
      simp only [plc]
      rw [List.getElem_append_right (by omega)]
      simp [hl]

theorem hide_l0 (t : Int) (p : List Int) (s1 : Int) {f n m : Nat} (hf : f ≤ 255) (h1 : 1 ≤ n) (h2 : n ≤ m) (h8 : m ≤ 8) (r : Bool)
    (hr : EvK (fun k => (observatorylaw07_through.f k (pts t p f m (n - 1))).bind fun t502 => (if (t502.length : Int) = (n : Int) then (if 0 < (t502.length : Int) then ((observatorylaw07_element.f s1).bind fun t506 => (observatorylaw07_SharesHide.j2 k s1 true (n : Int) (m : Int) (shareList p m) (plc f m (n - 1)) t502 ((rd t502 0) != t506))) else (none)) else (observatorylaw07_SharesHide.j2 k s1 true (n : Int) (m : Int) (shareList p m) (plc f m (n - 1)) t502 true))) r) :
    ∀ (d i : Nat), n - 1 - i = d → i ≤ n - 1 → EvK (fun k => observatorylaw07_SharesHide.l0 k s1 (f : Int) true (n : Int) (m : Int) (shareList p m) (pts t p f m i) (plc f m i) (i : Int)) r := by
  intro d
  induction d with
  | zero =>
    intro i g1 g2
    obtain rfl : i = n - 1 := by omega
    refine EvK.step (fun k hk => ?_) hr
    simp only [observatorylaw07_SharesHide.l0]
    rw [w64 (n := (n : Int) - 1) (by omega) (by omega), if_neg (by omega)]
  | succ d ih =>
    intro i g1 g2
    have hkm : kq f m i < m := Nat.mod_lt _ (by omega)
    refine EvK.step (fun k hk => ?_) (ih (i + 1) (by omega) (by omega))
    simp only [observatorylaw07_SharesHide.l0]
    rw [w64 (n := (n : Int) - 1) (by omega) (by omega), if_pos (by omega), if_neg (by omega), kq_eq hf (by omega) (by omega), if_pos (by rw [plc_length]; omega), if_pos (by omega), if_pos (by rw [shareList_length]; omega), if_pos (by rw [pts_length]; omega), w_succ (by omega),
      shareList_rd p hkm]
    rfl

theorem hide_l1 (p q : List Int) {f n m : Nat} (h2 : n ≤ m) (h8 : m ≤ 8) (h1 : 1 ≤ n) (he : ∀ j, j < n - 1 → evI q ((kq f m j : Int) + 1) = evI p ((kq f m j : Int) + 1)) :
    ∀ (d i : Nat), n - 1 - i = d → i ≤ n - 1 → EvK (fun k => observatorylaw07_SharesHide.l1 k true (shareList p m) (plc f m (n - 1)) (shareList q m) (i : Int)) true := by
  have hl := plc_length f m (n - 1)
  intro d
  induction d with
  | zero =>
    intro i g1 g2
    refine ⟨1, fun k hk => ?_⟩
    obtain ⟨k, rfl⟩ : ∃ z, k = z + 1 := ⟨k - 1, by omega⟩
    simp only [observatorylaw07_SharesHide.l1]
    rw [if_neg (by omega)]
  | succ d ih =>
    intro i g1 g2
    have hkm : kq f m i < m := Nat.mod_lt _ (by omega)
    refine EvK.step (fun k hk => ?_) (ih (i + 1) (by omega) (by omega))
    simp only [observatorylaw07_SharesHide.l1]
    rw [if_pos (by omega), if_pos (by omega), rd_at (by omega), plc_get, if_pos (by omega), if_pos (by rw [shareList_length]; omega), if_pos (by rw [shareList_length]; omega), w_succ (by omega), shareList_rd p hkm, shareList_rd q hkm]
    rw [if_neg]
    simp only [shareAt, he i (by omega)]
    simp

theorem SharesHide : observatorylaw07_SharesHide.Pure := by
  intro a0 a1 l2 a3 a4 a5 _ _ _ _ _ h3 h4 h5
  simp only [Lit.wf, Bool.and_eq_true, decide_eq_true_eq] at h3 h4 h5
  have b3 : 0 ≤ a3 ∧ a3 ≤ 255 := h3
  have b4 : 0 ≤ a4 ∧ a4 ≤ 255 := h4
  have b5 : 0 ≤ a5 ∧ a5 ≤ 255 := h5
  obtain ⟨f, rfl⟩ := Int.eq_ofNat_of_zero_le b5.1
  have hn := nOf_range a3
  have hm := mOf_range a3 a4
  have hol := outL_length l2 (nOf a3 - 1)
  have ho := outL_inP l2 (nOf a3 - 1) (by omega)
  obtain ⟨n, hnn⟩ : ∃ n, n = nOf a3 := ⟨_, rfl⟩
  obtain ⟨m, hmm⟩ : ∃ m, m = mOf a3 a4 := ⟨_, rfl⟩
  rw [← hnn] at hn hm hol ho
  rw [← hmm] at hm
  obtain ⟨p, hp⟩ : ∃ p, p = a0 % 2147483647 :: outL l2 (n - 1) := ⟨_, rfl⟩
  have good := pts_good (a1 % 2147483647) p f (m := m) (j := n - 1) (inP_mod _) (by omega) hm.2
  have hlen := pts_length (a1 % 2147483647) p f m (n - 1)
  obtain ⟨q, q1, q2, q3, q4⟩ := through_ok good
  rw [hlen] at q1 q3
  have z0 := q3 0 (by omega)
  rw [(pts_zero _ _ _ _ _).1, (pts_zero _ _ _ _ _).2] at z0
  cases q with
  | nil => simp at q1
  | cons c q =>
    have hq : q.length = n - 1 := by simp at q1; omega
    rw [List.all_cons, Bool.and_eq_true] at q2
    have hc : c = a1 % 2147483647 := by
      refine eqP q2.1 (inP_mod _) ?_
      rw [← z0, evI_F, toF_zero, ev_zero_at]
    have he : ∀ j, j < n - 1 → evI (c :: q) ((kq f m j : Int) + 1) = evI p ((kq f m j : Int) + 1) := by
      intro j hj
      have := q3 (j + 1) (by omega)
      rw [(pts_succ _ _ _ _ _ j hj).1, (pts_succ _ _ _ _ _ j hj).2] at this
      exact eqP (inP_evI _ _) (inP_evI _ _) this
    have fin : EvK (fun k => observatorylaw07_SharesHide.f k a0 a1 l2 a3 a4 (f : Int)) true := by
      have A := hide_l1 p (c :: q) (f := f) hm.1 hm.2 hn.1 he (n - 1) 0 (by omega) (by omega)
      have B : EvK (fun k => observatorylaw07_SharesHide.j3 k true (shareList p m) (plc f m (n - 1)) (shareList (c :: q) m) false) true := by
        refine EvK.step (fun k hk => ?_) A
        simp only [observatorylaw07_SharesHide.j3]
        rw [if_neg (by simp)]
        rfl
      have C : EvK (fun k => observatorylaw07_SharesHide.j2 k a1 true (n : Int) (m : Int) (shareList p m) (plc f m (n - 1)) (c :: q) false) true := by
        refine EvK.step (fun k hk => ?_) B
        simp only [observatorylaw07_SharesHide.j2, elem7_eq, shares_Split.f, Option.bind_some]
        rw [if_neg (by simp), if_pos (by simp; omega), List.drop_succ_cons, List.drop_zero, split_ok hn.1 hm.1 (by omega) hq (inP_mod _) q2.2, if_pos rfl, ← hc, shareList_length]
        simp
      obtain ⟨K1, hK1⟩ := q4
      obtain ⟨K2, hK2⟩ := C
      have D := hide_l0 (a1 % 2147483647) p a1 (f := f) (by omega) hn.1 hm.1 hm.2 true ⟨max K1 K2, fun k hk => by
        have t := hK1 k (by omega)
        simp only [] at t ⊢
        rw [t, Option.bind_some, q1, if_pos (by omega), if_pos (by omega), elem7_eq, Option.bind_some]
        have e : (rd (c :: q) 0 != a1 % 2147483647) = false := by simp [rd, hc]
        rw [e]
        exact hK2 k (by omega)⟩ (n - 1) 0 (by omega) (by omega)
      have E : EvK (fun k => observatorylaw07_SharesHide.j0 k a1 (f : Int) true (n : Int) (m : Int) (shareList p m) false) true := by
        refine EvK.step (fun k hk => ?_) D
        simp only [observatorylaw07_SharesHide.j0, elem7_eq, Option.bind_some]
        rw [if_neg (by simp)]
        rfl
      obtain ⟨K3, hK3⟩ := E
      refine ⟨max K3 16, fun k hk => ?_⟩
      show observatorylaw07_SharesHide.f k a0 a1 l2 a3 a4 (f : Int) = some true
      unfold observatorylaw07_SharesHide.f
      rw [made_eq (k := k) l2 (by omega) b3.1 (by omega) b4.1 (by omega)]
      simp only [observatorylaw07_head.f, Option.bind_some, elem7_eq, shares_Split.f]
      rw [← hnn, ← hmm, split_ok hn.1 hm.1 (by omega) hol (inP_mod _) ho, ← hp]
      simp only [if_true, shareList_length]
      rw [show ((m : Int) != (m : Int)) = false by simp]
      exact hK3 k (by omega)
    obtain ⟨K, hK⟩ := fin
    exact ⟨K, hK K (Nat.le_refl _)⟩

end Go.Proofs.Ytpeinbibaceheaa.Pure
