/- The statement SharesDiffer over plain numbers: two lists give the same shares at enough places only if they are the same. -/
import Derived.Test.YtpeinbibaceheaaX12
import Derived.Test.YtpeinbibaceheaaBr7
namespace Go.Proofs.Ytpeinbibaceheaa.Pure
open Go.RowKit Go.Proofs.Ytpeinbibaceheaa.X Go.Proofs.YtpeinbibaceheaaW.PrintWords Go.Proofs.YtpeinbibaceheaaW.PrintLast
open ObsMath
set_option linter.unusedVariables false

theorem padd_zero : ∀ a b : List F, a.length = b.length → (∀ c ∈ padd a (pscale (-1) b), c = 0) → a = b
  | [], [], _, _ => rfl
  | [], _ :: _, h, _ => by simp at h
  | _ :: _, [], h, _ => by simp at h
  | x :: a, y :: b, h, hc => by
    have e : padd (x :: a) (pscale (-1) (y :: b)) = (x + (-1) * y) :: padd a (pscale (-1) b) := rfl
    rw [e] at hc
    have h1 := hc _ List.mem_cons_self
    have h2 := padd_zero a b (by simpa using h) (fun c hm => hc c (List.mem_cons_of_mem _ hm))
    rw [h2, show x = y by grind]

theorem map_toF_inj : ∀ a b : List Int, a.all inP = true → b.all inP = true → a.map toF = b.map toF → a = b
  | [], [], _, _, _ => rfl
  | [], _ :: _, _, _, h => by simp at h
  | _ :: _, [], _, _, h => by simp at h
  | x :: a, y :: b, ha, hb, h => by
    rw [List.all_cons, Bool.and_eq_true] at ha hb
    rw [List.map_cons, List.map_cons, List.cons.injEq] at h
    rw [eqP ha.1 hb.1 h.1, map_toF_inj a b ha.2 hb.2 h.2]

/-- The places that follow each other. -/
def kk (q m j : Nat) : Nat := (q + j) % m

theorem kk_inj {q m i j : Nat} (hij : i < j) (hj : j < m) : kk q m i ≠ kk q m j := by
  intro e
  have h := Nat.sub_mod_eq_zero_of_mod_eq e.symm
  rw [show q + j - (q + i) = j - i by omega, Nat.mod_eq_of_lt (by omega)] at h
  omega

theorem differ_math {s : Int} {r u : List Int} {n m q : Nat} (h1 : 1 ≤ n) (h2 : n ≤ m) (h16 : m ≤ 16) (hr : r.length = n - 1) (hu : u.length = n - 1) (ar : r.all inP = true) (au : u.all inP = true)
    (h : ∀ j, j < n - 1 → evI (s :: r) ((kk q m j : Int) + 1) = evI (s :: u) ((kk q m j : Int) + 1)) : r = u := by
  have hk : ∀ j, kk q m j < m := fun j => Nat.mod_lt _ (by omega)
  have hz := roots_zero (toF 0 :: (List.range (n - 1)).map (fun (j : Nat) => toF ((kk q m j : Int) + 1))) (padd ((s :: r).map toF) (pscale (-1) ((s :: u).map toF))) ?_ ?_ ?_
  · have := padd_zero _ _ (by simp [hr, hu]) hz
    rw [List.map_cons, List.map_cons, List.cons.injEq] at this
    exact map_toF_inj r u ar au this.2
  · refine List.nodup_cons.2 ⟨fun hm => ?_, List.pairwise_map.2 ?_⟩
    · obtain ⟨j, _, e⟩ := List.mem_map.1 hm
      have := hk j
      have := toF_inj (x := (kk q m j : Int) + 1) (y := 0) (by omega) (by omega) (by omega) (by omega) e
      omega
    · refine (List.pairwise_lt_range (n := n - 1)).imp_of_mem fun {a b} ha hb hab e => ?_
      have hb' := List.mem_range.1 hb
      have h3 := hk a
      have h4 := hk b
      have := toF_inj (by omega) (by omega) (by omega) (by omega) e
      exact kk_inj (q := q) (m := m) hab (by omega) (by omega)
  · rw [padd_length, pscale]
    simp [hr, hu]
  · intro x hx
    rw [ev_padd, ev_pscale]
    rcases List.mem_cons.1 hx with rfl | hx
    · rw [toF_zero, ev_zero_at, ev_zero_at]; grind
    · obtain ⟨j, hj, rfl⟩ := List.mem_map.1 hx
      have := h j (List.mem_range.1 hj)
      rw [← evI_F, ← evI_F, this]
      grind

theorem kk_eq {q m i : Nat} (hq : q ≤ 255) (hi : i ≤ 16) (hm : 1 ≤ m) : Int.tmod (wrap64 (wrap64 (q : Int) + (i : Int))) (m : Int) = (kk q m i : Int) := by
  rw [w64 (n := (q : Int)) (by omega) (by omega), w64 (by omega) (by omega)]
  exact (Int.ofNat_tmod (q + i) m).symm

theorem differ_l0 (p q : List Int) (r u : List Int) {n m f : Nat} (h1 : 1 ≤ n) (h2 : n ≤ m) (h8 : m ≤ 8) (hf : f ≤ 255) (hr : r.length = n - 1) (hu : u.length = n - 1) : ∀ (d k i : Nat) (b1 b2 : Bool), n - 1 - i = d → i ≤ n - 1 → d < k →
    (b1 = true ↔ ∀ j : Nat, j < i → rd r (j : Int) = rd u (j : Int)) → (b2 = true ↔ ∀ j : Nat, j < i → evI p ((kk f m j : Int) + 1) = evI q ((kk f m j : Int) + 1)) →
    ∃ c1 c2 : Bool, (c1 = true ↔ ∀ j : Nat, j < n - 1 → rd r (j : Int) = rd u (j : Int)) ∧ (c2 = true ↔ ∀ j : Nat, j < n - 1 → evI p ((kk f m j : Int) + 1) = evI q ((kk f m j : Int) + 1)) ∧
      observatorylaw07_SharesDiffer.l0 k (f : Int) true (n : Int) (m : Int) r u (shareList p m) (shareList q m) b1 b2 (i : Int) = some (c1 == c2) := by
  intro d
  induction d with
  | zero =>
    intro k i b1 b2 g1 g2 g3 e1 e2
    obtain ⟨k, rfl⟩ : ∃ z, k = z + 1 := ⟨k - 1, by clear e1 e2; omega⟩
    obtain rfl : i = n - 1 := by clear e1 e2; omega
    refine ⟨b1, b2, e1, e2, ?_⟩
    simp only [observatorylaw07_SharesDiffer.l0]
    rw [w64 (n := (n : Int) - 1) (by clear e1 e2; omega) (by clear e1 e2; omega), if_neg (by clear e1 e2; omega), if_pos trivial]
  | succ d ih =>
    intro k i b1 b2 g1 g2 g3 e1 e2
    obtain ⟨k, rfl⟩ : ∃ z, k = z + 1 := ⟨k - 1, by clear e1 e2; omega⟩
    have hkm : kk f m i < m := Nat.mod_lt _ (by clear e1 e2; omega)
    have step : observatorylaw07_SharesDiffer.l0 (k + 1) (f : Int) true (n : Int) (m : Int) r u (shareList p m) (shareList q m) b1 b2 (i : Int) =
        observatorylaw07_SharesDiffer.l0 k (f : Int) true (n : Int) (m : Int) r u (shareList p m) (shareList q m) (b1 && (rd r (i : Int) == rd u (i : Int))) (b2 && (evI p ((kk f m i : Int) + 1) == evI q ((kk f m i : Int) + 1))) ((i + 1 : Nat) : Int) := by
      clear e1 e2
      simp only [observatorylaw07_SharesDiffer.l0]
      rw [w64 (n := (n : Int) - 1) (by omega) (by omega), if_pos (by omega), if_neg (by omega), kk_eq hf (by omega) (by omega), w_succ (by omega), shareList_rd p hkm, shareList_rd q hkm]
      have c1 : (0 : Int) ≤ (i : Int) := by omega
      have c2 : (i : Int) < (r.length : Int) := by omega
      have c3 : (i : Int) < (u.length : Int) := by omega
      have c4 : (0 : Int) ≤ (kk f m i : Int) := by omega
      have c5 : (kk f m i : Int) < ((shareList p m).length : Int) := by rw [shareList_length]; omega
      have c6 : (kk f m i : Int) < ((shareList q m).length : Int) := by rw [shareList_length]; omega
      simp only [if_pos c1, if_pos c2, if_pos c3, if_pos c4, if_pos c5, if_pos c6, shareAt]
      cases b1 <;> cases b2 <;> simp
    rw [step]
    refine ih k (i + 1) _ _ (by clear e1 e2 step; omega) (by clear e1 e2 step; omega) (by clear e1 e2 step; omega) ?_ ?_
    · rw [Bool.and_eq_true, e1, beq_iff_eq]
      constructor
      · rintro ⟨a, b⟩ j hj
        by_cases h : j = i
        · subst h; exact b
        · exact a j (by clear e1 e2 step a; omega)
      · intro a
        exact ⟨fun j hj => a j (by clear e1 e2 step; omega), a i (by clear e1 e2 step; omega)⟩
    · rw [Bool.and_eq_true, e2, beq_iff_eq]
      constructor
      · rintro ⟨a, b⟩ j hj
        by_cases h : j = i
        · subst h; exact b
        · exact a j (by clear e1 e2 step a; omega)
      · intro a
        exact ⟨fun j hj => a j (by clear e1 e2 step; omega), a i (by clear e1 e2 step; omega)⟩

theorem SharesDiffer : observatorylaw07_SharesDiffer.Pure := by
  intro a0 l1 l2 a3 a4 a5 _ _ _ _ _ _ _ h3 h4 h5
  simp only [Lit.wf, Bool.and_eq_true, decide_eq_true_eq] at h3 h4 h5
  have b3 : 0 ≤ a3 ∧ a3 ≤ 255 := h3
  have b4 : 0 ≤ a4 ∧ a4 ≤ 255 := h4
  have b5 : 0 ≤ a5 ∧ a5 ≤ 255 := h5
  obtain ⟨f, rfl⟩ := Int.eq_ofNat_of_zero_le b5.1
  have hn := nOf_range a3
  have hm := mOf_range a3 a4
  have hol := outL_length l1 (nOf a3 - 1)
  have ho := outL_inP l1 (nOf a3 - 1) (by omega)
  have hol2 := outL_length l2 (nOf a3 - 1)
  have ho2 := outL_inP l2 (nOf a3 - 1) (by omega)
  refine ⟨40, ?_⟩
  unfold observatorylaw07_SharesDiffer.f
  rw [made_eq (k := 40) l1 (by omega) b3.1 (by omega) b4.1 (by omega), made_eq (k := 40) l2 (by omega) b3.1 (by omega) b4.1 (by omega)]
  simp only [observatorylaw07_head.f, Option.bind_some, elem7_eq, shares_Split.f]
  rw [split_ok hn.1 hm.1 (by omega) hol (inP_mod _) ho, split_ok hn.1 hm.1 (by omega) hol2 (inP_mod _) ho2]
  simp only [if_true, observatorylaw07_SharesDiffer.j0, shareList_length]
  rw [if_neg (by simp)]
  obtain ⟨c1, c2, e1, e2, e⟩ := differ_l0 (a0 % 2147483647 :: outL l1 (nOf a3 - 1)) (a0 % 2147483647 :: outL l2 (nOf a3 - 1)) (outL l1 (nOf a3 - 1)) (outL l2 (nOf a3 - 1)) (f := f) hn.1 hm.1 hm.2 (by omega) hol hol2
    (nOf a3 - 1) 39 0 true true (by omega) (by omega) (by omega) (by simp) (by simp)
  refine e.trans ?_
  have hc : c1 = true ↔ c2 = true := by
    rw [e1, e2]
    constructor
    · intro h
      have heq : outL l1 (nOf a3 - 1) = outL l2 (nOf a3 - 1) := by
        apply List.ext_getElem (by rw [hol, hol2])
        intro j h3 h4
        have := h j (by omega)
        rwa [rd_at h3, rd_at h4] at this
      rw [heq]
      intro j _
      rfl
    · intro h
      rw [differ_math hn.1 hm.1 (by omega) hol hol2 ho ho2 h]
      intro j _
      rfl
  cases c1 <;> cases c2 <;> simp_all

end Go.Proofs.Ytpeinbibaceheaa.Pure
