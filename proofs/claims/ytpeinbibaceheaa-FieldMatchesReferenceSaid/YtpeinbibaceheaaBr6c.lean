import Derived.Test.YtpeinbibaceheaaBr6b
/-
  What the reference's functions of the field come to, in plain arithmetic.
-/
namespace Go.Proofs.Ytpeinbibaceheaa.X
open Go.RowKit Go.Proofs.YtpeinbibaceheaaW.PrintWords Go.Proofs.YtpeinbibaceheaaW.PrintLast
open ObsMath

theorem In_eq (a : Int) : observatoryref06_In.f a = some (inP a) := by
  unfold observatoryref06_In.f inP
  by_cases h : 0 ≤ a
  · rw [if_pos h, decide_eq_true h, Bool.true_and]; congr 1; rw [decide_eq_decide]; omega
  · rw [if_neg h, decide_eq_false h, Bool.false_and]

theorem rAdd_eq {k : Nat} (hk : 3 ≤ k) (a b : Int) : observatoryref06_Add.f a b = field_Add.f k a b := by
  unfold observatoryref06_Add.f
  rw [In_eq, In_eq, Option.bind_some, Option.bind_some]
  cases ha : inP a with
  | false => rw [if_neg (by simp), Add_bad hk (by rw [ha]; rfl)]
  | true =>
    rw [if_pos rfl]
    cases hb : inP b with
    | false => rw [if_neg (by simp), Add_bad hk (by rw [ha, hb]; rfl)]
    | true =>
      have h1 := inP_iff.1 ha
      have h2 := inP_iff.1 hb
      rw [if_pos rfl, Add_ok hk ha hb, w64 (by omega) (by omega), tm _ (by omega)]
      rfl

theorem rmul_eq {a b : Int} (ha : inP a = true) (hb : inP b = true) : observatoryref06_mul.f a b = some (mulV a b) := by
  have h1 := inP_iff.1 ha
  have h2 := inP_iff.1 hb
  have h3 := mul_range h1.1 h1.2 h2.1 h2.2
  unfold observatoryref06_mul.f
  rw [w64 (by omega) (by omega), tm _ (by omega)]
  rfl

theorem rMul_eq {k : Nat} (hk : 3 ≤ k) (a b : Int) : observatoryref06_Mul.f a b = field_Mul.f k a b := by
  unfold observatoryref06_Mul.f
  rw [In_eq, In_eq, Option.bind_some, Option.bind_some]
  cases ha : inP a with
  | false => rw [if_neg (by simp), Mul_bad hk (by rw [ha]; rfl)]
  | true =>
    rw [if_pos rfl]
    cases hb : inP b with
    | false => rw [if_neg (by simp), Mul_bad hk (by rw [ha, hb]; rfl)]
    | true => rw [if_pos rfl, Mul_ok hk ha hb, rmul_eq ha hb, Option.bind_some]

theorem power_l0 : ∀ (k : Nat) (a n out : Int), n.toNat < k → 0 ≤ n → n ≤ 9223372036854775807 → inP a = true → inP out = true → observatoryref06_power.l0 k a n out = some (pls out a n) := by
  intro k
  induction k with
  | zero => intro a n out h; omega
  | succ k ih =>
    intro a n out h h0 h9 ha ho
    simp only [observatoryref06_power.l0]
    by_cases hn : n > 0
    · rw [if_pos hn, tm _ h0, pls_step out a n hn, td _ h0, w64 (n := n / 2) (by omega) (by omega)]
      by_cases hp : n % 2 = 1
      · rw [if_pos hp, if_pos hp, rmul_eq ho ha, Option.bind_some, rmul_eq ha ha, Option.bind_some, ih _ _ _ (by omega) (by omega) (by omega) (inP_mulV _ _) (inP_mulV _ _)]
        rfl
      · rw [if_neg hp, if_neg hp, rmul_eq ha ha, Option.bind_some, ih _ _ _ (by omega) (by omega) (by omega) (inP_mulV _ _) ho]
        rfl
    · rw [if_neg hn, pls_end _ _ _ hn]

theorem power_eq {k : Nat} {a n : Int} (hk : n.toNat < k) (h0 : 0 ≤ n) (h9 : n ≤ 9223372036854775807) (ha : inP a = true) : observatoryref06_power.f k a n = some (pls 1 a n) :=
  power_l0 k a n 1 hk h0 h9 ha (by decide)

theorem inP_pls {a : Int} (n : Int) : inP (pls 1 a n) = true := inP_iff.2 (pl_range _ 1 a n (by omega) (by omega))

theorem rInverse_eq {k : Nat} (hk : 2147483648 ≤ k) (a : Int) : observatoryref06_Inverse.f k a = field_Inverse.f k a := by
  unfold observatoryref06_Inverse.f
  rw [In_eq, Option.bind_some]
  cases ha : inP a with
  | false => rw [if_neg (by simp), Inverse_bad k ha]
  | true =>
    have h1 := inP_iff.1 ha
    rw [if_pos rfl]
    by_cases a0 : a = 0
    · subst a0; rw [if_pos rfl, Inverse_zero]
    · rw [if_neg a0, power_eq (by omega) (by omega) (by omega) ha, Option.bind_some, Inverse_ok hk ha a0, pls_inv (by omega) h1.2]

theorem rall_l0 (l : List Int) (hl : l.length ≤ 9223372036854775806) : ∀ (d k i : Nat), l.length - i = d → i ≤ l.length → d < k → observatoryref06_all.l0 k l (i : Int) = some ((l.drop i).all inP) := by
  intro d
  induction d with
  | zero =>
    intro k i h1 h2 h3
    obtain ⟨k, rfl⟩ : ∃ m, k = m + 1 := ⟨k - 1, by omega⟩
    simp only [observatoryref06_all.l0]
    rw [if_neg (by omega), List.drop_eq_nil_of_le (by omega)]; rfl
  | succ d ih =>
    intro k i h1 h2 h3
    obtain ⟨k, rfl⟩ : ∃ m, k = m + 1 := ⟨k - 1, by omega⟩
    have hi : i < l.length := by omega
    simp only [observatoryref06_all.l0]
    rw [if_pos (by omega), if_pos (by omega), rd_at hi, In_eq, Option.bind_some, w_succ (by omega), ih k (i + 1) (by omega) (by omega) (by omega), List.drop_eq_getElem_cons hi, List.all_cons]
    cases inP l[i] <;> simp

theorem rall_eq {l : List Int} {k : Nat} (hl : l.length ≤ 9223372036854775806) (hk : l.length < k) : observatoryref06_all.f k l = some (l.all inP) := by
  have := rall_l0 l hl l.length k 0 (by omega) (by omega) hk
  simpa [observatoryref06_all.f] using this

theorem rEval_l0 (l : List Int) (x : Int) (hx : inP x = true) (ha : l.all inP = true) (h16 : l.length ≤ 16) : ∀ (d k i : Nat), l.length - i = d → i ≤ l.length → d + 20 < k →
    observatoryref06_Eval.l0 k l x (evR (fun i => l.getD i 0) x i) (i : Int) = some (evI l x, 0) := by
  intro d
  induction d with
  | zero =>
    intro k i h1 h2 h3
    obtain ⟨k, rfl⟩ : ∃ m, k = m + 1 := ⟨k - 1, by omega⟩
    obtain rfl : i = l.length := by omega
    simp only [observatoryref06_Eval.l0]
    rw [if_neg (by omega), evR_evI]
  | succ d ih =>
    intro k i h1 h2 h3
    obtain ⟨k, rfl⟩ : ∃ m, k = m + 1 := ⟨k - 1, by omega⟩
    have hi : i < l.length := by omega
    have hc : inP l[i] = true := List.all_eq_true.1 ha _ (List.getElem_mem hi)
    have r1 := evR_range (fun i => l.getD i 0) x i
    have r2 := inP_iff.1 (inP_mulV l[i] (pls 1 x i))
    simp only [observatoryref06_Eval.l0]
    rw [if_pos (by omega), if_pos (by omega), power_eq (by omega) (by omega) (by omega) hx, Option.bind_some, rd_at hi, rmul_eq hc (inP_pls _), Option.bind_some, w64 (n := evR (fun i => l.getD i 0) x i + mulV l[i] (pls 1 x i)) (by omega) (by omega), tm _ (by omega), w_succ (by omega)]
    have e : (evR (fun i => l.getD i 0) x i + mulV l[i] (pls 1 x i)) % 2147483647 = evR (fun i => l.getD i 0) x (i + 1) := by
      simp only [evR, mulV, List.getD_eq_getElem?_getD]
      rw [List.getElem?_eq_getElem hi]; rfl
    rw [e]
    exact ih k (i + 1) (by omega) (by omega) (by omega)

theorem rEval_eq {k : Nat} (l : List Int) (x : Int) (hk : 50 ≤ k) : observatoryref06_Eval.f k l x = field_Eval.f k l x := by
  obtain ⟨k, rfl⟩ : ∃ m, k = m + 1 := ⟨k - 1, by omega⟩
  unfold observatoryref06_Eval.f
  by_cases h1 : l.length > 16
  · rw [if_pos (by omega), Eval_bad (by omega) (.inl h1)]; simp only [observatoryref06_Eval.j0]; rw [if_pos trivial]
  · rw [if_neg (by omega), rall_eq (by omega) (by omega), Option.bind_some]
    cases h2 : l.all inP with
    | false => rw [if_neg (by simp), Eval_bad (by omega) (.inr (.inl h2))]; simp only [observatoryref06_Eval.j0]; rw [if_pos trivial]
    | true =>
      rw [if_pos rfl, In_eq, Option.bind_some]
      cases h3 : inP x with
      | false => rw [Eval_bad (by omega) (.inr (.inr h3))]; simp only [observatoryref06_Eval.j0]; rw [if_pos (by simp)]
      | true =>
        rw [Eval_ok (by omega) (by omega) h2 h3]
        simp only [observatoryref06_Eval.j0]
        rw [if_neg (by simp)]
        exact rEval_l0 l x h3 h2 (by omega) l.length k 0 (by omega) (by omega) (by omega)

theorem rminus_eq {a b : Int} (ha : inP a = true) (hb : inP b = true) : observatoryref06_minus.f a b = some (sub a b) := by
  have h1 := inP_iff.1 ha
  have h2 := inP_iff.1 hb
  unfold observatoryref06_minus.f ObsMath.sub
  rw [w64 (n := a - b) (by omega) (by omega), w64 (by omega) (by omega), tm _ (by omega)]
theorem inP_sub (a b : Int) : inP (sub a b) = true := inP_iff.2 (sub_range a b)

theorem XI_def (l : List S41) (i : Nat) : (rd_T41 l (i : Int)).f0 = XI l i := rfl
theorem YI_def (l : List S41) (i : Nat) : (rd_T41 l (i : Int)).f1 = YI l i := rfl

theorem ri_l0 (l : List S41) (x : Int) (hl : l.length ≤ 16) : ∀ (d k i : Nat), l.length - i = d → i ≤ l.length → d < k →
    observatoryref06_Interpolate.l0 k l x (i : Int) = if (l.drop i).all okP = true then observatoryref06_Interpolate.l1 (k - d - 1) l x 0 0 else some (0, 1) := by
  intro d
  induction d with
  | zero =>
    intro k i h1 h2 h3
    obtain ⟨k, rfl⟩ : ∃ m, k = m + 1 := ⟨k - 1, by omega⟩
    simp only [observatoryref06_Interpolate.l0]
    rw [if_neg (by omega), List.drop_eq_nil_of_le (by omega)]; simp
  | succ d ih =>
    intro k i h1 h2 h3
    obtain ⟨k, rfl⟩ : ∃ m, k = m + 1 := ⟨k - 1, by omega⟩
    have hi : i < l.length := by omega
    simp only [observatoryref06_Interpolate.l0]
    rw [if_pos (by omega), if_pos (by omega), rd41_at hi, In_eq, Option.bind_some, In_eq, Option.bind_some, w_succ (by omega), ih k (i + 1) (by omega) (by omega) (by omega), List.drop_eq_getElem_cons hi, List.all_cons,
      show k + 1 - (d + 1) - 1 = k - d - 1 by omega]
    unfold okP
    cases inP l[i].f0 <;> cases inP l[i].f1 <;> simp

theorem l2_ok (l : List S41) (x s : Int) (i : Nat) (hl : l.length ≤ 16) (hx : inP x = true) (ha : l.all okP = true) (hi : i < l.length) (hs : inP s = true) : ∀ (d k m : Nat), l.length - m = d → m ≤ l.length → d + 2147483650 ≤ k →
    (∀ q, m ≤ q → q < l.length → q ≠ i → XI l q ≠ XI l i) →
    observatoryref06_Interpolate.l2 k l x s (i : Int) (lg (XI l) (YI l i) x i m) (lg (XI l) 1 (XI l i) i m) (m : Int) =
      observatoryref06_Interpolate.l1 (k - d - 1) l x ((s + lg (XI l) (YI l i) x i l.length * pls 1 (lg (XI l) 1 (XI l i) i l.length) 2147483645 % 2147483647) % 2147483647) ((i + 1 : Nat) : Int) := by
  intro d
  have hy := inP_iff.1 (show inP (YI l i) = true from inP_iff.2 (ok_at ha i).2)
  induction d with
  | zero =>
    intro k m h1 h2 h3 h4
    obtain ⟨k, rfl⟩ : ∃ m, k = m + 1 := ⟨k - 1, by omega⟩
    obtain rfl : m = l.length := by omega
    have r1 := inP_iff.2 (lg_range (XI l) (YI l i) x i hy.1 hy.2 l.length)
    have r2 := inP_iff.2 (lg_range (XI l) 1 (XI l i) i (by omega) (by omega) l.length)
    have rs := inP_iff.1 hs
    have rm := inP_iff.1 (inP_mulV (lg (XI l) (YI l i) x i l.length) (pls 1 (lg (XI l) 1 (XI l i) i l.length) 2147483645))
    simp only [observatoryref06_Interpolate.l2]
    rw [if_neg (by omega), power_eq (by omega) (by omega) (by omega) r2, Option.bind_some, rmul_eq r1 (inP_pls _), Option.bind_some, w64 (n := s + _) (by omega) (by omega), tm _ (by omega), w_succ (by omega)]
    rfl
  | succ d ih =>
    intro k m h1 h2 h3 h4
    obtain ⟨k, rfl⟩ : ∃ m, k = m + 1 := ⟨k - 1, by omega⟩
    simp only [observatoryref06_Interpolate.l2]
    rw [if_pos (by omega), w_succ (by omega), show k + 1 - (d + 1) - 1 = k - d - 1 by omega]
    by_cases e : m = i
    · have := ih k (m + 1) (by omega) (by omega) (by omega) (fun q hq => h4 q (by omega))
      simp only [lg, if_pos e] at this
      rw [if_pos (by omega)]
      exact this
    · have r1 := inP_iff.2 (lg_range (XI l) (YI l i) x i hy.1 hy.2 m)
      have r2 := inP_iff.2 (lg_range (XI l) 1 (XI l i) i (by omega) (by omega) m)
      have om := inP_iff.2 (ok_at ha m).1
      have oi := inP_iff.2 (ok_at ha i).1
      have := ih k (m + 1) (by omega) (by omega) (by omega) (fun q hq => h4 q (by omega))
      simp only [lg, if_neg e] at this
      rw [if_neg (by omega), if_pos (by omega), if_pos (by omega), if_pos (by omega), XI_def, XI_def, if_neg (h4 m (Nat.le_refl _) (by omega) e), rminus_eq hx om, Option.bind_some, rmul_eq r1 (inP_sub _ _), Option.bind_some,
        rminus_eq oi om, Option.bind_some, rmul_eq r2 (inP_sub _ _), Option.bind_some]
      exact this

theorem l2_dup (l : List S41) (x s : Int) (i : Nat) (hl : l.length ≤ 16) (hx : inP x = true) (ha : l.all okP = true) (hi : i < l.length) : ∀ (d k m : Nat) (y1 y2 : Int), l.length - m = d → m ≤ l.length → d < k → inP y1 = true → inP y2 = true →
    (∃ q, m ≤ q ∧ q < l.length ∧ q ≠ i ∧ XI l q = XI l i) →
    observatoryref06_Interpolate.l2 k l x s (i : Int) y1 y2 (m : Int) = some (0, 8) := by
  intro d
  induction d with
  | zero => intro k m y1 y2 h1 h2 h3 _ _ ⟨q, g1, g2, _⟩; omega
  | succ d ih =>
    intro k m y1 y2 h1 h2 h3 r1 r2 ⟨q, g1, g2, g3, g4⟩
    obtain ⟨k, rfl⟩ : ∃ m, k = m + 1 := ⟨k - 1, by omega⟩
    simp only [observatoryref06_Interpolate.l2]
    rw [if_pos (by omega), w_succ (by omega)]
    by_cases e : m = i
    · rw [if_pos (by omega)]
      exact ih k (m + 1) _ _ (by omega) (by omega) (by omega) r1 r2 ⟨q, by omega, g2, g3, g4⟩
    · have om := inP_iff.2 (ok_at ha m).1
      have oi := inP_iff.2 (ok_at ha i).1
      rw [if_neg (by omega), if_pos (by omega), if_pos (by omega), if_pos (by omega), XI_def, XI_def]
      by_cases e2 : XI l m = XI l i
      · rw [if_pos e2]
      · have hqm : q ≠ m := fun e3 => e2 (e3 ▸ g4)
        rw [if_neg e2, rminus_eq hx om, Option.bind_some, rmul_eq r1 (inP_sub _ _), Option.bind_some, rminus_eq oi om, Option.bind_some, rmul_eq r2 (inP_sub _ _), Option.bind_some]
        exact ih k (m + 1) _ _ (by omega) (by omega) (by omega) (inP_mulV _ _) (inP_mulV _ _) ⟨q, by omega, g2, g3, g4⟩

theorem l1_ok (l : List S41) (x : Int) (g : IGood l x) : ∀ (d k i : Nat), l.length - i = d → i ≤ l.length → d * 20 + 2147483690 ≤ k →
    observatoryref06_Interpolate.l1 k l x (lsum (XI l) (YI l) l.length x i) (i : Int) = some (ival l x, 0) := by
  intro d
  have hl := g.n16
  induction d with
  | zero =>
    intro k i h1 h2 h3
    obtain ⟨k, rfl⟩ : ∃ m, k = m + 1 := ⟨k - 1, by omega⟩
    obtain rfl : i = l.length := by omega
    simp only [observatoryref06_Interpolate.l1]
    rw [if_neg (by omega), lsum_nv g.n1 g.dst (fun i => (ok_at g.ok i).2)]
    rfl
  | succ d ih =>
    intro k i h1 h2 h3
    obtain ⟨k, rfl⟩ : ∃ m, k = m + 1 := ⟨k - 1, by omega⟩
    have hi : i < l.length := by omega
    have e := l2_ok l x (lsum (XI l) (YI l) l.length x i) i hl g.hx g.ok hi (inP_iff.2 (lsum_range _ _ _ _ _)) l.length k 0 (by omega) (by omega) (by omega)
      (fun q _ hq hqi e => hqi (g.dst.inj q i hq hi e))
    simp only [observatoryref06_Interpolate.l1]
    rw [if_pos (by omega), if_pos (by omega), YI_def]
    refine Eq.trans e ?_
    exact ih (k - l.length - 1) (i + 1) (by omega) (by omega) (by omega)

theorem l1_dup (l : List S41) (x : Int) (h16 : l.length ≤ 16) (hx : inP x = true) (ha : l.all okP = true) (p q : Nat) (hpq : p < q) (hq : q < l.length) (he : XI l p = XI l q) : ∀ (d k i : Nat) (s : Int), p - i = d → i ≤ p → d * 20 + 2147483690 ≤ k → inP s = true →
    observatoryref06_Interpolate.l1 k l x s (i : Int) = some (0, 8) := by
  intro d
  induction d with
  | zero =>
    intro k i s h1 h2 h3 hs
    obtain ⟨k, rfl⟩ : ∃ m, k = m + 1 := ⟨k - 1, by omega⟩
    obtain rfl : i = p := by omega
    simp only [observatoryref06_Interpolate.l1]
    rw [if_pos (by omega), if_pos (by omega), YI_def]
    exact l2_dup l x s i h16 hx ha (by omega) l.length k 0 _ _ (by omega) (by omega) (by omega) (inP_iff.2 (ok_at ha i).2) (by decide) ⟨q, by omega, hq, by omega, he.symm⟩
  | succ d ih =>
    intro k i s h1 h2 h3 hs
    obtain ⟨k, rfl⟩ : ∃ m, k = m + 1 := ⟨k - 1, by omega⟩
    simp only [observatoryref06_Interpolate.l1]
    rw [if_pos (by omega), if_pos (by omega), YI_def]
    by_cases hd : ∃ r, 0 ≤ r ∧ r < l.length ∧ r ≠ i ∧ XI l r = XI l i
    · exact l2_dup l x s i h16 hx ha (by omega) l.length k 0 _ _ (by omega) (by omega) (by omega) (inP_iff.2 (ok_at ha i).2) (by decide) hd
    · have e := l2_ok l x s i h16 hx ha (by omega) hs l.length k 0 (by omega) (by omega) (by omega) (fun r hr hr2 hri e => hd ⟨r, hr, hr2, hri, e⟩)
      refine Eq.trans e ?_
      exact ih (k - l.length - 1) (i + 1) _ (by omega) (by omega) (by omega) (inP_iff.2 (by omega))

theorem rInterp_eq {k : Nat} (l : List S41) (x : Int) (hk : 2147485000 ≤ k) : observatoryref06_Interpolate.f k l x = some (interpF l x) := by
  obtain ⟨k, rfl⟩ : ∃ m, k = m + 1 := ⟨k - 1, by omega⟩
  unfold observatoryref06_Interpolate.f
  by_cases h1 : l.length < 1
  · rw [if_pos (by omega), interpF_arg (.inl h1)]; simp only [observatoryref06_Interpolate.j0]; rw [if_pos trivial]
  rw [if_neg (by omega)]
  by_cases h2 : l.length > 16
  · rw [if_pos (by omega), interpF_arg (.inr (.inl h2))]; simp only [observatoryref06_Interpolate.j0]; rw [if_pos trivial]
  rw [if_neg (by omega), In_eq, Option.bind_some]
  simp only [observatoryref06_Interpolate.j0]
  cases hx : inP x with
  | false => rw [if_pos (by simp), interpF_arg (.inr (.inr hx))]
  | true =>
    have e := ri_l0 l x (by omega) l.length k 0 (by omega) (by omega) (by omega)
    rw [if_neg (by simp)]
    refine Eq.trans e ?_
    rw [List.drop_zero]
    cases ha : l.all okP with
    | false =>
      rw [if_neg (by simp)]
      unfold interpF
      rw [if_neg (by rintro (h | h | h) <;> first | omega | (rw [hx] at h; cases h)), if_pos ha]
    | true =>
      rw [if_pos rfl]
      cases hd : dupN l l.length with
      | false =>
        have g : IGood l x := ⟨by omega, by omega, hx, ha, hd⟩
        rw [g.val]
        exact l1_ok l x g l.length _ 0 (by omega) (by omega) (by omega)
      | true =>
        rw [interpF_dup (by omega) (by omega) hx ha hd]
        have hex : ∃ p q, p < q ∧ q < l.length ∧ XI l p = XI l q := by
          refine Classical.byContradiction fun hc => ?_
          have := (dupN_iff l l.length (Nat.le_refl _)).2 (fun i j hij hj e => hc ⟨i, j, hij, hj, e⟩)
          rw [hd] at this; cases this
        obtain ⟨p, q, hpq, hq, he⟩ := hex
        exact l1_dup l x (by omega) hx ha p q hpq hq he p _ 0 0 (by omega) (by omega) (by omega) (by decide)

end Go.Proofs.Ytpeinbibaceheaa.X
