import Derived.Test.YtpeinbibaceheaaMath2
/-
  Plain arithmetic of a prime field: interpolation by Neville's rule and by Lagrange's; polynomials by Horner's rule and by powers.
-/
namespace ObsMath

def sub (a b : Int) : Int := (a - b + 2147483647) % 2147483647

theorem toF_subI (a b : Int) : toF (sub a b) = toF a - toF b := by
  unfold sub; rw [toF_mod, toF_add, toF_sub, toF_P]; grind

theorem sub_range (a b : Int) : 0 ≤ sub a b ∧ sub a b < 2147483647 := by unfold sub; omega

theorem sub_pos {a b : Int} (ha : 0 ≤ a) (ha' : a < 2147483647) (hb : 0 ≤ b) (hb' : b < 2147483647) (h : a ≠ b) : 0 < sub a b := by
  unfold sub; omega

/-- Neville's rule: the value at x of the polynomial through the points i to i + w. -/
def nv (X Y : Nat → Int) (x : Int) : Nat → Nat → Int
  | 0, i => Y i
  | w + 1, i => sub (sub x (X (i + (w + 1))) * nv X Y x w i % 2147483647) (sub x (X i) * nv X Y x w (i + 1) % 2147483647) * inv (sub (X i) (X (i + (w + 1)))) % 2147483647

/-- n different elements of the field. -/
structure Dst (X : Nat → Int) (n : Nat) : Prop where
  lo : ∀ i, i < n → 0 ≤ X i
  hi : ∀ i, i < n → X i < 2147483647
  inj : ∀ i j, i < n → j < n → X i = X j → i = j

theorem Dst.toF_inj {X : Nat → Int} {n i j : Nat} (h : Dst X n) (hi : i < n) (hj : j < n) (e : toF (X i) = toF (X j)) : i = j :=
  h.inj i j hi hj (ObsMath.toF_inj (h.lo i hi) (h.hi i hi) (h.lo j hj) (h.hi j hj) e)

theorem nv_range (X Y : Nat → Int) (x : Int) (hY : ∀ i, 0 ≤ Y i ∧ Y i < 2147483647) (w i : Nat) : 0 ≤ nv X Y x w i ∧ nv X Y x w i < 2147483647 := by
  cases w with
  | zero => exact hY i
  | succ w => simp only [nv]; omega

theorem nv_spec (X Y : Nat → Int) (n : Nat) (hd : Dst X n) : ∀ (w i : Nat), i + w < n →
    ∃ f : F → F, PF (w + 1) f ∧ (∀ j, i ≤ j → j ≤ i + w → f (toF (X j)) = toF (Y j)) ∧ ∀ x, toF (nv X Y x w i) = f (toF x)
  | 0, i, _ => ⟨fun _ => toF (Y i), PF.const _, fun j h1 h2 => by rw [show j = i by omega], fun x => rfl⟩
  | w + 1, i, h => by
    obtain ⟨f, pf, hf, ef⟩ := nv_spec X Y n hd w i (by omega)
    obtain ⟨g, pg, hg, eg⟩ := nv_spec X Y n hd w (i + 1) (by omega)
    have hne : X i ≠ X (i + (w + 1)) := fun e => by have := hd.inj i (i + (w + 1)) (by omega) (by omega) e; omega
    have hs := sub_pos (hd.lo i (by omega)) (hd.hi i (by omega)) (hd.lo _ (by omega)) (hd.hi _ h) hne
    have hv := inv_mul hs (sub_range _ _).2
    rw [toF_subI] at hv
    generalize hD : toF (inv (sub (X i) (X (i + (w + 1))))) = D at hv
    refine ⟨fun x => D * ((x - toF (X (i + (w + 1)))) * f x - (x - toF (X i)) * g x), ?_, ?_, ?_⟩
    · exact ((pf.mulx _).sub (pg.mulx _)).scale D
    · intro j h1 h2
      show D * _ = _
      by_cases e1 : j = i
      · subst e1; rw [hf j (by omega) (by omega)]; grind
      · by_cases e2 : j = i + (w + 1)
        · subst e2; rw [hg _ (by omega) (by omega)]; grind
        · rw [hf j (by omega) (by omega), hg j (by omega) (by omega)]; grind
    · intro x
      simp only [nv]
      rw [toF_mod, toF_mul, toF_subI, toF_mod, toF_mod, toF_mul, toF_mul, toF_subI, toF_subI, ef, eg, hD]
      grind

theorem nodup_of_dst {X : Nat → Int} {n : Nat} (hd : Dst X n) : ((List.range n).map (fun i => toF (X i))).Nodup := by
  unfold List.Nodup
  rw [List.pairwise_map]
  refine List.Pairwise.imp_of_mem ?_ (List.nodup_range (n := n))
  intro a b ha hb hab hc
  exact hab (hd.toF_inj (List.mem_range.1 ha) (List.mem_range.1 hb) hc)

theorem PF.unique_at {X : Nat → Int} {n m : Nat} (hd : Dst X n) (hm : m ≤ n) {f g : F → F} (hf : PF m f) (hg : PF m g)
    (h : ∀ i, i < n → f (toF (X i)) = g (toF (X i))) (x : F) : f x = g x := by
  refine PF.unique hf hg _ (nodup_of_dst hd) (by simpa using hm) ?_ x
  intro r hr
  obtain ⟨i, hi, rfl⟩ := List.mem_map.1 hr
  exact h i (List.mem_range.1 hi)

/-- The interpolated value is that of any polynomial of at most n coefficients through the n points. -/
theorem nv_unique {X Y : Nat → Int} {n : Nat} (hn : 1 ≤ n) (hd : Dst X n) {f : F → F} (hf : PF n f) (h : ∀ i, i < n → f (toF (X i)) = toF (Y i)) (x : Int) :
    toF (nv X Y x (n - 1) 0) = f (toF x) := by
  obtain ⟨g, pg, hg, eg⟩ := nv_spec X Y n hd (n - 1) 0 (by omega)
  rw [eg]
  refine PF.unique_at hd (Nat.le_refl n) (pg.mono (by omega)) hf ?_ _
  intro i hi
  rw [hg i (by omega) (by omega), h i hi]

theorem nv_exists {X Y : Nat → Int} {n : Nat} (hn : 1 ≤ n) (hd : Dst X n) :
    ∃ f : F → F, PF n f ∧ (∀ i, i < n → f (toF (X i)) = toF (Y i)) ∧ ∀ x, toF (nv X Y x (n - 1) 0) = f (toF x) := by
  obtain ⟨g, pg, hg, eg⟩ := nv_spec X Y n hd (n - 1) 0 (by omega)
  exact ⟨g, pg.mono (by omega), fun i hi => hg i (by omega) (by omega), eg⟩

/-- Lagrange's products. -/
def LA (X : Nat → F) (i : Nat) (x : F) : Nat → F
  | 0 => 1
  | m + 1 => if m = i then LA X i x m else LA X i x m * (x - X m)

theorem LA_PF (X : Nat → F) (i : Nat) : ∀ m, PF (if i < m then m else m + 1) (fun x => LA X i x m)
  | 0 => by simpa [LA] using PF.const 1
  | m + 1 => by
    have ih := LA_PF X i m
    by_cases e : m = i
    · subst e
      simp only [LA, if_pos]
      rw [if_neg (Nat.lt_irrefl m)] at ih
      rw [if_pos (Nat.lt_succ_self m)]; exact ih
    · simp only [LA, if_neg e]
      have h := (ih.mulx (X m)).congr (g := fun x => LA X i x m * (x - X m)) (fun x => by grind)
      refine h.mono ?_
      by_cases h1 : i < m
      · rw [if_pos h1, if_pos (by omega)]; omega
      · rw [if_neg h1, if_neg (by omega)]; omega

theorem LA_zero (X : Nat → F) (i j : Nat) (hji : j ≠ i) : ∀ m, j < m → LA X i (X j) m = 0
  | 0, h => absurd h (by omega)
  | m + 1, h => by
    by_cases e : m = j
    · subst e; simp only [LA, if_neg hji]; grind
    · have ih := LA_zero X i j hji m (by omega)
      by_cases e2 : m = i
      · simp only [LA, if_pos e2]; exact ih
      · simp only [LA, if_neg e2, ih]; grind

theorem LA_ne {X : Nat → F} (i : Nat) (x : F) : ∀ m, (∀ k, k < m → k ≠ i → x ≠ X k) → LA X i x m ≠ 0
  | 0, _ => by show (1 : F) ≠ 0; decide
  | m + 1, h => by
    have ih := LA_ne i x m (fun k hk => h k (by omega))
    by_cases e : m = i
    · simp only [LA, if_pos e]; exact ih
    · simp only [LA, if_neg e]
      intro hc
      rcases F_mul_eq_zero hc with h1 | h1
      · exact ih h1
      · exact h m (by omega) e (by grind)

/-- The reference's products: of a first factor and of differences. -/
def lg (X : Nat → Int) (y x : Int) (i : Nat) : Nat → Int
  | 0 => y
  | m + 1 => if m = i then lg X y x i m else lg X y x i m * sub x (X m) % 2147483647

theorem lg_F (X : Nat → Int) (y x : Int) (i : Nat) : ∀ m, toF (lg X y x i m) = toF y * LA (fun k => toF (X k)) i (toF x) m
  | 0 => by simp only [lg, LA]; grind
  | m + 1 => by
    have ih := lg_F X y x i m
    by_cases e : m = i
    · simp only [lg, LA, if_pos e]; exact ih
    · simp only [lg, LA, if_neg e]
      rw [toF_mod, toF_mul, ih, toF_subI]; grind

theorem lg_range (X : Nat → Int) (y x : Int) (i : Nat) (h0 : 0 ≤ y) (h1 : y < 2147483647) : ∀ m, 0 ≤ lg X y x i m ∧ lg X y x i m < 2147483647
  | 0 => ⟨h0, h1⟩
  | m + 1 => by
    have ih := lg_range X y x i h0 h1 m
    by_cases e : m = i
    · simp only [lg, if_pos e]; exact ih
    · simp only [lg, if_neg e]; omega

/-- The reference's sum over the first m points. -/
def lsum (X Y : Nat → Int) (n : Nat) (x : Int) : Nat → Int
  | 0 => 0
  | m + 1 => (lsum X Y n x m + lg X (Y m) x m n * pls 1 (lg X 1 (X m) m n) 2147483645 % 2147483647) % 2147483647

theorem lsum_range (X Y : Nat → Int) (n : Nat) (x : Int) (m : Nat) : 0 ≤ lsum X Y n x m ∧ lsum X Y n x m < 2147483647 := by
  cases m with
  | zero => simp only [lsum]; omega
  | succ m => simp only [lsum]; omega

theorem lsum_F (X Y : Nat → Int) (n : Nat) (hd : Dst X n) : ∀ m, m ≤ n →
    ∃ f : F → F, PF n f ∧ (∀ j, j < n → f (toF (X j)) = if j < m then toF (Y j) else 0) ∧ ∀ x, toF (lsum X Y n x m) = f (toF x)
  | 0, _ => ⟨fun _ => 0, ⟨[], by simp, fun _ => rfl⟩, fun j _ => by simp, fun x => by simp only [lsum]; exact toF_zero⟩
  | m + 1, hm => by
    obtain ⟨f, pf, hf, ef⟩ := lsum_F X Y n hd m (by omega)
    have hb := LA_ne (X := fun k => toF (X k)) m (toF (X m)) n (fun k hk hkm e => hkm (hd.toF_inj hk (by omega) e.symm))
    have hB : toF (lg X 1 (X m) m n) = LA (fun k => toF (X k)) m (toF (X m)) n := by rw [lg_F, toF_one]; grind
    have hr := lg_range X 1 (X m) m (by omega) (by omega) n
    have hpos : 0 < lg X 1 (X m) m n := by
      have : lg X 1 (X m) m n ≠ 0 := by
        intro h; rw [h, toF_zero] at hB; exact hb hB.symm
      omega
    have hi := inv_mul hpos hr.2
    rw [hB] at hi
    rw [← pls_inv hpos hr.2] at hi
    generalize hD : toF (pls 1 (lg X 1 (X m) m n) 2147483645) = D at hi
    refine ⟨fun x => f x + (D * toF (Y m)) * LA (fun k => toF (X k)) m x n, ?_, ?_, ?_⟩
    · have := LA_PF (fun k => toF (X k)) m n
      rw [if_pos (by omega)] at this
      exact pf.add (this.scale _)
    · intro j hj
      show f _ + _ = _
      rw [hf j hj]
      by_cases e : j = m
      · subst e
        rw [if_neg (Nat.lt_irrefl j), if_pos (Nat.lt_succ_self j)]; grind
      · rw [LA_zero (fun k => toF (X k)) m j e n hj]
        by_cases h : j < m
        · rw [if_pos h, if_pos (by omega)]; grind
        · rw [if_neg h, if_neg (by omega)]; grind
    · intro x
      simp only [lsum]
      rw [toF_mod, toF_add, ef, toF_mod, toF_mul, lg_F, hD]; grind

/-- Lagrange's sum and Neville's value agree. -/
theorem lsum_nv {X Y : Nat → Int} {n : Nat} (hn : 1 ≤ n) (hd : Dst X n) (hY : ∀ i, 0 ≤ Y i ∧ Y i < 2147483647) (x : Int) :
    lsum X Y n x n = nv X Y x (n - 1) 0 := by
  have r1 := lsum_range X Y n x n
  have r2 := nv_range X Y x hY (n - 1) 0
  refine toF_inj r1.1 r1.2 r2.1 r2.2 ?_
  obtain ⟨f, pf, hf, ef⟩ := lsum_F X Y n hd n (Nat.le_refl n)
  rw [ef]
  exact (nv_unique hn hd pf (fun i hi => by rw [hf i hi, if_pos hi]) x).symm

/-- A polynomial's value by Horner's rule, over integers. -/
def evI : List Int → Int → Int
  | [], _ => 0
  | c :: cs, x => (evI cs x * x + c) % 2147483647

theorem evI_F (x : Int) : ∀ cs : List Int, toF (evI cs x) = ev (cs.map toF) (toF x)
  | [] => toF_zero
  | c :: cs => by simp only [evI, List.map, ev]; rw [toF_mod, toF_add, toF_mul, evI_F x cs]; grind

theorem evI_range (x : Int) (cs : List Int) : 0 ≤ evI cs x ∧ evI cs x < 2147483647 := by
  cases cs with
  | nil => simp only [evI]; omega
  | cons c cs => simp only [evI]; omega

/-- The reference's sum of powers. -/
def evR (c : Nat → Int) (x : Int) : Nat → Int
  | 0 => 0
  | m + 1 => (evR c x m + c m * pls 1 x m % 2147483647) % 2147483647

theorem evR_range (c : Nat → Int) (x : Int) (m : Nat) : 0 ≤ evR c x m ∧ evR c x m < 2147483647 := by
  cases m with
  | zero => simp only [evR]; omega
  | succ m => simp only [evR]; omega

theorem pls_F (x : Int) (m : Nat) : toF (pls 1 x m) = pw (toF x) m := by
  show toF (pl _ 1 x m) = _
  rw [pl_F _ _ _ _ (Nat.lt_succ_self _), toF_one, Int.toNat_natCast]; grind

theorem ev_append (x : F) : ∀ a b : List F, ev (a ++ b) x = ev a x + pw x a.length * ev b x
  | [], b => by simp only [List.nil_append, ev, List.length_nil, pw]; grind
  | c :: a, b => by simp only [List.cons_append, ev, ev_append x a b, List.length_cons, pw]; grind

theorem evR_F (cs : List Int) (x : Int) : ∀ m, m ≤ cs.length → toF (evR (fun i => cs.getD i 0) x m) = ev ((cs.take m).map toF) (toF x)
  | 0, _ => toF_zero
  | m + 1, h => by
    have ih := evR_F cs x m (by omega)
    simp only [evR]
    rw [toF_mod, toF_add, ih, toF_mod, toF_mul, pls_F, List.take_succ_eq_append_getElem (by omega), List.map_append, ev_append]
    simp only [List.map, ev, List.length_map, List.length_take, List.getD_eq_getElem?_getD]
    rw [List.getElem?_eq_getElem (by omega), Nat.min_eq_left (by omega)]
    simp only [Option.getD_some]; grind

theorem evR_evI (cs : List Int) (x : Int) : evR (fun i => cs.getD i 0) x cs.length = evI cs x := by
  have r1 := evR_range (fun i => cs.getD i 0) x cs.length
  have r2 := evI_range x cs
  refine toF_inj r1.1 r1.2 r2.1 r2.2 ?_
  rw [evR_F cs x _ (Nat.le_refl _), List.take_length, evI_F]

end ObsMath
