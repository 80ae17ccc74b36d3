import Derived.Test.YtpeinbibaceheaaMath1
/-
  Plain arithmetic of a prime field: inverses by Euclid's algorithm and by powers; interpolation by Neville and by Lagrange.
-/
namespace ObsMath

/-- The loop of Euclid's algorithm, with as many rounds as the first number says. -/
def eu : Nat → Int → Int → Int → Int → Int
  | 0, _, s, _, _ => s
  | k + 1, r, s, u, v => if 0 < u then eu k u v (r - r / u * u) (s - r / u * v) else s

theorem eu_more : ∀ (k m : Nat) (r s u v : Int), 0 ≤ u → u.toNat < k → u.toNat < m → eu k r s u v = eu m r s u v
  | 0, _, _, _, _, _, _, h, _ => absurd h (by omega)
  | _ + 1, 0, _, _, _, _, _, _, h => absurd h (by omega)
  | k + 1, m + 1, r, s, u, v, h0, h1, h2 => by
    simp only [eu]
    by_cases hu : 0 < u
    · rw [if_pos hu, if_pos hu]
      have e : r - r / u * u = r % u := by have := Int.emod_def r u; rw [Int.mul_comm] at this; omega
      have b1 := Int.emod_nonneg r (by omega : u ≠ 0)
      have b2 := Int.emod_lt_of_pos r hu
      exact eu_more k m _ _ _ _ (by omega) (by omega) (by omega)
    · rw [if_neg hu, if_neg hu]

def eus (r s u v : Int) : Int := eu (u.toNat + 1) r s u v

theorem eus_step (r s u v : Int) (h : 0 < u) : eus r s u v = eus u v (r - r / u * u) (s - r / u * v) := by
  have e : r - r / u * u = r % u := by have := Int.emod_def r u; rw [Int.mul_comm] at this; omega
  have b1 := Int.emod_nonneg r (by omega : u ≠ 0)
  have b2 := Int.emod_lt_of_pos r h
  show eu (u.toNat + 1) r s u v = _
  simp only [eu]
  rw [if_pos h]
  exact eu_more _ _ _ _ _ _ (by omega) (by omega) (by omega)

theorem eus_end (r s u v : Int) (h : ¬ 0 < u) : eus r s u v = s := by
  show eu (u.toNat + 1) r s u v = _
  simp only [eu]
  rw [if_neg h]

/-- What holds at the head of each round of Euclid's loop. -/
structure EuI (r s u v : Int) : Prop where
  r0 : 0 < r
  u0 : 0 ≤ u
  rP : r ≤ 2147483647
  uP : u < 2147483647
  s1 : -2147483647 ≤ s
  s2 : s ≤ 2147483647
  v1 : -2147483647 ≤ v
  v2 : v ≤ 2147483647
  sv : (s ≤ 0 ∧ 0 ≤ v ∧ v * r - s * u = 2147483647) ∨ (v ≤ 0 ∧ 0 ≤ s ∧ s * u - v * r = 2147483647)

theorem EuI.start (a : Int) (h0 : 0 ≤ a) (h1 : a < 2147483647) : EuI 2147483647 0 a 1 :=
  ⟨by omega, h0, by omega, h1, by omega, by omega, by omega, by omega, Or.inl ⟨by omega, by omega, by omega⟩⟩

theorem mul_le_of_one {x y : Int} (hx : 0 ≤ x) (hy : 1 ≤ y) : x ≤ x * y := by
  have := Int.mul_le_mul_of_nonneg_left hy hx; rw [Int.mul_one] at this; exact this

theorem EuI.step {r s u v : Int} (h : EuI r s u v) (hu : 0 < u) : EuI u v (r - r / u * u) (s - r / u * v)
    ∧ 0 ≤ r / u ∧ r / u ≤ r ∧ 0 ≤ r / u * u ∧ r / u * u ≤ r ∧ -2147483647 ≤ r / u * v ∧ r / u * v ≤ 2147483647 ∧ r - r / u * u < u := by
  obtain ⟨r0, u0, rP, uP, s1, s2, v1, v2, sv⟩ := h
  have e : r - r / u * u = r % u := by have := Int.emod_def r u; rw [Int.mul_comm] at this; omega
  have b1 := Int.emod_nonneg r (by omega : u ≠ 0)
  have b2 := Int.emod_lt_of_pos r hu
  have q0 : 0 ≤ r / u := Int.ediv_nonneg (by omega) (by omega)
  have q1 : r / u ≤ r / u * u := mul_le_of_one q0 hu
  generalize hq : r / u = q at *
  rcases sv with ⟨a1, a2, a3⟩ | ⟨a1, a2, a3⟩
  · have c1 : 0 ≤ q * v := Int.mul_nonneg q0 a2
    have c2 : v * u - (s - q * v) * u = v * u - s * u + q * v * u := by grind
    have c3 : v * (r - q * u) - (s - q * v) * u = v * r - s * u := by grind
    have c4 : 0 ≤ v * (r - q * u) := Int.mul_nonneg a2 (by omega)
    have c5 : (q * v - s) ≤ (q * v - s) * u := mul_le_of_one (by omega) hu
    have c6 : (q * v - s) * u = - ((s - q * v) * u) := by grind
    refine ⟨⟨hu, by omega, by omega, by omega, by omega, by omega, by omega, by omega, Or.inr ⟨by omega, by omega, by omega⟩⟩, q0, by omega, by omega, by omega, by omega, by omega, by omega⟩
  · have c1 : 0 ≤ q * (-v) := Int.mul_nonneg q0 (by omega)
    have c1' : q * (-v) = - (q * v) := by grind
    have c3 : (s - q * v) * u - v * (r - q * u) = s * u - v * r := by grind
    have c4 : 0 ≤ (-v) * (r - q * u) := Int.mul_nonneg (by omega) (by omega)
    have c4' : (-v) * (r - q * u) = - (v * (r - q * u)) := by grind
    have c5 : (s - q * v) ≤ (s - q * v) * u := mul_le_of_one (by omega) hu
    refine ⟨⟨hu, by omega, by omega, by omega, by omega, by omega, by omega, by omega, Or.inl ⟨by omega, by omega, by omega⟩⟩, q0, by omega, by omega, by omega, by omega, by omega, by omega⟩


theorem dvd_pn {m r : Int} (h0 : 0 < r) (h1 : r < 2147483647) (h : m * r = 2147483647) : r = 1 := by
  have hd : r.toNat ∣ Pn := by
    refine ⟨m.toNat, ?_⟩
    have hm : 0 ≤ m := by
      by_cases hc : m < 0
      · have := Int.mul_neg_of_neg_of_pos hc h0
        omega
      · omega
    have e : ((r.toNat * m.toNat : Nat) : Int) = 2147483647 := by
      rw [Int.natCast_mul, Int.toNat_of_nonneg hm, Int.toNat_of_nonneg (by omega), Int.mul_comm]; exact h
    show 2147483647 = _
    omega
  refine Classical.byContradiction fun hc => ?_
  exact pn_prime r.toNat (by omega) (by show _ < 2147483647; omega) hd

/-- Euclid's loop ends with an inverse. -/
theorem eu_inv (a : Int) : ∀ (k : Nat) (r s u v : Int), u.toNat < k → EuI r s u v → toF s * toF a = toF r → toF v * toF a = toF u →
    (0 < u ∨ r < 2147483647) → toF (eu k r s u v) * toF a = 1
  | 0, _, _, _, _, h, _, _, _, _ => absurd h (by omega)
  | k + 1, r, s, u, v, hk, hi, h1, h2, h4 => by
    simp only [eu]
    by_cases hu : 0 < u
    · rw [if_pos hu]
      have hs := hi.step hu
      have hr : r - r / u * u < u := hs.2.2.2.2.2.2.2
      refine eu_inv a k u v _ _ (by omega) hs.1 h2 ?_ (Or.inr hi.uP)
      rw [toF_sub, toF_sub, toF_mul, toF_mul, ← h1, ← h2]; grind
    · rw [if_neg hu]
      have hu0 : u = 0 := by have := hi.u0; omega
      subst hu0
      have hr : r < 2147483647 := by omega
      have h0 := hi.r0
      have hr1 : r = 1 := by
        rcases hi.sv with ⟨_, _, h⟩ | ⟨_, _, h⟩
        · exact dvd_pn (m := v) h0 hr (by rw [Int.mul_zero] at h; omega)
        · exact dvd_pn (m := -v) h0 hr (by rw [Int.mul_zero] at h; rw [Int.neg_mul]; omega)
      rw [h1, hr1, toF_one]

/-- The inverse by Euclid's algorithm; 0 at 0. -/
def inv (a : Int) : Int := (eus 2147483647 0 a 1 % 2147483647 + 2147483647) % 2147483647

theorem inv_range (a : Int) : 0 ≤ inv a ∧ inv a < 2147483647 := by unfold inv; omega

theorem inv_mul {a : Int} (h0 : 0 < a) (h1 : a < 2147483647) : toF (inv a) * toF a = 1 := by
  have e : toF (inv a) = toF (eus 2147483647 0 a 1) := by
    refine toF_eq.2 ?_
    unfold inv; omega
  rw [e]
  exact eu_inv a _ _ _ _ _ (Nat.lt_succ_self _) (EuI.start a (by omega) h1) (by rw [toF_zero, toF_P]; grind) (by rw [toF_one]; grind) (Or.inl h0)

/-- An element's inverse is one of a kind. -/
theorem F_inv_unique {a b c : F} (h1 : b * a = 1) (h2 : c * a = 1) : b = c := by grind

theorem F_ne_zero_of_inv {a b : F} (h : b * a = 1) : a ≠ 0 := by
  intro h0; subst h0
  have : (0 : F) = 1 := by grind
  exact absurd this (by decide)

theorem F_has_inv {a : F} (h : a ≠ 0) : ∃ b : F, b * a = 1 := by
  have hlt : a.val < 2147483647 := a.isLt
  have h0 : 0 < a.val := Nat.pos_of_ne_zero fun hc => h (Fin.ext hc)
  exact ⟨toF (inv (a.val : Int)), by have := inv_mul (a := (a.val : Int)) (by omega) (by omega); rwa [toF_back] at this⟩

/-- A power. -/
def pw (a : F) : Nat → F
  | 0 => 1
  | n + 1 => a * pw a n

theorem pw_add (a : F) (n : Nat) : ∀ m, pw a (n + m) = pw a n * pw a m
  | 0 => by simp only [pw, Nat.add_zero]; grind
  | m + 1 => by rw [Nat.add_succ, pw, pw_add a n m, pw]; grind

theorem pw_sq (a : F) : ∀ n, pw (a * a) n = pw a (2 * n)
  | 0 => rfl
  | n + 1 => by
    rw [show 2 * (n + 1) = 2 * n + 1 + 1 by omega, pw, pw, pw, pw_sq a n]; grind

theorem pw_mul (a b : F) : ∀ n, pw (a * b) n = pw a n * pw b n
  | 0 => by simp only [pw]; grind
  | n + 1 => by simp only [pw, pw_mul a b n]; grind

def prod : List F → F
  | [] => 1
  | a :: l => a * prod l

theorem prod_perm {l m : List F} (h : l.Perm m) : prod l = prod m := by
  induction h with
  | nil => rfl
  | cons x _ ih => simp only [prod, ih]
  | swap x y l => simp only [prod]; grind
  | trans _ _ h1 h2 => rw [h1, h2]

theorem prod_map (a : F) : ∀ l : List F, prod (l.map (a * ·)) = pw a l.length * prod l
  | [] => by simp only [List.map, prod, List.length_nil, pw]; grind
  | b :: l => by simp only [List.map, prod, List.length_cons, pw, prod_map a l]; grind

theorem prod_ne_zero : ∀ l : List F, (∀ b ∈ l, b ≠ 0) → prod l ≠ 0
  | [], _ => by show (1 : F) ≠ 0; decide
  | b :: l, h => by
    intro hc
    rcases F_mul_eq_zero hc with h1 | h1
    · exact h b (by simp) h1
    · exact prod_ne_zero l (fun c hc => h c (by simp [hc])) h1

theorem perm_of_mem {l m : List F} (hl : l.Nodup) (hm : m.Nodup) (h : ∀ a, a ∈ l ↔ a ∈ m) : l.Perm m := by
  rw [List.perm_iff_count]
  intro a
  have h1 := List.nodup_iff_count.1 hl a
  have h2 := List.nodup_iff_count.1 hm a
  have h3 : 0 < l.count a ↔ 0 < m.count a := by rw [List.count_pos_iff, List.count_pos_iff]; exact h a
  omega

/-- The elements but 0. -/
def els (n : Nat) : List F := (List.range n).map (fun (i : Nat) => toF ((i : Int) + 1))

theorem els_mem (n : Nat) (hn : n = 2147483646) (b : F) : b ∈ els n ↔ b ≠ 0 := by
  unfold els
  rw [List.mem_map]
  constructor
  · rintro ⟨i, hi, rfl⟩
    have := List.mem_range.1 hi
    exact toF_ne_zero (by omega) (by omega)
  · intro hb
    have hlt : b.val < 2147483647 := b.isLt
    have h0 : 0 < b.val := Nat.pos_of_ne_zero fun hc => hb (Fin.ext hc)
    refine ⟨b.val - 1, List.mem_range.2 (by omega), ?_⟩
    rw [show ((b.val - 1 : Nat) : Int) + 1 = (b.val : Int) by omega, toF_back]

theorem els_nodup (n : Nat) (hn : n = 2147483646) : (els n).Nodup := by
  unfold els List.Nodup
  rw [List.pairwise_map]
  refine List.Pairwise.imp_of_mem ?_ (List.nodup_range (n := n))
  intro a b ha hb hab hc
  have h1 := List.mem_range.1 ha
  have h2 := List.mem_range.1 hb
  have := toF_inj (by omega) (by omega) (by omega) (by omega) hc
  omega

theorem fermat_of (n : Nat) (hn : n = 2147483646) {a : F} (ha : a ≠ 0) : pw a n = 1 := by
  obtain ⟨b, hb⟩ := F_has_inv ha
  have hm := els_mem n hn
  have hp : ((els n).map (a * ·)).Perm (els n) := by
    refine perm_of_mem ?_ (els_nodup n hn) ?_
    · unfold List.Nodup
      rw [List.pairwise_map]
      refine List.Pairwise.imp ?_ (els_nodup n hn)
      intro x y hxy hc
      exact hxy (by grind)
    · intro c
      rw [List.mem_map, hm]
      constructor
      · rintro ⟨d, hd, rfl⟩ hc
        rcases F_mul_eq_zero hc with h | h
        · exact ha h
        · exact (hm d).1 hd h
      · intro hc
        refine ⟨b * c, (hm _).2 fun h => ?_, by grind⟩
        rcases F_mul_eq_zero h with h | h
        · subst h
          have : (0 : F) = 1 := by grind
          exact absurd this (by decide)
        · exact hc h
  have h1 := prod_perm hp
  rw [prod_map] at h1
  have hl : (els n).length = n := by unfold els; rw [List.length_map, List.length_range]
  rw [hl] at h1
  have h2 := prod_ne_zero (els n) (fun c hc => (hm c).1 hc)
  have h3 : (pw a n - 1) * prod (els n) = 0 := by grind
  rcases F_mul_eq_zero h3 with h | h
  · grind
  · exact absurd h h2

theorem fermat_inv (n : Nat) (hn : n = 2147483645) {a : F} (ha : a ≠ 0) : pw a n * a = 1 := by
  have h := fermat_of (n + 1) (by omega) ha
  rw [pw] at h; grind

/-- The loop of the reference's power, with as many rounds as the first number says. -/
def pl : Nat → Int → Int → Int → Int
  | 0, out, _, _ => out
  | k + 1, out, a, n => if 0 < n then pl k (if n % 2 = 1 then out * a % 2147483647 else out) (a * a % 2147483647) (n / 2) else out

theorem pl_more : ∀ (k m : Nat) (out a n : Int), n.toNat < k → n.toNat < m → pl k out a n = pl m out a n
  | 0, _, _, _, _, h, _ => absurd h (by omega)
  | _ + 1, 0, _, _, _, _, h => absurd h (by omega)
  | k + 1, m + 1, out, a, n, h1, h2 => by
    simp only [pl]
    by_cases hn : 0 < n
    · rw [if_pos hn, if_pos hn]
      exact pl_more k m _ _ _ (by omega) (by omega)
    · rw [if_neg hn, if_neg hn]

def pls (out a n : Int) : Int := pl (n.toNat + 1) out a n

theorem pls_step (out a n : Int) (h : 0 < n) : pls out a n = pls (if n % 2 = 1 then out * a % 2147483647 else out) (a * a % 2147483647) (n / 2) := by
  show pl (n.toNat + 1) out a n = _
  simp only [pl]
  rw [if_pos h]
  exact pl_more _ _ _ _ _ (by omega) (by omega)

theorem pls_end (out a n : Int) (h : ¬ 0 < n) : pls out a n = out := by
  show pl (n.toNat + 1) out a n = _
  simp only [pl]
  rw [if_neg h]

theorem pl_F : ∀ (k : Nat) (out a n : Int), n.toNat < k → toF (pl k out a n) = toF out * pw (toF a) n.toNat
  | 0, _, _, _, h => absurd h (by omega)
  | k + 1, out, a, n, h => by
    simp only [pl]
    by_cases hn : 0 < n
    · rw [if_pos hn, pl_F k _ _ _ (by omega), toF_mod, toF_mul, pw_sq]
      by_cases ho : n % 2 = 1
      · rw [if_pos ho, toF_mod, toF_mul, show n.toNat = 2 * (n / 2).toNat + 1 by omega, pw]; grind
      · rw [if_neg ho, show n.toNat = 2 * (n / 2).toNat by omega]
    · rw [if_neg hn, show n.toNat = 0 by omega, pw]; grind

theorem pl_range : ∀ (k : Nat) (out a n : Int), 0 ≤ out → out < 2147483647 → 0 ≤ pl k out a n ∧ pl k out a n < 2147483647
  | 0, out, a, n, h0, h1 => ⟨h0, h1⟩
  | k + 1, out, a, n, h0, h1 => by
    simp only [pl]
    by_cases hn : 0 < n
    · rw [if_pos hn]
      by_cases ho : n % 2 = 1
      · rw [if_pos ho]; exact pl_range k _ _ _ (by omega) (by omega)
      · rw [if_neg ho]; exact pl_range k _ _ _ h0 h1
    · rw [if_neg hn]; exact ⟨h0, h1⟩

/-- The reference's inverse. -/
theorem pls_inv {a : Int} (h0 : 0 < a) (h1 : a < 2147483647) : pls 1 a 2147483645 = inv a := by
  have ha : toF a ≠ 0 := toF_ne_zero h0 h1
  have r1 := pl_range ((2147483645 : Int).toNat + 1) 1 a 2147483645 (by omega) (by omega)
  have r2 := inv_range a
  refine toF_inj r1.1 r1.2 r2.1 r2.2 (F_inv_unique (a := toF a) ?_ (inv_mul h0 h1))
  show toF (pl _ 1 a 2147483645) * _ = 1
  rw [pl_F _ _ _ _ (Nat.lt_succ_self _), toF_one]
  have := fermat_inv (2147483645 : Int).toNat (by omega) ha
  grind

end ObsMath
