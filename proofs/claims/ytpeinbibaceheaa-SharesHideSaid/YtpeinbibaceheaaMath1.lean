/-
  Plain arithmetic of the integers modulo 2147483647, as a field; polynomials over it.
-/
namespace ObsMath

/-- No number from lo to lo + 2^d - 1 divides n. -/
def noDiv (n : Nat) : Nat → Nat → Bool
  | 0, lo => !(n % lo == 0)
  | d + 1, lo => noDiv n d lo && noDiv n d (lo + 2 ^ d)

theorem noDiv_spec (n : Nat) : ∀ (d lo : Nat), noDiv n d lo = true → ∀ k, lo ≤ k → k < lo + 2 ^ d → ¬ k ∣ n := by
  intro d
  induction d with
  | zero =>
    intro lo h k h1 h2 hd
    have e : k = lo := by simp at h2; omega
    subst e
    have := Nat.mod_eq_zero_of_dvd hd
    simp [noDiv, this] at h
  | succ d ih =>
    intro lo h k h1 h2
    simp only [noDiv, Bool.and_eq_true] at h
    have e : 2 ^ (d + 1) = 2 ^ d + 2 ^ d := by rw [Nat.pow_succ]; omega
    by_cases hk : k < lo + 2 ^ d
    · exact ih lo h.1 k h1 hk
    · exact ih (lo + 2 ^ d) h.2 k (by omega) (by omega)

abbrev Pn : Nat := 2147483647

theorem pn_small : noDiv Pn 16 2 = true := by decide +kernel

theorem pn_prime (k : Nat) (h1 : 2 ≤ k) (h2 : k < Pn) : ¬ k ∣ Pn := by
  intro hd
  obtain ⟨m, hm⟩ := hd
  have s := noDiv_spec Pn 16 2 pn_small
  by_cases hk : k < 2 + 2 ^ 16
  · exact s k h1 hk ⟨m, hm⟩
  · have hm1 : m < 2 + 2 ^ 16 := by
      refine Nat.lt_of_not_le fun hc => ?_
      have : (2 + 2 ^ 16) * (2 + 2 ^ 16) ≤ k * m := Nat.mul_le_mul (by omega) hc
      rw [← hm] at this
      simp [Pn] at this
    have hm2 : 2 ≤ m := by
      refine Nat.le_of_not_lt fun hc => ?_
      have hm0 : m = 0 ∨ m = 1 := by omega
      rcases hm0 with rfl | rfl
      · simp [Pn] at hm
      · rw [Nat.mul_one] at hm; omega
    exact s m hm2 hm1 ⟨k, by rw [hm]; exact Nat.mul_comm _ _⟩

theorem pn_coprime (k : Nat) (h1 : 1 ≤ k) (h2 : k < Pn) : Nat.gcd Pn k = 1 := by
  have hd1 := Nat.gcd_dvd_left Pn k
  have hd2 := Nat.gcd_dvd_right Pn k
  have hle := Nat.le_of_dvd (by omega) hd2
  have hpos := Nat.gcd_pos_of_pos_left k (show 0 < Pn by decide)
  by_cases h : 2 ≤ Nat.gcd Pn k
  · exact absurd hd1 (pn_prime _ h (by omega))
  · omega

abbrev F := Fin Pn
instance : NeZero Pn := ⟨by decide⟩

/-- An integer as an element of the field. -/
def toF (x : Int) : F := ⟨(x % 2147483647).toNat, by show _ < 2147483647; omega⟩

theorem toF_val (x : Int) : ((toF x).val : Int) = x % 2147483647 := by simp only [toF]; omega

theorem toF_eq {x y : Int} : toF x = toF y ↔ x % 2147483647 = y % 2147483647 := by
  constructor
  · intro h
    rw [← toF_val, ← toF_val, h]
  · intro h
    simp only [toF, h]

theorem F_ext {a b : F} (h : (a.val : Int) = b.val) : a = b := Fin.ext (by omega)

theorem toF_add (x y : Int) : toF (x + y) = toF x + toF y := by
  apply F_ext
  rw [toF_val, Fin.val_add]
  have hx := toF_val x
  have hy := toF_val y
  show _ = ((((toF x).val + (toF y).val) % 2147483647 : Nat) : Int)
  omega

theorem toF_mul (x y : Int) : toF (x * y) = toF x * toF y := by
  apply F_ext
  rw [toF_val, Fin.val_mul]
  have hx := toF_val x
  have hy := toF_val y
  show _ = ((((toF x).val * (toF y).val) % 2147483647 : Nat) : Int)
  rw [Int.natCast_emod, Int.natCast_mul, hx, hy]
  show _ = _ % 2147483647
  rw [← Int.mul_emod]

theorem toF_zero : toF 0 = 0 := by decide
theorem toF_one : toF 1 = 1 := by decide

theorem toF_mod (x : Int) : toF (x % 2147483647) = toF x := toF_eq.2 (by omega)

theorem toF_neg (x : Int) : toF (-x) = - toF x := by
  have h : toF (-x) + toF x = 0 := by rw [← toF_add, show -x + x = 0 by omega]; rfl
  grind

theorem toF_sub (x y : Int) : toF (x - y) = toF x - toF y := by
  rw [Int.sub_eq_add_neg, toF_add, toF_neg]; grind

theorem toF_P : toF 2147483647 = 0 := by decide

theorem toF_inj {x y : Int} (hx : 0 ≤ x) (hx' : x < 2147483647) (hy : 0 ≤ y) (hy' : y < 2147483647) (h : toF x = toF y) : x = y := by
  have := toF_eq.1 h; omega

theorem toF_back (a : F) : toF (a.val : Int) = a := F_ext (by rw [toF_val]; have h : a.val < 2147483647 := a.isLt; omega)

theorem toF_ne_zero {x : Int} (h0 : 0 < x) (h1 : x < 2147483647) : toF x ≠ 0 := by
  intro h; rw [← toF_zero] at h; have := toF_eq.1 h; omega

/-- No zero divisors. -/
theorem F_mul_eq_zero {a b : F} (h : a * b = 0) : a = 0 ∨ b = 0 := by
  by_cases ha : a = 0
  · exact Or.inl ha
  · right
    have hv : (a * b).val = 0 := by rw [h]; rfl
    rw [Fin.val_mul] at hv
    have hd : Pn ∣ a.val * b.val := Nat.dvd_of_mod_eq_zero hv
    have ha0 : 1 ≤ a.val := by
      refine Nat.pos_of_ne_zero fun hc => ha (Fin.ext hc)
    have hc : Nat.Coprime Pn a.val := pn_coprime _ ha0 a.isLt
    have hb := hc.dvd_of_dvd_mul_left hd
    have := Nat.eq_zero_of_dvd_of_lt hb b.isLt
    exact Fin.ext this

/-- A polynomial's value; the constant first. -/
def ev : List F → F → F
  | [], _ => 0
  | c :: cs, x => c + x * ev cs x

/-- The quotient by (x - a). -/
def qt (a : F) : List F → List F
  | [] => []
  | [_] => []
  | _ :: c :: cs => ev (c :: cs) a :: qt a (c :: cs)

theorem qt_length (a : F) : ∀ cs : List F, (qt a cs).length = cs.length - 1
  | [] => rfl
  | [_] => rfl
  | _ :: c :: cs => by rw [qt, List.length_cons, qt_length a (c :: cs)]; simp

theorem qt_ev (a x : F) : ∀ cs : List F, ev cs x = ev cs a + (x - a) * ev (qt a cs) x
  | [] => by simp only [ev, qt]; grind
  | [c] => by simp only [ev, qt]; grind
  | c :: d :: cs => by
    have ih := qt_ev a x (d :: cs)
    rw [qt, ev, ih]
    simp only [ev] at ih ⊢
    grind

theorem qt_zero (a : F) : ∀ cs : List F, ev cs a = 0 → (∀ c ∈ qt a cs, c = 0) → ∀ c ∈ cs, c = 0
  | [], _, _ => by simp
  | [c], h, _ => by simp only [ev] at h; intro d hd; simp at hd; grind
  | c :: d :: cs, h, hq => by
    rw [qt] at hq
    have h1 : ev (d :: cs) a = 0 := hq _ (by simp)
    have ih := qt_zero a (d :: cs) h1 (fun e he => hq e (by simp [he]))
    intro e he
    rcases List.mem_cons.1 he with rfl | he
    · rw [ev, h1] at h; grind
    · exact ih e he

/-- A polynomial with as many roots as coefficients has no coefficient but 0. -/
theorem roots_zero : ∀ (rs cs : List F), rs.Nodup → cs.length ≤ rs.length → (∀ r ∈ rs, ev cs r = 0) → ∀ c ∈ cs, c = 0
  | [], cs, _, hl, _ => by
    have : cs = [] := List.length_eq_zero_iff.1 (by simpa using hl)
    subst this; simp
  | r :: rs, cs, hn, hl, hz => by
    have hr : ev cs r = 0 := hz r (by simp)
    refine qt_zero r cs hr (roots_zero rs (qt r cs) (List.nodup_cons.1 hn).2 (by rw [qt_length]; simp at hl; omega) ?_)
    intro s hs
    have h1 := hz s (by simp [hs])
    rw [qt_ev r s cs, hr] at h1
    have h2 : (s - r) * ev (qt r cs) s = 0 := by grind
    rcases F_mul_eq_zero h2 with h3 | h3
    · exact absurd (show s = r by grind) (fun e => (List.nodup_cons.1 hn).1 (e ▸ hs))
    · exact h3

theorem ev_zero (x : F) : ∀ cs : List F, (∀ c ∈ cs, c = 0) → ev cs x = 0
  | [], _ => rfl
  | c :: cs, h => by
    rw [ev, ev_zero x cs (fun d hd => h d (by simp [hd])), h c (by simp)]; grind

/-- The sum of two polynomials. -/
def padd : List F → List F → List F
  | [], l => l
  | l, [] => l
  | a :: as, b :: bs => (a + b) :: padd as bs

theorem padd_nil (l : List F) : padd l [] = l := by cases l <;> rfl

theorem ev_padd (x : F) : ∀ a b : List F, ev (padd a b) x = ev a x + ev b x
  | [], l => by simp only [padd, ev]; grind
  | a :: as, [] => by simp only [padd, ev]; grind
  | a :: as, b :: bs => by simp only [padd, ev, ev_padd x as bs]; grind

theorem padd_length : ∀ a b : List F, (padd a b).length = max a.length b.length
  | [], l => by simp [padd]
  | a :: as, [] => by simp [padd]
  | a :: as, b :: bs => by simp only [padd, List.length_cons, padd_length as bs]; omega

def pscale (k : F) (l : List F) : List F := l.map (k * ·)

theorem ev_pscale (k x : F) : ∀ a : List F, ev (pscale k a) x = k * ev a x
  | [] => by simp only [pscale, List.map, ev]; grind
  | a :: as => by
    have := ev_pscale k x as
    simp only [pscale, List.map, ev] at this ⊢
    rw [this]; grind

/-- f is the value of a polynomial of at most n coefficients. -/
def PF (n : Nat) (f : F → F) : Prop := ∃ cs : List F, cs.length ≤ n ∧ ∀ x, f x = ev cs x

theorem PF.add {n : Nat} {f g : F → F} (hf : PF n f) (hg : PF n g) : PF n (fun x => f x + g x) := by
  obtain ⟨a, ha, ea⟩ := hf
  obtain ⟨b, hb, eb⟩ := hg
  exact ⟨padd a b, by rw [padd_length]; omega, fun x => by simp only [ev_padd, ea, eb]⟩

theorem PF.scale {n : Nat} {f : F → F} (k : F) (hf : PF n f) : PF n (fun x => k * f x) := by
  obtain ⟨a, ha, ea⟩ := hf
  exact ⟨pscale k a, by simpa [pscale] using ha, fun x => by simp only [ev_pscale, ea]⟩

theorem PF.mulx {n : Nat} {f : F → F} (a : F) (hf : PF n f) : PF (n + 1) (fun x => (x - a) * f x) := by
  obtain ⟨c, hc, ec⟩ := hf
  refine ⟨padd (0 :: c) (pscale (-a) c), ?_, fun x => ?_⟩
  · rw [padd_length]; simp [pscale]; omega
  · simp only [ev_padd, ev_pscale, ec, ev]; grind

theorem PF.mono {n m : Nat} {f : F → F} (h : n ≤ m) (hf : PF n f) : PF m f := by
  obtain ⟨a, ha, ea⟩ := hf
  exact ⟨a, by omega, ea⟩

theorem PF.const (k : F) : PF 1 (fun _ => k) := ⟨[k], by simp, fun x => by simp only [ev]; grind⟩

theorem PF.congr {n : Nat} {f g : F → F} (h : ∀ x, f x = g x) (hf : PF n f) : PF n g := by
  obtain ⟨a, ha, ea⟩ := hf
  exact ⟨a, ha, fun x => by rw [← h, ea]⟩

theorem PF.ev (cs : List F) : PF cs.length (ObsMath.ev cs) := ⟨cs, Nat.le_refl _, fun _ => rfl⟩

theorem PF.sub {n : Nat} {f g : F → F} (hf : PF n f) (hg : PF n g) : PF n (fun x => f x - g x) :=
  (hf.add (hg.scale (-1))).congr (fun x => by grind)

/-- Two polynomials of at most n coefficients that agree at n places are the same. -/
theorem PF.unique {n : Nat} {f g : F → F} (hf : PF n f) (hg : PF n g) (rs : List F) (hn : rs.Nodup) (hl : n ≤ rs.length)
    (h : ∀ r ∈ rs, f r = g r) (x : F) : f x = g x := by
  obtain ⟨a, ha, ea⟩ := hf.sub hg
  have := ev_zero x a (roots_zero rs a hn (by omega) (fun r hr => by rw [← ea]; have := h r hr; grind))
  rw [← ea] at this
  grind

end ObsMath
