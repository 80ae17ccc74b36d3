import Derived.Test.YtddikdpbhjgihaaGreatDoorSM06
import Derived.Test.YtddikdpbhjgihaaGreatDoorSM07
import Derived.Maps.Own
import Derived.Maps.OwnOps
import Derived.WalkKit
import Derived.Deep.Draws
section
namespace ObsMath
def noDiv (n : Nat) : Nat → Nat → Bool
  | 0, lo => !(n % lo == 0)
  | d + 1, lo => noDiv n d lo && noDiv n d (lo + 2 ^ d)
theorem noDiv_spec (n : Nat) : ∀ (d lo : Nat), noDiv n d lo = true → ∀ k, lo ≤ k → k < lo + 2 ^ d → ¬ k ∣ n := by
  intro d
  induction d with
  | zero =>
    intro lo h k h1 h2 hd
    have e : k = lo := by simp at h2; omega
    subst e
    have := Nat.mod_eq_zero_of_dvd hd
    simp [noDiv, this] at h
  | succ d ih =>
    intro lo h k h1 h2
    simp only [noDiv, Bool.and_eq_true] at h
    have e : 2 ^ (d + 1) = 2 ^ d + 2 ^ d := by rw [Nat.pow_succ]; omega
    by_cases hk : k < lo + 2 ^ d
    · exact ih lo h.1 k h1 hk
    · exact ih (lo + 2 ^ d) h.2 k (by omega) (by omega)
abbrev Pn : Nat := 2147483647
theorem pn_small : noDiv Pn 16 2 = true := by decide +kernel
theorem pn_prime (k : Nat) (h1 : 2 ≤ k) (h2 : k < Pn) : ¬ k ∣ Pn := by
  intro hd
  obtain ⟨m, hm⟩ := hd
  have s := noDiv_spec Pn 16 2 pn_small
  by_cases hk : k < 2 + 2 ^ 16
  · exact s k h1 hk ⟨m, hm⟩
  · have hm1 : m < 2 + 2 ^ 16 := by
      refine Nat.lt_of_not_le fun hc => ?_
      have : (2 + 2 ^ 16) * (2 + 2 ^ 16) ≤ k * m := Nat.mul_le_mul (by omega) hc
      rw [← hm] at this
      simp [Pn] at this
    have hm2 : 2 ≤ m := by
      refine Nat.le_of_not_lt fun hc => ?_
      have hm0 : m = 0 ∨ m = 1 := by omega
      rcases hm0 with rfl | rfl
      · simp [Pn] at hm
      · rw [Nat.mul_one] at hm; omega
    exact s m hm2 hm1 ⟨k, by rw [hm]; exact Nat.mul_comm _ _⟩
theorem pn_coprime (k : Nat) (h1 : 1 ≤ k) (h2 : k < Pn) : Nat.gcd Pn k = 1 := by
  have hd1 := Nat.gcd_dvd_left Pn k
  have hd2 := Nat.gcd_dvd_right Pn k
  have hle := Nat.le_of_dvd (by omega) hd2
  have hpos := Nat.gcd_pos_of_pos_left k (show 0 < Pn by decide)
  by_cases h : 2 ≤ Nat.gcd Pn k
  · exact absurd hd1 (pn_prime _ h (by omega))
  · omega
abbrev F := Fin Pn
instance : NeZero Pn := ⟨by decide⟩
def toF (x : Int) : F := ⟨(x % 2147483647).toNat, by show _ < 2147483647; omega⟩
theorem toF_val (x : Int) : ((toF x).val : Int) = x % 2147483647 := by simp only [toF]; omega
theorem toF_eq {x y : Int} : toF x = toF y ↔ x % 2147483647 = y % 2147483647 := by
  constructor
  · intro h
    rw [← toF_val, ← toF_val, h]
  · intro h
    simp only [toF, h]
theorem F_ext {a b : F} (h : (a.val : Int) = b.val) : a = b := Fin.ext (by omega)
theorem toF_add (x y : Int) : toF (x + y) = toF x + toF y := by
  apply F_ext
  rw [toF_val, Fin.val_add]
  have hx := toF_val x
  have hy := toF_val y
  show _ = ((((toF x).val + (toF y).val) % 2147483647 : Nat) : Int)
  omega
theorem toF_mul (x y : Int) : toF (x * y) = toF x * toF y := by
  apply F_ext
  rw [toF_val, Fin.val_mul]
  have hx := toF_val x
  have hy := toF_val y
  show _ = ((((toF x).val * (toF y).val) % 2147483647 : Nat) : Int)
  rw [Int.natCast_emod, Int.natCast_mul, hx, hy]
  show _ = _ % 2147483647
  rw [← Int.mul_emod]
theorem toF_zero : toF 0 = 0 := by decide
theorem toF_one : toF 1 = 1 := by decide
theorem toF_mod (x : Int) : toF (x % 2147483647) = toF x := toF_eq.2 (by omega)
theorem toF_neg (x : Int) : toF (-x) = - toF x := by
  have h : toF (-x) + toF x = 0 := by rw [← toF_add, show -x + x = 0 by omega]; rfl
  grind
theorem toF_sub (x y : Int) : toF (x - y) = toF x - toF y := by
  rw [Int.sub_eq_add_neg, toF_add, toF_neg]; grind
theorem toF_P : toF 2147483647 = 0 := by decide
theorem toF_inj {x y : Int} (hx : 0 ≤ x) (hx' : x < 2147483647) (hy : 0 ≤ y) (hy' : y < 2147483647) (h : toF x = toF y) : x = y := by
  have := toF_eq.1 h; omega
theorem toF_back (a : F) : toF (a.val : Int) = a := F_ext (by rw [toF_val]; have h : a.val < 2147483647 := a.isLt; omega)
theorem toF_ne_zero {x : Int} (h0 : 0 < x) (h1 : x < 2147483647) : toF x ≠ 0 := by
  intro h; rw [← toF_zero] at h; have := toF_eq.1 h; omega
theorem F_mul_eq_zero {a b : F} (h : a * b = 0) : a = 0 ∨ b = 0 := by
  by_cases ha : a = 0
  · exact Or.inl ha
  · right
    have hv : (a * b).val = 0 := by rw [h]; rfl
    rw [Fin.val_mul] at hv
    have hd : Pn ∣ a.val * b.val := Nat.dvd_of_mod_eq_zero hv
    have ha0 : 1 ≤ a.val := by
      refine Nat.pos_of_ne_zero fun hc => ha (Fin.ext hc)
    have hc : Nat.Coprime Pn a.val := pn_coprime _ ha0 a.isLt
    have hb := hc.dvd_of_dvd_mul_left hd
    have := Nat.eq_zero_of_dvd_of_lt hb b.isLt
    exact Fin.ext this
def ev : List F → F → F
  | [], _ => 0
  | c :: cs, x => c + x * ev cs x
def qt (a : F) : List F → List F
  | [] => []
  | [_] => []
  | _ :: c :: cs => ev (c :: cs) a :: qt a (c :: cs)
theorem qt_length (a : F) : ∀ cs : List F, (qt a cs).length = cs.length - 1
  | [] => rfl
  | [_] => rfl
  | _ :: c :: cs => by rw [qt, List.length_cons, qt_length a (c :: cs)]; simp
theorem qt_ev (a x : F) : ∀ cs : List F, ev cs x = ev cs a + (x - a) * ev (qt a cs) x
  | [] => by simp only [ev, qt]; grind
  | [c] => by simp only [ev, qt]; grind
  | c :: d :: cs => by
    have ih := qt_ev a x (d :: cs)
    rw [qt, ev, ih]
    simp only [ev] at ih ⊢
    grind
theorem qt_zero (a : F) : ∀ cs : List F, ev cs a = 0 → (∀ c ∈ qt a cs, c = 0) → ∀ c ∈ cs, c = 0
  | [], _, _ => by simp
  | [c], h, _ => by simp only [ev] at h; intro d hd; simp at hd; grind
  | c :: d :: cs, h, hq => by
    rw [qt] at hq
    have h1 : ev (d :: cs) a = 0 := hq _ (by simp)
    have ih := qt_zero a (d :: cs) h1 (fun e he => hq e (by simp [he]))
    intro e he
    rcases List.mem_cons.1 he with rfl | he
    · rw [ev, h1] at h; grind
    · exact ih e he
theorem roots_zero : ∀ (rs cs : List F), rs.Nodup → cs.length ≤ rs.length → (∀ r ∈ rs, ev cs r = 0) → ∀ c ∈ cs, c = 0
  | [], cs, _, hl, _ => by
    have : cs = [] := List.length_eq_zero_iff.1 (by simpa using hl)
    subst this; simp
  | r :: rs, cs, hn, hl, hz => by
    have hr : ev cs r = 0 := hz r (by simp)
    refine qt_zero r cs hr (roots_zero rs (qt r cs) (List.nodup_cons.1 hn).2 (by rw [qt_length]; simp at hl; omega) ?_)
    intro s hs
    have h1 := hz s (by simp [hs])
    rw [qt_ev r s cs, hr] at h1
    have h2 : (s - r) * ev (qt r cs) s = 0 := by grind
    rcases F_mul_eq_zero h2 with h3 | h3
    · exact absurd (show s = r by grind) (fun e => (List.nodup_cons.1 hn).1 (e ▸ hs))
    · exact h3
theorem ev_zero (x : F) : ∀ cs : List F, (∀ c ∈ cs, c = 0) → ev cs x = 0
  | [], _ => rfl
  | c :: cs, h => by
    rw [ev, ev_zero x cs (fun d hd => h d (by simp [hd])), h c (by simp)]; grind
def padd : List F → List F → List F
  | [], l => l
  | l, [] => l
  | a :: us, b :: bs => (a + b) :: padd us bs
theorem ev_padd (x : F) : ∀ a b : List F, ev (padd a b) x = ev a x + ev b x
  | [], l => by simp only [padd, ev]; grind
  | a :: us, [] => by simp only [padd, ev]; grind
  | a :: us, b :: bs => by simp only [padd, ev, ev_padd x us bs]; grind
theorem padd_length : ∀ a b : List F, (padd a b).length = max a.length b.length
  | [], l => by simp [padd]
  | a :: us, [] => by simp [padd]
  | a :: us, b :: bs => by simp only [padd, List.length_cons, padd_length us bs]; omega
def pscale (k : F) (l : List F) : List F := l.map (k * ·)
theorem ev_pscale (k x : F) : ∀ a : List F, ev (pscale k a) x = k * ev a x
  | [] => by simp only [pscale, List.map, ev]; grind
  | a :: us => by
    have := ev_pscale k x us
    simp only [pscale, List.map, ev] at this ⊢
    rw [this]; grind
def PF (n : Nat) (f : F → F) : Prop := ∃ cs : List F, cs.length ≤ n ∧ ∀ x, f x = ev cs x
theorem PF.add {n : Nat} {f g : F → F} (hf : PF n f) (hg : PF n g) : PF n (fun x => f x + g x) := by
  obtain ⟨a, ha, ea⟩ := hf
  obtain ⟨b, hb, eb⟩ := hg
  exact ⟨padd a b, by rw [padd_length]; omega, fun x => by simp only [ev_padd, ea, eb]⟩
theorem PF.scale {n : Nat} {f : F → F} (k : F) (hf : PF n f) : PF n (fun x => k * f x) := by
  obtain ⟨a, ha, ea⟩ := hf
  exact ⟨pscale k a, by simpa [pscale] using ha, fun x => by simp only [ev_pscale, ea]⟩
theorem PF.mulx {n : Nat} {f : F → F} (a : F) (hf : PF n f) : PF (n + 1) (fun x => (x - a) * f x) := by
  obtain ⟨c, hc, ec⟩ := hf
  refine ⟨padd (0 :: c) (pscale (-a) c), ?_, fun x => ?_⟩
  · rw [padd_length]; simp [pscale]; omega
  · simp only [ev_padd, ev_pscale, ec, ev]; grind
theorem PF.mono {n m : Nat} {f : F → F} (h : n ≤ m) (hf : PF n f) : PF m f := by
  obtain ⟨a, ha, ea⟩ := hf
  exact ⟨a, by omega, ea⟩
theorem PF.const (k : F) : PF 1 (fun _ => k) := ⟨[k], by simp, fun x => by simp only [ev]; grind⟩
theorem PF.congr {n : Nat} {f g : F → F} (h : ∀ x, f x = g x) (hf : PF n f) : PF n g := by
  obtain ⟨a, ha, ea⟩ := hf
  exact ⟨a, ha, fun x => by rw [← h, ea]⟩
theorem PF.ev (cs : List F) : PF cs.length (ObsMath.ev cs) := ⟨cs, Nat.le_refl _, fun _ => rfl⟩
theorem PF.sub {n : Nat} {f g : F → F} (hf : PF n f) (hg : PF n g) : PF n (fun x => f x - g x) :=
  (hf.add (hg.scale (-1))).congr (fun x => by grind)
theorem PF.unique {n : Nat} {f g : F → F} (hf : PF n f) (hg : PF n g) (rs : List F) (hn : rs.Nodup) (hl : n ≤ rs.length)
    (h : ∀ r ∈ rs, f r = g r) (x : F) : f x = g x := by
  obtain ⟨a, ha, ea⟩ := hf.sub hg
  have := ev_zero x a (roots_zero rs a hn (by omega) (fun r hr => by rw [← ea]; have := h r hr; grind))
  rw [← ea] at this
  grind
end ObsMath
end
section
namespace ObsMath
def eu : Nat → Int → Int → Int → Int → Int
  | 0, _, s, _, _ => s
  | k + 1, r, s, u, v => if 0 < u then eu k u v (r - r / u * u) (s - r / u * v) else s
theorem eu_more : ∀ (k m : Nat) (r s u v : Int), 0 ≤ u → u.toNat < k → u.toNat < m → eu k r s u v = eu m r s u v
  | 0, _, _, _, _, _, _, h, _ => absurd h (by omega)
  | _ + 1, 0, _, _, _, _, _, _, h => absurd h (by omega)
  | k + 1, m + 1, r, s, u, v, h0, h1, h2 => by
    simp only [eu]
    by_cases hu : 0 < u
    · rw [if_pos hu, if_pos hu]
      have e : r - r / u * u = r % u := by have := Int.emod_def r u; rw [Int.mul_comm] at this; omega
      have b1 := Int.emod_nonneg r (by omega : u ≠ 0)
      have b2 := Int.emod_lt_of_pos r hu
      exact eu_more k m _ _ _ _ (by omega) (by omega) (by omega)
    · rw [if_neg hu, if_neg hu]
def eus (r s u v : Int) : Int := eu (u.toNat + 1) r s u v
theorem eus_step (r s u v : Int) (h : 0 < u) : eus r s u v = eus u v (r - r / u * u) (s - r / u * v) := by
  have e : r - r / u * u = r % u := by have := Int.emod_def r u; rw [Int.mul_comm] at this; omega
  have b1 := Int.emod_nonneg r (by omega : u ≠ 0)
  have b2 := Int.emod_lt_of_pos r h
  show eu (u.toNat + 1) r s u v = _
  simp only [eu]
  rw [if_pos h]
  exact eu_more _ _ _ _ _ _ (by omega) (by omega) (by omega)
theorem eus_end (r s u v : Int) (h : ¬ 0 < u) : eus r s u v = s := by
  show eu (u.toNat + 1) r s u v = _
  simp only [eu]
  rw [if_neg h]
structure EuI (r s u v : Int) : Prop where
  r0 : 0 < r
  u0 : 0 ≤ u
  rP : r ≤ 2147483647
  uP : u < 2147483647
  s1 : -2147483647 ≤ s
  s2 : s ≤ 2147483647
  v1 : -2147483647 ≤ v
  v2 : v ≤ 2147483647
  sv : (s ≤ 0 ∧ 0 ≤ v ∧ v * r - s * u = 2147483647) ∨ (v ≤ 0 ∧ 0 ≤ s ∧ s * u - v * r = 2147483647)
theorem EuI.start (a : Int) (h0 : 0 ≤ a) (h1 : a < 2147483647) : EuI 2147483647 0 a 1 :=
  ⟨by omega, h0, by omega, h1, by omega, by omega, by omega, by omega, Or.inl ⟨by omega, by omega, by omega⟩⟩
theorem mul_le_of_one {x y : Int} (hx : 0 ≤ x) (hy : 1 ≤ y) : x ≤ x * y := by
  have := Int.mul_le_mul_of_nonneg_left hy hx; rw [Int.mul_one] at this; exact this
theorem EuI.step {r s u v : Int} (h : EuI r s u v) (hu : 0 < u) : EuI u v (r - r / u * u) (s - r / u * v)
    ∧ 0 ≤ r / u ∧ r / u ≤ r ∧ 0 ≤ r / u * u ∧ r / u * u ≤ r ∧ -2147483647 ≤ r / u * v ∧ r / u * v ≤ 2147483647 ∧ r - r / u * u < u := by
  obtain ⟨r0, u0, rP, uP, s1, s2, v1, v2, sv⟩ := h
  have e : r - r / u * u = r % u := by have := Int.emod_def r u; rw [Int.mul_comm] at this; omega
  have b1 := Int.emod_nonneg r (by omega : u ≠ 0)
  have b2 := Int.emod_lt_of_pos r hu
  have q0 : 0 ≤ r / u := Int.ediv_nonneg (by omega) (by omega)
  have q1 : r / u ≤ r / u * u := mul_le_of_one q0 hu
  generalize hq : r / u = q at *
  rcases sv with ⟨a1, a2, a3⟩ | ⟨a1, a2, a3⟩
  · have c1 : 0 ≤ q * v := Int.mul_nonneg q0 a2
    have c2 : v * u - (s - q * v) * u = v * u - s * u + q * v * u := by grind
    have c3 : v * (r - q * u) - (s - q * v) * u = v * r - s * u := by grind
    have c4 : 0 ≤ v * (r - q * u) := Int.mul_nonneg a2 (by omega)
    have c5 : (q * v - s) ≤ (q * v - s) * u := mul_le_of_one (by omega) hu
    have c6 : (q * v - s) * u = - ((s - q * v) * u) := by grind
    refine ⟨⟨hu, by omega, by omega, by omega, by omega, by omega, by omega, by omega, Or.inr ⟨by omega, by omega, by omega⟩⟩, q0, by omega, by omega, by omega, by omega, by omega, by omega⟩
  · have c1 : 0 ≤ q * (-v) := Int.mul_nonneg q0 (by omega)
    have c1' : q * (-v) = - (q * v) := by grind
    have c3 : (s - q * v) * u - v * (r - q * u) = s * u - v * r := by grind
    have c4 : 0 ≤ (-v) * (r - q * u) := Int.mul_nonneg (by omega) (by omega)
    have c4' : (-v) * (r - q * u) = - (v * (r - q * u)) := by grind
    have c5 : (s - q * v) ≤ (s - q * v) * u := mul_le_of_one (by omega) hu
    refine ⟨⟨hu, by omega, by omega, by omega, by omega, by omega, by omega, by omega, Or.inl ⟨by omega, by omega, by omega⟩⟩, q0, by omega, by omega, by omega, by omega, by omega, by omega⟩
theorem dvd_pn {m r : Int} (h0 : 0 < r) (h1 : r < 2147483647) (h : m * r = 2147483647) : r = 1 := by
  have hd : r.toNat ∣ Pn := by
    refine ⟨m.toNat, ?_⟩
    have hm : 0 ≤ m := by
      by_cases hc : m < 0
      · have := Int.mul_neg_of_neg_of_pos hc h0
        omega
      · omega
    have e : ((r.toNat * m.toNat : Nat) : Int) = 2147483647 := by
      rw [Int.natCast_mul, Int.toNat_of_nonneg hm, Int.toNat_of_nonneg (by omega), Int.mul_comm]; exact h
    show 2147483647 = _
    omega
  refine Classical.byContradiction fun hc => ?_
  exact pn_prime r.toNat (by omega) (by show _ < 2147483647; omega) hd
theorem eu_inv (a : Int) : ∀ (k : Nat) (r s u v : Int), u.toNat < k → EuI r s u v → toF s * toF a = toF r → toF v * toF a = toF u →
    (0 < u ∨ r < 2147483647) → toF (eu k r s u v) * toF a = 1
  | 0, _, _, _, _, h, _, _, _, _ => absurd h (by omega)
  | k + 1, r, s, u, v, hk, hi, h1, h2, h4 => by
    simp only [eu]
    by_cases hu : 0 < u
    · rw [if_pos hu]
      have hs := hi.step hu
      have hr : r - r / u * u < u := hs.2.2.2.2.2.2.2
      refine eu_inv a k u v _ _ (by omega) hs.1 h2 ?_ (Or.inr hi.uP)
      rw [toF_sub, toF_sub, toF_mul, toF_mul, ← h1, ← h2]; grind
    · rw [if_neg hu]
      have hu0 : u = 0 := by have := hi.u0; omega
      subst hu0
      have hr : r < 2147483647 := by omega
      have h0 := hi.r0
      have hr1 : r = 1 := by
        rcases hi.sv with ⟨_, _, h⟩ | ⟨_, _, h⟩
        · exact dvd_pn (m := v) h0 hr (by rw [Int.mul_zero] at h; omega)
        · exact dvd_pn (m := -v) h0 hr (by rw [Int.mul_zero] at h; rw [Int.neg_mul]; omega)
      rw [h1, hr1, toF_one]
def inv (a : Int) : Int := (eus 2147483647 0 a 1 % 2147483647 + 2147483647) % 2147483647
theorem inv_range (a : Int) : 0 ≤ inv a ∧ inv a < 2147483647 := by unfold inv; omega
theorem inv_mul {a : Int} (h0 : 0 < a) (h1 : a < 2147483647) : toF (inv a) * toF a = 1 := by
  have e : toF (inv a) = toF (eus 2147483647 0 a 1) := by
    refine toF_eq.2 ?_
    unfold inv; omega
  rw [e]
  exact eu_inv a _ _ _ _ _ (Nat.lt_succ_self _) (EuI.start a (by omega) h1) (by rw [toF_zero, toF_P]; grind) (by rw [toF_one]; grind) (Or.inl h0)
theorem F_inv_unique {a b c : F} (h1 : b * a = 1) (h2 : c * a = 1) : b = c := by grind
theorem F_has_inv {a : F} (h : a ≠ 0) : ∃ b : F, b * a = 1 := by
  have hlt : a.val < 2147483647 := a.isLt
  have h0 : 0 < a.val := Nat.pos_of_ne_zero fun hc => h (Fin.ext hc)
  exact ⟨toF (inv (a.val : Int)), by have := inv_mul (a := (a.val : Int)) (by omega) (by omega); rwa [toF_back] at this⟩
def pw (a : F) : Nat → F
  | 0 => 1
  | n + 1 => a * pw a n
theorem pw_sq (a : F) : ∀ n, pw (a * a) n = pw a (2 * n)
  | 0 => rfl
  | n + 1 => by
    rw [show 2 * (n + 1) = 2 * n + 1 + 1 by omega, pw, pw, pw, pw_sq a n]; grind
def prod : List F → F
  | [] => 1
  | a :: l => a * prod l
theorem prod_perm {l m : List F} (h : l.Perm m) : prod l = prod m := by
  induction h with
  | nil => rfl
  | cons x _ ih => simp only [prod, ih]
  | swap x y l => simp only [prod]; grind
  | trans _ _ h1 h2 => rw [h1, h2]
theorem prod_map (a : F) : ∀ l : List F, prod (l.map (a * ·)) = pw a l.length * prod l
  | [] => by simp only [List.map, prod, List.length_nil, pw]; grind
  | b :: l => by simp only [List.map, prod, List.length_cons, pw, prod_map a l]; grind
theorem prod_ne_zero : ∀ l : List F, (∀ b ∈ l, b ≠ 0) → prod l ≠ 0
  | [], _ => by show (1 : F) ≠ 0; decide
  | b :: l, h => by
    intro hc
    rcases F_mul_eq_zero hc with h1 | h1
    · exact h b (by simp) h1
    · exact prod_ne_zero l (fun c hc => h c (by simp [hc])) h1
theorem perm_of_mem {l m : List F} (hl : l.Nodup) (hm : m.Nodup) (h : ∀ a, a ∈ l ↔ a ∈ m) : l.Perm m := by
  rw [List.perm_iff_count]
  intro a
  have h1 := List.nodup_iff_count.1 hl a
  have h2 := List.nodup_iff_count.1 hm a
  have h3 : 0 < l.count a ↔ 0 < m.count a := by rw [List.count_pos_iff, List.count_pos_iff]; exact h a
  omega
def els (n : Nat) : List F := (List.range n).map (fun (i : Nat) => toF ((i : Int) + 1))
theorem els_mem (n : Nat) (hn : n = 2147483646) (b : F) : b ∈ els n ↔ b ≠ 0 := by
  unfold els
  rw [List.mem_map]
  constructor
  · rintro ⟨i, hi, rfl⟩
    have := List.mem_range.1 hi
    exact toF_ne_zero (by omega) (by omega)
  · intro hb
    have hlt : b.val < 2147483647 := b.isLt
    have h0 : 0 < b.val := Nat.pos_of_ne_zero fun hc => hb (Fin.ext hc)
    refine ⟨b.val - 1, List.mem_range.2 (by omega), ?_⟩
    rw [show ((b.val - 1 : Nat) : Int) + 1 = (b.val : Int) by omega, toF_back]
theorem els_nodup (n : Nat) (hn : n = 2147483646) : (els n).Nodup := by
  unfold els List.Nodup
  rw [List.pairwise_map]
  refine List.Pairwise.imp_of_mem ?_ (List.nodup_range (n := n))
  intro a b ha hb hab hc
  have h1 := List.mem_range.1 ha
  have h2 := List.mem_range.1 hb
  have := toF_inj (by omega) (by omega) (by omega) (by omega) hc
  omega
theorem fermat_of (n : Nat) (hn : n = 2147483646) {a : F} (ha : a ≠ 0) : pw a n = 1 := by
  obtain ⟨b, hb⟩ := F_has_inv ha
  have hm := els_mem n hn
  have hp : ((els n).map (a * ·)).Perm (els n) := by
    refine perm_of_mem ?_ (els_nodup n hn) ?_
    · unfold List.Nodup
      rw [List.pairwise_map]
      refine List.Pairwise.imp ?_ (els_nodup n hn)
      intro x y hxy hc
      exact hxy (by grind)
    · intro c
      rw [List.mem_map, hm]
      constructor
      · rintro ⟨d, hd, rfl⟩ hc
        rcases F_mul_eq_zero hc with h | h
        · exact ha h
        · exact (hm d).1 hd h
      · intro hc
        refine ⟨b * c, (hm _).2 fun h => ?_, by grind⟩
        rcases F_mul_eq_zero h with h | h
        · subst h
          have : (0 : F) = 1 := by grind
          exact absurd this (by decide)
        · exact hc h
  have h1 := prod_perm hp
  rw [prod_map] at h1
  have hl : (els n).length = n := by unfold els; rw [List.length_map, List.length_range]
  rw [hl] at h1
  have h2 := prod_ne_zero (els n) (fun c hc => (hm c).1 hc)
  have h3 : (pw a n - 1) * prod (els n) = 0 := by grind
  rcases F_mul_eq_zero h3 with h | h
  · grind
  · exact absurd h h2
theorem fermat_inv (n : Nat) (hn : n = 2147483645) {a : F} (ha : a ≠ 0) : pw a n * a = 1 := by
  have h := fermat_of (n + 1) (by omega) ha
  rw [pw] at h; grind
def pl : Nat → Int → Int → Int → Int
  | 0, out, _, _ => out
  | k + 1, out, a, n => if 0 < n then pl k (if n % 2 = 1 then out * a % 2147483647 else out) (a * a % 2147483647) (n / 2) else out
theorem pl_more : ∀ (k m : Nat) (out a n : Int), n.toNat < k → n.toNat < m → pl k out a n = pl m out a n
  | 0, _, _, _, _, h, _ => absurd h (by omega)
  | _ + 1, 0, _, _, _, _, h => absurd h (by omega)
  | k + 1, m + 1, out, a, n, h1, h2 => by
    simp only [pl]
    by_cases hn : 0 < n
    · rw [if_pos hn, if_pos hn]
      exact pl_more k m _ _ _ (by omega) (by omega)
    · rw [if_neg hn, if_neg hn]
def pls (out a n : Int) : Int := pl (n.toNat + 1) out a n
theorem pls_step (out a n : Int) (h : 0 < n) : pls out a n = pls (if n % 2 = 1 then out * a % 2147483647 else out) (a * a % 2147483647) (n / 2) := by
  show pl (n.toNat + 1) out a n = _
  simp only [pl]
  rw [if_pos h]
  exact pl_more _ _ _ _ _ (by omega) (by omega)
theorem pls_end (out a n : Int) (h : ¬ 0 < n) : pls out a n = out := by
  show pl (n.toNat + 1) out a n = _
  simp only [pl]
  rw [if_neg h]
theorem pl_F : ∀ (k : Nat) (out a n : Int), n.toNat < k → toF (pl k out a n) = toF out * pw (toF a) n.toNat
  | 0, _, _, _, h => absurd h (by omega)
  | k + 1, out, a, n, h => by
    simp only [pl]
    by_cases hn : 0 < n
    · rw [if_pos hn, pl_F k _ _ _ (by omega), toF_mod, toF_mul, pw_sq]
      by_cases ho : n % 2 = 1
      · rw [if_pos ho, toF_mod, toF_mul, show n.toNat = 2 * (n / 2).toNat + 1 by omega, pw]; grind
      · rw [if_neg ho, show n.toNat = 2 * (n / 2).toNat by omega]
    · rw [if_neg hn, show n.toNat = 0 by omega, pw]; grind
theorem pl_range : ∀ (k : Nat) (out a n : Int), 0 ≤ out → out < 2147483647 → 0 ≤ pl k out a n ∧ pl k out a n < 2147483647
  | 0, out, a, n, h0, h1 => ⟨h0, h1⟩
  | k + 1, out, a, n, h0, h1 => by
    simp only [pl]
    by_cases hn : 0 < n
    · rw [if_pos hn]
      by_cases ho : n % 2 = 1
      · rw [if_pos ho]; exact pl_range k _ _ _ (by omega) (by omega)
      · rw [if_neg ho]; exact pl_range k _ _ _ h0 h1
    · rw [if_neg hn]; exact ⟨h0, h1⟩
theorem pls_inv {a : Int} (h0 : 0 < a) (h1 : a < 2147483647) : pls 1 a 2147483645 = inv a := by
  have ha : toF a ≠ 0 := toF_ne_zero h0 h1
  have r1 := pl_range ((2147483645 : Int).toNat + 1) 1 a 2147483645 (by omega) (by omega)
  have r2 := inv_range a
  refine toF_inj r1.1 r1.2 r2.1 r2.2 (F_inv_unique (a := toF a) ?_ (inv_mul h0 h1))
  show toF (pl _ 1 a 2147483645) * _ = 1
  rw [pl_F _ _ _ _ (Nat.lt_succ_self _), toF_one]
  have := fermat_inv (2147483645 : Int).toNat (by omega) ha
  grind
end ObsMath
end
section
namespace ObsMath
def sub (a b : Int) : Int := (a - b + 2147483647) % 2147483647
theorem toF_subI (a b : Int) : toF (sub a b) = toF a - toF b := by
  unfold sub; rw [toF_mod, toF_add, toF_sub, toF_P]; grind
theorem sub_range (a b : Int) : 0 ≤ sub a b ∧ sub a b < 2147483647 := by unfold sub; omega
theorem sub_pos {a b : Int} (ha : 0 ≤ a) (ha' : a < 2147483647) (hb : 0 ≤ b) (hb' : b < 2147483647) (h : a ≠ b) : 0 < sub a b := by
  unfold sub; omega
def nv (X Y : Nat → Int) (x : Int) : Nat → Nat → Int
  | 0, i => Y i
  | w + 1, i => sub (sub x (X (i + (w + 1))) * nv X Y x w i % 2147483647) (sub x (X i) * nv X Y x w (i + 1) % 2147483647) * inv (sub (X i) (X (i + (w + 1)))) % 2147483647
structure Dst (X : Nat → Int) (n : Nat) : Prop where
  lo : ∀ i, i < n → 0 ≤ X i
  hi : ∀ i, i < n → X i < 2147483647
  inj : ∀ i j, i < n → j < n → X i = X j → i = j
theorem Dst.toF_inj {X : Nat → Int} {n i j : Nat} (h : Dst X n) (hi : i < n) (hj : j < n) (e : toF (X i) = toF (X j)) : i = j :=
  h.inj i j hi hj (ObsMath.toF_inj (h.lo i hi) (h.hi i hi) (h.lo j hj) (h.hi j hj) e)
theorem nv_range (X Y : Nat → Int) (x : Int) (hY : ∀ i, 0 ≤ Y i ∧ Y i < 2147483647) (w i : Nat) : 0 ≤ nv X Y x w i ∧ nv X Y x w i < 2147483647 := by
  cases w with
  | zero => exact hY i
  | succ w => simp only [nv]; omega
theorem nv_spec (X Y : Nat → Int) (n : Nat) (hd : Dst X n) : ∀ (w i : Nat), i + w < n →
    ∃ f : F → F, PF (w + 1) f ∧ (∀ j, i ≤ j → j ≤ i + w → f (toF (X j)) = toF (Y j)) ∧ ∀ x, toF (nv X Y x w i) = f (toF x)
  | 0, i, _ => ⟨fun _ => toF (Y i), PF.const _, fun j h1 h2 => by rw [show j = i by omega], fun x => rfl⟩
  | w + 1, i, h => by
    obtain ⟨f, pf, hf, ef⟩ := nv_spec X Y n hd w i (by omega)
    obtain ⟨g, pg, hg, eg⟩ := nv_spec X Y n hd w (i + 1) (by omega)
    have hne : X i ≠ X (i + (w + 1)) := fun e => by have := hd.inj i (i + (w + 1)) (by omega) (by omega) e; omega
    have hs := sub_pos (hd.lo i (by omega)) (hd.hi i (by omega)) (hd.lo _ (by omega)) (hd.hi _ h) hne
    have hv := inv_mul hs (sub_range _ _).2
    rw [toF_subI] at hv
    generalize hD : toF (inv (sub (X i) (X (i + (w + 1))))) = D at hv
    refine ⟨fun x => D * ((x - toF (X (i + (w + 1)))) * f x - (x - toF (X i)) * g x), ?_, ?_, ?_⟩
    · exact ((pf.mulx _).sub (pg.mulx _)).scale D
    · intro j h1 h2
      show D * _ = _
      by_cases e1 : j = i
      · subst e1; rw [hf j (by omega) (by omega)]; grind
      · by_cases e2 : j = i + (w + 1)
        · subst e2; rw [hg _ (by omega) (by omega)]; grind
        · rw [hf j (by omega) (by omega), hg j (by omega) (by omega)]; grind
    · intro x
      simp only [nv]
      rw [toF_mod, toF_mul, toF_subI, toF_mod, toF_mod, toF_mul, toF_mul, toF_subI, toF_subI, ef, eg, hD]
      grind
theorem nodup_of_dst {X : Nat → Int} {n : Nat} (hd : Dst X n) : ((List.range n).map (fun i => toF (X i))).Nodup := by
  unfold List.Nodup
  rw [List.pairwise_map]
  refine List.Pairwise.imp_of_mem ?_ (List.nodup_range (n := n))
  intro a b ha hb hab hc
  exact hab (hd.toF_inj (List.mem_range.1 ha) (List.mem_range.1 hb) hc)
theorem PF.unique_at {X : Nat → Int} {n m : Nat} (hd : Dst X n) (hm : m ≤ n) {f g : F → F} (hf : PF m f) (hg : PF m g)
    (h : ∀ i, i < n → f (toF (X i)) = g (toF (X i))) (x : F) : f x = g x := by
  refine PF.unique hf hg _ (nodup_of_dst hd) (by simpa using hm) ?_ x
  intro r hr
  obtain ⟨i, hi, rfl⟩ := List.mem_map.1 hr
  exact h i (List.mem_range.1 hi)
theorem nv_unique {X Y : Nat → Int} {n : Nat} (hn : 1 ≤ n) (hd : Dst X n) {f : F → F} (hf : PF n f) (h : ∀ i, i < n → f (toF (X i)) = toF (Y i)) (x : Int) :
    toF (nv X Y x (n - 1) 0) = f (toF x) := by
  obtain ⟨g, pg, hg, eg⟩ := nv_spec X Y n hd (n - 1) 0 (by omega)
  rw [eg]
  refine PF.unique_at hd (Nat.le_refl n) (pg.mono (by omega)) hf ?_ _
  intro i hi
  rw [hg i (by omega) (by omega), h i hi]
def LA (X : Nat → F) (i : Nat) (x : F) : Nat → F
  | 0 => 1
  | m + 1 => if m = i then LA X i x m else LA X i x m * (x - X m)
theorem LA_PF (X : Nat → F) (i : Nat) : ∀ m, PF (if i < m then m else m + 1) (fun x => LA X i x m)
  | 0 => by simpa [LA] using PF.const 1
  | m + 1 => by
    have ih := LA_PF X i m
    by_cases e : m = i
    · subst e
      simp only [LA, if_pos]
      rw [if_neg (Nat.lt_irrefl m)] at ih
      rw [if_pos (Nat.lt_succ_self m)]; exact ih
    · simp only [LA, if_neg e]
      have h := (ih.mulx (X m)).congr (g := fun x => LA X i x m * (x - X m)) (fun x => by grind)
      refine h.mono ?_
      by_cases h1 : i < m
      · rw [if_pos h1, if_pos (by omega)]; omega
      · rw [if_neg h1, if_neg (by omega)]; omega
theorem LA_zero (X : Nat → F) (i j : Nat) (hji : j ≠ i) : ∀ m, j < m → LA X i (X j) m = 0
  | 0, h => absurd h (by omega)
  | m + 1, h => by
    by_cases e : m = j
    · subst e; simp only [LA, if_neg hji]; grind
    · have ih := LA_zero X i j hji m (by omega)
      by_cases e2 : m = i
      · simp only [LA, if_pos e2]; exact ih
      · simp only [LA, if_neg e2, ih]; grind
theorem LA_ne {X : Nat → F} (i : Nat) (x : F) : ∀ m, (∀ k, k < m → k ≠ i → x ≠ X k) → LA X i x m ≠ 0
  | 0, _ => by show (1 : F) ≠ 0; decide
  | m + 1, h => by
    have ih := LA_ne i x m (fun k hk => h k (by omega))
    by_cases e : m = i
    · simp only [LA, if_pos e]; exact ih
    · simp only [LA, if_neg e]
      intro hc
      rcases F_mul_eq_zero hc with h1 | h1
      · exact ih h1
      · exact h m (by omega) e (by grind)
def lg (X : Nat → Int) (y x : Int) (i : Nat) : Nat → Int
  | 0 => y
  | m + 1 => if m = i then lg X y x i m else lg X y x i m * sub x (X m) % 2147483647
theorem lg_F (X : Nat → Int) (y x : Int) (i : Nat) : ∀ m, toF (lg X y x i m) = toF y * LA (fun k => toF (X k)) i (toF x) m
  | 0 => by simp only [lg, LA]; grind
  | m + 1 => by
    have ih := lg_F X y x i m
    by_cases e : m = i
    · simp only [lg, LA, if_pos e]; exact ih
    · simp only [lg, LA, if_neg e]
      rw [toF_mod, toF_mul, ih, toF_subI]; grind
theorem lg_range (X : Nat → Int) (y x : Int) (i : Nat) (h0 : 0 ≤ y) (h1 : y < 2147483647) : ∀ m, 0 ≤ lg X y x i m ∧ lg X y x i m < 2147483647
  | 0 => ⟨h0, h1⟩
  | m + 1 => by
    have ih := lg_range X y x i h0 h1 m
    by_cases e : m = i
    · simp only [lg, if_pos e]; exact ih
    · simp only [lg, if_neg e]; omega
def lsum (X Y : Nat → Int) (n : Nat) (x : Int) : Nat → Int
  | 0 => 0
  | m + 1 => (lsum X Y n x m + lg X (Y m) x m n * pls 1 (lg X 1 (X m) m n) 2147483645 % 2147483647) % 2147483647
theorem lsum_range (X Y : Nat → Int) (n : Nat) (x : Int) (m : Nat) : 0 ≤ lsum X Y n x m ∧ lsum X Y n x m < 2147483647 := by
  cases m with
  | zero => simp only [lsum]; omega
  | succ m => simp only [lsum]; omega
theorem lsum_F (X Y : Nat → Int) (n : Nat) (hd : Dst X n) : ∀ m, m ≤ n →
    ∃ f : F → F, PF n f ∧ (∀ j, j < n → f (toF (X j)) = if j < m then toF (Y j) else 0) ∧ ∀ x, toF (lsum X Y n x m) = f (toF x)
  | 0, _ => ⟨fun _ => 0, ⟨[], by simp, fun _ => rfl⟩, fun j _ => by simp, fun x => by simp only [lsum]; exact toF_zero⟩
  | m + 1, hm => by
    obtain ⟨f, pf, hf, ef⟩ := lsum_F X Y n hd m (by omega)
    have hb := LA_ne (X := fun k => toF (X k)) m (toF (X m)) n (fun k hk hkm e => hkm (hd.toF_inj hk (by omega) e.symm))
    have hB : toF (lg X 1 (X m) m n) = LA (fun k => toF (X k)) m (toF (X m)) n := by rw [lg_F, toF_one]; grind
    have hr := lg_range X 1 (X m) m (by omega) (by omega) n
    have hpos : 0 < lg X 1 (X m) m n := by
      have : lg X 1 (X m) m n ≠ 0 := by
        intro h; rw [h, toF_zero] at hB; exact hb hB.symm
      omega
    have hi := inv_mul hpos hr.2
    rw [hB] at hi
    rw [← pls_inv hpos hr.2] at hi
    generalize hD : toF (pls 1 (lg X 1 (X m) m n) 2147483645) = D at hi
    refine ⟨fun x => f x + (D * toF (Y m)) * LA (fun k => toF (X k)) m x n, ?_, ?_, ?_⟩
    · have := LA_PF (fun k => toF (X k)) m n
      rw [if_pos (by omega)] at this
      exact pf.add (this.scale _)
    · intro j hj
      show f _ + _ = _
      rw [hf j hj]
      by_cases e : j = m
      · subst e
        rw [if_neg (Nat.lt_irrefl j), if_pos (Nat.lt_succ_self j)]; grind
      · rw [LA_zero (fun k => toF (X k)) m j e n hj]
        by_cases h : j < m
        · rw [if_pos h, if_pos (by omega)]; grind
        · rw [if_neg h, if_neg (by omega)]; grind
    · intro x
      simp only [lsum]
      rw [toF_mod, toF_add, ef, toF_mod, toF_mul, lg_F, hD]; grind
theorem lsum_nv {X Y : Nat → Int} {n : Nat} (hn : 1 ≤ n) (hd : Dst X n) (hY : ∀ i, 0 ≤ Y i ∧ Y i < 2147483647) (x : Int) :
    lsum X Y n x n = nv X Y x (n - 1) 0 := by
  have r1 := lsum_range X Y n x n
  have r2 := nv_range X Y x hY (n - 1) 0
  refine toF_inj r1.1 r1.2 r2.1 r2.2 ?_
  obtain ⟨f, pf, hf, ef⟩ := lsum_F X Y n hd n (Nat.le_refl n)
  rw [ef]
  exact (nv_unique hn hd pf (fun i hi => by rw [hf i hi, if_pos hi]) x).symm
def evI : List Int → Int → Int
  | [], _ => 0
  | c :: cs, x => (evI cs x * x + c) % 2147483647
theorem evI_F (x : Int) : ∀ cs : List Int, toF (evI cs x) = ev (cs.map toF) (toF x)
  | [] => toF_zero
  | c :: cs => by simp only [evI, List.map, ev]; rw [toF_mod, toF_add, toF_mul, evI_F x cs]; grind
theorem evI_range (x : Int) (cs : List Int) : 0 ≤ evI cs x ∧ evI cs x < 2147483647 := by
  cases cs with
  | nil => simp only [evI]; omega
  | cons c cs => simp only [evI]; omega
def evR (c : Nat → Int) (x : Int) : Nat → Int
  | 0 => 0
  | m + 1 => (evR c x m + c m * pls 1 x m % 2147483647) % 2147483647
theorem evR_range (c : Nat → Int) (x : Int) (m : Nat) : 0 ≤ evR c x m ∧ evR c x m < 2147483647 := by
  cases m with
  | zero => simp only [evR]; omega
  | succ m => simp only [evR]; omega
theorem pls_F (x : Int) (m : Nat) : toF (pls 1 x m) = pw (toF x) m := by
  show toF (pl _ 1 x m) = _
  rw [pl_F _ _ _ _ (Nat.lt_succ_self _), toF_one, Int.toNat_natCast]; grind
theorem ev_append (x : F) : ∀ a b : List F, ev (a ++ b) x = ev a x + pw x a.length * ev b x
  | [], b => by simp only [List.nil_append, ev, List.length_nil, pw]; grind
  | c :: a, b => by simp only [List.cons_append, ev, ev_append x a b, List.length_cons, pw]; grind
theorem evR_F (cs : List Int) (x : Int) : ∀ m, m ≤ cs.length → toF (evR (fun i => cs.getD i 0) x m) = ev ((cs.take m).map toF) (toF x)
  | 0, _ => toF_zero
  | m + 1, h => by
    have ih := evR_F cs x m (by omega)
    simp only [evR]
    rw [toF_mod, toF_add, ih, toF_mod, toF_mul, pls_F, List.take_succ_eq_append_getElem (by omega), List.map_append, ev_append]
    simp only [List.map, ev, List.length_map, List.length_take, List.getD_eq_getElem?_getD]
    rw [List.getElem?_eq_getElem (by omega), Nat.min_eq_left (by omega)]
    simp only [Option.getD_some]; grind
theorem evR_evI (cs : List Int) (x : Int) : evR (fun i => cs.getD i 0) x cs.length = evI cs x := by
  have r1 := evR_range (fun i => cs.getD i 0) x cs.length
  have r2 := evI_range x cs
  refine toF_inj r1.1 r1.2 r2.1 r2.2 ?_
  rw [evR_F cs x _ (Nat.le_refl _), List.take_length, evI_F]
end ObsMath
end
section
namespace Go.Proofs.YtddikdpbhjgihaaGreatDoor.X
open Go.RowKit Go.Proofs.YtddikdpbhjgihaaGreatDoorW.PrintWords Go.Proofs.YtddikdpbhjgihaaGreatDoorW.PrintLast Go.Proofs.YtddikdpbhjgihaaGreatDoorW.PrintMore
open ObsMath (sub inv)
set_option linter.unusedVariables false
set_option linter.unusedSimpArgs false
theorem w64 {n : Int} (h0 : -9223372036854775808 ≤ n) (h1 : n ≤ 9223372036854775807) : wrap64 n = n := by unfold wrap64; omega
theorem tm {a : Int} (b : Int) (h : 0 ≤ a) : Int.tmod a b = a % b := Int.tmod_eq_emod_of_nonneg h
theorem td {a : Int} (b : Int) (h : 0 ≤ a) : Int.tdiv a b = a / b := Int.tdiv_eq_ediv_of_nonneg h
theorem minus_eq {a b : Int} (ha : 0 ≤ a) (ha' : a < 2147483647) (hb : 0 ≤ b) (hb' : b < 2147483647) : field_minus.f a b = some (sub a b) := by
  unfold field_minus.f ObsMath.sub
  rw [w64 (n := a - b) (by omega) (by omega), w64 (by omega) (by omega), tm _ (by omega)]
theorem mul_range {a b : Int} (ha : 0 ≤ a) (ha' : a < 2147483647) (hb : 0 ≤ b) (hb' : b < 2147483647) : 0 ≤ a * b ∧ a * b ≤ 4611686009837453316 := by
  constructor
  · exact Int.mul_nonneg ha hb
  · have h1 : a * b ≤ 2147483646 * b := Int.mul_le_mul_of_nonneg_right (by omega) hb
    omega
theorem inverse_l0 : ∀ (k : Nat) (r s u v : Int), u.toNat < k → ObsMath.EuI r s u v → field_inverse.l0 k r s u v = some ((ObsMath.eus r s u v % 2147483647 + 2147483647) % 2147483647) := by
  intro k
  induction k with
  | zero => intro r s u v h; omega
  | succ k ih =>
    intro r s u v h hi
    simp only [field_inverse.l0]
    by_cases hu : 0 < u
    · have hs := hi.step hu
      obtain ⟨h1, h2, h3, h4, h5, h6, h7, h8⟩ := hs
      have r0 := hi.r0
      have rP := hi.rP
      have hv1 := h1.v1
      have hv2 := h1.v2
      have hu1 := h1.u0
      have hu2 := h1.uP
      rw [if_pos hu, if_neg (by omega), td _ (by omega), w64 (n := r / u) (by omega) (by omega), w64 (n := r / u * u) (by omega) (by omega), w64 (n := r / u * v) (by omega) (by omega),
        w64 (n := r - r / u * u) (by omega) (by omega), w64 (n := s - r / u * v) (by omega) (by omega), ih _ _ _ _ (by omega) h1, ObsMath.eus_step r s u v hu]
    · have s1 := hi.s1
      have s2 := hi.s2
      rw [if_neg hu, ObsMath.eus_end _ _ _ _ hu]
      have : Int.tmod s 2147483647 = s % 2147483647 ∨ Int.tmod s 2147483647 = s % 2147483647 - 2147483647 := by
        by_cases h0 : 0 ≤ s
        · left; exact tm _ h0
        · have h2 := Int.neg_tmod (-s) 2147483647
          rw [Int.neg_neg, tm (a := -s) _ (by omega)] at h2
          rw [h2]; omega
      rcases this with h | h
      · rw [h, w64 (n := s % 2147483647 + 2147483647) (by omega) (by omega), tm _ (by omega)]
      · rw [h, w64 (n := s % 2147483647 - 2147483647 + 2147483647) (by omega) (by omega), tm _ (by omega)]; congr 1; omega
theorem inverse_eq {a : Int} (h0 : 0 ≤ a) (h1 : a < 2147483647) : ∀ k, 2147483648 ≤ k → field_inverse.f k a = some (inv a) := by
  intro k hk
  exact inverse_l0 k _ _ _ _ (by omega) (ObsMath.EuI.start a h0 h1)
set_option maxHeartbeats 1000000 in
theorem interp_join (B2 B3 B4 : Nat) (ad : Addr) (n c : Nat) (x i k xa xb v0 v1 : Int) (w : World)
  (h2 : w.cell? ⟨B2, 0, none⟩ = some (.slice (some ad) n c)) (h3 : w.cell? ⟨B3, 0, none⟩ = some (.int .i64 x))
  (h4 : w.cell? ⟨B4, i.toNat, none⟩ = some (.int .i64 v0)) (h5 : w.cell? ⟨B4, (i + 1).toNat, none⟩ = some (.int .i64 v1))
  (hf : w.frozen? ⟨B4, i.toNat, none⟩ = false)
  (a0 : w.cell? (ad.add (i.toNat * 2)) = some (.int .i64 xa)) (b0 : w.cell? (ad.add (k.toNat * 2)) = some (.int .i64 xb))
  (hi0 : 0 ≤ i) (hik : i < k) (hk : k < n) (hl : n ≤ 16)
  (x0 : 0 ≤ x) (x1 : x < 2147483647) (xa0 : 0 ≤ xa) (xa1 : xa < 2147483647) (xb0 : 0 ≤ xb) (xb1 : xb < 2147483647)
  (v00 : 0 ≤ v0) (v01 : v0 < 2147483647) (v10 : 0 ≤ v1) (v11 : v1 < 2147483647) :
  Calls Tryz.prog 156 #[.int .i64 i, .int .i64 k, .pointer (some ⟨B2, 0, none⟩), .pointer (some ⟨B3, 0, none⟩), .pointer (some ⟨B4, 0, none⟩)] w
     fun e w' => e = .returned (.tuple #[]) ∧ ∃ n, w' = (w.drewN n).setCell ⟨B4, i.toNat, none⟩ (.int .i64 (sub (sub x xb * v0 % 2147483647) (sub x xa * v1 % 2147483647) * inv (sub xa xb) % 2147483647)) := by
  have i1 : i < (n : Int) := by omega
  have k0 : (0 : Int) ≤ k := by omega
  have i16 : i < 16 := by omega
  have i17 : i + 1 < 16 := by omega
  have M1 := Aside0.mk (minus_eq x0 x1 xb0 xb1)
  have M2 := Aside0.mk (minus_eq x0 x1 xa0 xa1)
  have s1 := ObsMath.sub_range x xb
  have s2 := ObsMath.sub_range x xa
  have s3 := ObsMath.sub_range xa xb
  have p1 := mul_range s1.1 s1.2 v00 v01
  have p2 := mul_range s2.1 s2.2 v10 v11
  have M3 := Aside0.mk (minus_eq (a := sub x xb * v0 % 2147483647) (b := sub x xa * v1 % 2147483647) (by omega) (by omega) (by omega) (by omega))
  have M4 := Aside0.mk (minus_eq xa0 xa1 xb0 xb1)
  have s4 := ObsMath.sub_range (sub x xb * v0 % 2147483647) (sub x xa * v1 % 2147483647)
  have V1 := Aside0.mk (inverse_eq s3.1 s3.2 2147483648 (Nat.le_refl _))
  have s5 := ObsMath.inv_range (sub xa xb)
  have p3 := mul_range s4.1 s4.2 s5.1 s5.2
  generalize sub x xb = S1 at *
  generalize sub x xa = S2 at *
  generalize sub xa xb = S3 at *
  generalize hS4 : sub (S1 * v0 % 2147483647) (S2 * v1 % 2147483647) = S4 at *
  generalize inv S3 = S5 at *
  clear hS4
  obtain ⟨s10, s11⟩ := s1
  obtain ⟨s20, s21⟩ := s2
  obtain ⟨s30, s31⟩ := s3
  obtain ⟨s40, s41⟩ := s4
  obtain ⟨s50, s51⟩ := s5
  obtain ⟨p10, p11⟩ := p1
  obtain ⟨p20, p21⟩ := p2
  obtain ⟨p30, p31⟩ := p3
  go_enter Tryz.func156, Tryz.ntmps156
  go_wp2
  go_quiet (fail)
  go_wp2
  go_quiet (first | (go_at_call 157; (with_reducible refine (field_minus.calls x xb _ _ M1.out).mono ?_); rintro e w' ⟨rfl, ⟨nd, rfl⟩⟩; (try first | exact ⟨rfl, _, World.drewN_drewN _ _ _⟩ | exact ⟨rfl, _, Eq.trans (World.drewN_drewN _ _ _) (congrArg (World.drewN _) (Nat.add_assoc _ _ _))⟩)) | (go_at_call 157; (with_reducible refine (field_minus.calls x xa _ _ M2.out).mono ?_); rintro e w' ⟨rfl, ⟨nd, rfl⟩⟩; (try first | exact ⟨rfl, _, World.drewN_drewN _ _ _⟩ | exact ⟨rfl, _, Eq.trans (World.drewN_drewN _ _ _) (congrArg (World.drewN _) (Nat.add_assoc _ _ _))⟩)))
  go_wp2_with (first | (go_at_call 157; (with_reducible refine (field_minus.calls (S1 * v0 % 2147483647) (S2 * v1 % 2147483647) _ _ M3.out).mono ?_); rintro e w' ⟨rfl, ⟨nd, rfl⟩⟩; (try first | exact ⟨rfl, _, World.drewN_drewN _ _ _⟩ | exact ⟨rfl, _, Eq.trans (World.drewN_drewN _ _ _) (congrArg (World.drewN _) (Nat.add_assoc _ _ _))⟩)) | (go_at_call 157; (with_reducible refine (field_minus.calls xa xb _ _ M4.out).mono ?_); rintro e w' ⟨rfl, ⟨nd, rfl⟩⟩; (try first | exact ⟨rfl, _, World.drewN_drewN _ _ _⟩ | exact ⟨rfl, _, Eq.trans (World.drewN_drewN _ _ _) (congrArg (World.drewN _) (Nat.add_assoc _ _ _))⟩)) | (go_at_call 158; (with_reducible refine (field_inverse.calls 2147483648 S3 _ _ V1.out).mono ?_); rintro e w' ⟨rfl, ⟨nd, rfl⟩⟩; (try first | exact ⟨rfl, _, World.drewN_drewN _ _ _⟩ | exact ⟨rfl, _, Eq.trans (World.drewN_drewN _ _ _) (congrArg (World.drewN _) (Nat.add_assoc _ _ _))⟩)))
  go_end0
  exact ⟨rfl, _, rfl⟩
end Go.Proofs.YtddikdpbhjgihaaGreatDoor.X
end
section
namespace ObsMap
open Go
def mlook : List (Int × Value) → Int → Option Value
  | [], _ => none
  | p :: m, k => if p.1 = k then some p.2 else mlook m k
def mput : List (Int × Value) → Int → Value → List (Int × Value)
  | [], k, v => [(k, v)]
  | p :: m, k, v => if p.1 = k then (k, v) :: m else p :: mput m k v
theorem mlook_mput (k2 k : Int) (v : Value) : ∀ m, mlook (mput m k v) k2 = if k2 = k then some v else mlook m k2
  | [] => by
    by_cases h : k2 = k
    · subst h; simp [mput, mlook]
    · have : k ≠ k2 := fun e => h e.symm
      simp [mput, mlook, h, this]
  | p :: m => by
    by_cases h1 : p.1 = k
    · by_cases h : k2 = k
      · subst h; simp [mput, mlook, h1]
      · have h2 : k ≠ k2 := fun e => h e.symm
        have h3 : p.1 ≠ k2 := fun e => h2 (h1.symm.trans e)
        simp only [mput, if_pos h1, mlook, if_neg h2, if_neg h3, if_neg h]
    · have ih := mlook_mput k2 k v m
      by_cases h : p.1 = k2
      · have : k2 ≠ k := fun e => h1 (h.trans e)
        simp [mput, mlook, h, this]
      · simp [mput, mlook, h1, h, ih]
theorem mput_none (k : Int) (v : Value) : ∀ m, mlook m k = none → mput m k v = m ++ [(k, v)]
  | [], _ => rfl
  | p :: m, h => by
    by_cases h1 : p.1 = k
    · simp [mlook, h1] at h
    · simp only [mlook, if_neg h1] at h
      simp only [mput, if_neg h1, mput_none k v m h, List.cons_append]
def IsMap (w : World) (b : Nat) (m : List (Int × Value)) : Prop :=
  ∃ es clock, w.heap[b]? = some (.map es clock) ∧ es.toList.map (fun e => (e.key, e.val)) = m.map (fun p => (Value.int .i64 p.1, p.2))
theorem findNow_mlook (k : Int) : ∀ (es : List MapEntry) (m : List (Int × Value)) (i : Nat), es.map (fun e => (e.key, e.val)) = m.map (fun p => (Value.int .i64 p.1, p.2)) →
    (mlook m k = none ∧ Instr.findNow (.int .i64) (.int .i64 k) es i = some none) ∨
    ∃ j e v, mlook m k = some v ∧ Instr.findNow (.int .i64) (.int .i64 k) es i = some (some (i + j, v)) ∧ es[j]? = some e ∧ e.key = .int .i64 k ∧
      ∀ v' : Value, ((es.modify j fun e => { e with key := .int .i64 k, val := v' }).map (fun e => (e.key, e.val)) = (mput m k v').map (fun p => (Value.int .i64 p.1, p.2)))
  | [], [], i, _ => .inl ⟨rfl, rfl⟩
  | [], _ :: _, _, h => by simp at h
  | _ :: _, [], _, h => by simp at h
  | e :: es, p :: m, i, h => by
    simp only [List.map_cons, List.cons.injEq, Prod.mk.injEq] at h
    obtain ⟨⟨h1, h2⟩, h3⟩ := h
    by_cases hk : p.1 = k
    · refine .inr ⟨0, e, p.2, by simp [mlook, hk], ?_, rfl, by rw [h1, hk], ?_⟩
      · simp [Instr.findNow, Instr.sameNow, h1, hk, h2]
      · intro v'; simp [mput, hk, h3]
    · have hk' : (k == p.1) = false := by simpa using fun e : k = p.1 => hk e.symm
      rcases findNow_mlook k es m (i + 1) h3 with ⟨a, b⟩ | ⟨j, e', v, a, b, c, d, f⟩
      · refine .inl ⟨by simp [mlook, hk, a], ?_⟩
        simp [Instr.findNow, Instr.sameNow, h1, hk', b]
      · refine .inr ⟨j + 1, e', v, by simp [mlook, hk, a], ?_, by simpa using c, d, ?_⟩
        · simp [Instr.findNow, Instr.sameNow, h1, hk', b]; omega
        · intro v'
          have := f v'
          simp [mput, hk, h1, h2, this]
theorem check_run {P : Program} {w : World} {kt : TypeId} (hk : P.underlying kt = some (.int .i64)) (k : Int) (c : Bool) : (Instr.checkKey c 10000 kt (.int .i64 k)).run P w = .ok () w :=
  MapKept.run_checkKey (k := .int .i64 k) hk (show IntKind.i64 = IntKind.i64 from rfl) c 9999
theorem lookup_run {P : Program} {w : World} {t kt et : TypeId} {b : Nat} {m : List (Int × Value)} (ht : P.underlying t = some (.map kt et)) (hk : P.underlying kt = some (.int .i64))
    {z : Value} (hz : (zeroValue et).run P w = .ok z w) (h : IsMap w b m) (k : Int) (c : Bool) :
    (Instr.lookup t (.map (some b)) (.int .i64 k) c).run P w = .ok (if c then .tuple #[(mlook m k).getD z, .bool (mlook m k).isSome] else (mlook m k).getD z) w := by
  obtain ⟨es, clock, hb, he⟩ := h
  rcases findNow_mlook k es.toList m 0 he with ⟨a, hf⟩ | ⟨j, e, v, a, hf, _⟩
  · have := MapKept.run_findKey (P := P) (w := w) hk hf
    simp [Instr.lookup, run_underlying ht, MapKept.run_getObj_map hb, check_run hk, this, hz, Result.andThen, a]
  · have := MapKept.run_findKey (P := P) (w := w) hk hf
    simp [Instr.lookup, run_underlying ht, MapKept.run_getObj_map hb, check_run hk, this, Result.andThen, a]
theorem update_run {P : Program} {w : World} {t kt et : TypeId} {b : Nat} {m : List (Int × Value)} (ht : P.underlying t = some (.map kt et)) (hk : P.underlying kt = some (.int .i64))
    (h : IsMap w b m) (k : Int) (v : Value) :
    ∃ w', (Instr.mapUpdate t (.map (some b)) (.int .i64 k) v).run P w = .ok () w' ∧ IsMap w' b (mput m k v) ∧ w.grownBy w' (some b) := by
  obtain ⟨es, clock, hb, he⟩ := h
  have grown : ∀ o : Obj, w.grownBy { w with heap := w.heap.setIfInBounds b o } (some b) := fun o =>
    ⟨rfl, rfl, rfl, by simp, fun i hi hne => (MapKept.heap_set hb).2 i (fun e => hne (by rw [e]))⟩
  rcases findNow_mlook k es.toList m 0 he with ⟨a, hf⟩ | ⟨j, e, v0, a, hf, hj, hek, hm⟩
  · have hr := MapKept.run_findKey (P := P) (w := w) hk hf
    refine ⟨{ w with heap := w.heap.setIfInBounds b (.map (es.push ⟨.int .i64 k, v, clock⟩) (clock + 1)) }, ?_, ⟨_, _, (MapKept.heap_set hb).1, ?_⟩, grown _⟩
    · simp [Instr.mapUpdate, run_underlying ht, MapKept.run_getObj_map hb, check_run hk, hr, MapKept.run_setObj_map _ hb, Result.andThen]
    · rw [Array.toList_push, List.map_append, he, mput_none k v m a, List.map_append]; rfl
  · have hr := MapKept.run_findKey (P := P) (w := w) hk hf
    have hj' : es[j]? = some e := by simpa using hj
    have hs : (Instr.keyThatStays (.int .i64 k) (.int .i64 k)).run P w = .ok (.int .i64 k) w := MapKept.run_keyThatStays (d := .int .i64) rfl
    refine ⟨{ w with heap := w.heap.setIfInBounds b (.map (es.modify j fun e => { e with key := .int .i64 k, val := v }) clock) }, ?_, ⟨_, _, (MapKept.heap_set hb).1, ?_⟩, grown _⟩
    · simp [Instr.mapUpdate, run_underlying ht, MapKept.run_getObj_map hb, check_run hk, hr, hj', hek, hs, MapKept.run_setObj_map _ hb, Result.andThen]
    · rw [Array.toList_modify]; exact hm v
theorem IsMap.made (w : World) : IsMap (w.alloc (.map #[] 0)) w.heap.size [] := ⟨#[], 0, by show (w.heap.push _)[w.heap.size]? = _; simp, rfl⟩
theorem IsMap.lt {w : World} {b : Nat} {m : List (Int × Value)} (h : IsMap w b m) : b < w.heap.size := by
  obtain ⟨_, _, hb, _⟩ := h
  exact (Array.getElem?_eq_some_iff.1 hb).1
theorem IsMap.kept {w w' : World} {b : Nat} {m : List (Int × Value)} {row : Option Nat} (h : IsMap w b m) (hg : w.grownBy w' row) (hne : some b ≠ row) : IsMap w' b m := by
  obtain ⟨es, c, hb, he⟩ := h
  have hlt := (Array.getElem?_eq_some_iff.1 hb).1
  exact ⟨es, c, (hg.block b hlt hne).trans hb, he⟩
theorem IsMap.drawn {w : World} {b : Nat} {m : List (Int × Value)} (h : IsMap w b m) (n : Nat) : IsMap (w.drewN n) b m := h
theorem IsMap.alloc {w : World} {b : Nat} {m : List (Int × Value)} (h : IsMap w b m) (o : Obj) : IsMap (w.alloc o) b m := h.kept (World.grownBy_alloc w o none) (by simp)
end ObsMap
end
