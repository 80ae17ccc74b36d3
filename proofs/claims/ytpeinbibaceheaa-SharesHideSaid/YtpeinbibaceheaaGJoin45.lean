import Derived.Test.YtpeinbibaceheaaX0
import Derived.Test.YtpeinbibaceheaaX2
import Derived.Test.YtpeinbibaceheaaMath3
namespace Go.Proofs.Ytpeinbibaceheaa.X
open Go.RowKit Go.Proofs.YtpeinbibaceheaaW.PrintWords Go.Proofs.YtpeinbibaceheaaW.PrintLast Go.Proofs.YtpeinbibaceheaaW.PrintMore
open ObsMath (sub inv)
set_option linter.unusedVariables false
set_option linter.unusedSimpArgs false

theorem w64 {n : Int} (h0 : -9223372036854775808 ≤ n) (h1 : n ≤ 9223372036854775807) : wrap64 n = n := by unfold wrap64; omega
theorem tm {a : Int} (b : Int) (h : 0 ≤ a) : Int.tmod a b = a % b := Int.tmod_eq_emod_of_nonneg h
theorem td {a : Int} (b : Int) (h : 0 ≤ a) : Int.tdiv a b = a / b := Int.tdiv_eq_ediv_of_nonneg h

theorem minus_eq {a b : Int} (ha : 0 ≤ a) (ha' : a < 2147483647) (hb : 0 ≤ b) (hb' : b < 2147483647) : field_minus.f a b = some (sub a b) := by
  unfold field_minus.f ObsMath.sub
  rw [w64 (n := a - b) (by omega) (by omega), w64 (by omega) (by omega), tm _ (by omega)]

theorem mul_range {a b : Int} (ha : 0 ≤ a) (ha' : a < 2147483647) (hb : 0 ≤ b) (hb' : b < 2147483647) : 0 ≤ a * b ∧ a * b ≤ 4611686009837453316 := by
  constructor
  · exact Int.mul_nonneg ha hb
  · have h1 : a * b ≤ 2147483646 * b := Int.mul_le_mul_of_nonneg_right (by omega) hb
    omega

theorem inverse_l0 : ∀ (k : Nat) (r s u v : Int), u.toNat < k → ObsMath.EuI r s u v → field_inverse.l0 k r s u v = some ((ObsMath.eus r s u v % 2147483647 + 2147483647) % 2147483647) := by
  intro k
  induction k with
  | zero => intro r s u v h; omega
  | succ k ih =>
    intro r s u v h hi
    simp only [field_inverse.l0]
    by_cases hu : 0 < u
    · have hs := hi.step hu
      obtain ⟨h1, h2, h3, h4, h5, h6, h7, h8⟩ := hs
      have r0 := hi.r0
      have rP := hi.rP
      have hv1 := h1.v1
      have hv2 := h1.v2
      have hu1 := h1.u0
      have hu2 := h1.uP
      rw [if_pos hu, if_neg (by omega), td _ (by omega), w64 (n := r / u) (by omega) (by omega), w64 (n := r / u * u) (by omega) (by omega), w64 (n := r / u * v) (by omega) (by omega),
        w64 (n := r - r / u * u) (by omega) (by omega), w64 (n := s - r / u * v) (by omega) (by omega), ih _ _ _ _ (by omega) h1, ObsMath.eus_step r s u v hu]
    · have s1 := hi.s1
      have s2 := hi.s2
      rw [if_neg hu, ObsMath.eus_end _ _ _ _ hu]
      have : Int.tmod s 2147483647 = s % 2147483647 ∨ Int.tmod s 2147483647 = s % 2147483647 - 2147483647 := by
        by_cases h0 : 0 ≤ s
        · left; exact tm _ h0
        · have h2 := Int.neg_tmod (-s) 2147483647
          rw [Int.neg_neg, tm (a := -s) _ (by omega)] at h2
          rw [h2]; omega
      rcases this with h | h
      · rw [h, w64 (n := s % 2147483647 + 2147483647) (by omega) (by omega), tm _ (by omega)]
      · rw [h, w64 (n := s % 2147483647 - 2147483647 + 2147483647) (by omega) (by omega), tm _ (by omega)]; congr 1; omega

theorem inverse_eq {a : Int} (h0 : 0 ≤ a) (h1 : a < 2147483647) : ∀ k, 2147483648 ≤ k → field_inverse.f k a = some (inv a) := by
  intro k hk
  exact inverse_l0 k _ _ _ _ (by omega) (ObsMath.EuI.start a h0 h1)

set_option maxHeartbeats 1000000 in
theorem interp_join (B2 B3 B4 : Nat) (ad : Addr) (n c : Nat) (x i k xa xb v0 v1 : Int) (w : World)
  (h2 : w.cell? ⟨B2, 0, none⟩ = some (.slice (some ad) n c)) (h3 : w.cell? ⟨B3, 0, none⟩ = some (.int .i64 x))
  (h4 : w.cell? ⟨B4, i.toNat, none⟩ = some (.int .i64 v0)) (h5 : w.cell? ⟨B4, (i + 1).toNat, none⟩ = some (.int .i64 v1))
  (hf : w.frozen? ⟨B4, i.toNat, none⟩ = false)
  (a0 : w.cell? (ad.add (i.toNat * 2)) = some (.int .i64 xa)) (b0 : w.cell? (ad.add (k.toNat * 2)) = some (.int .i64 xb))
  (hi0 : 0 ≤ i) (hik : i < k) (hk : k < n) (hl : n ≤ 16)
  (x0 : 0 ≤ x) (x1 : x < 2147483647) (xa0 : 0 ≤ xa) (xa1 : xa < 2147483647) (xb0 : 0 ≤ xb) (xb1 : xb < 2147483647)
  (v00 : 0 ≤ v0) (v01 : v0 < 2147483647) (v10 : 0 ≤ v1) (v11 : v1 < 2147483647) :
  Calls Try.prog 45 #[.int .i64 i, .int .i64 k, .pointer (some ⟨B2, 0, none⟩), .pointer (some ⟨B3, 0, none⟩), .pointer (some ⟨B4, 0, none⟩)] w
     fun e w' => e = .returned (.tuple #[]) ∧ ∃ n, w' = (w.drewN n).setCell ⟨B4, i.toNat, none⟩ (.int .i64 (sub (sub x xb * v0 % 2147483647) (sub x xa * v1 % 2147483647) * inv (sub xa xb) % 2147483647)) := by
  have i1 : i < (n : Int) := by omega
  have k0 : (0 : Int) ≤ k := by omega
  have i16 : i < 16 := by omega
  have i17 : i + 1 < 16 := by omega
  have M1 := Aside0.mk (minus_eq x0 x1 xb0 xb1)
  have M2 := Aside0.mk (minus_eq x0 x1 xa0 xa1)
  have s1 := ObsMath.sub_range x xb
  have s2 := ObsMath.sub_range x xa
  have s3 := ObsMath.sub_range xa xb
  have p1 := mul_range s1.1 s1.2 v00 v01
  have p2 := mul_range s2.1 s2.2 v10 v11
  have M3 := Aside0.mk (minus_eq (a := sub x xb * v0 % 2147483647) (b := sub x xa * v1 % 2147483647) (by omega) (by omega) (by omega) (by omega))
  have M4 := Aside0.mk (minus_eq xa0 xa1 xb0 xb1)
  have s4 := ObsMath.sub_range (sub x xb * v0 % 2147483647) (sub x xa * v1 % 2147483647)
  have V1 := Aside0.mk (inverse_eq s3.1 s3.2 2147483648 (Nat.le_refl _))
  have s5 := ObsMath.inv_range (sub xa xb)
  have p3 := mul_range s4.1 s4.2 s5.1 s5.2
  generalize sub x xb = S1 at *
  generalize sub x xa = S2 at *
  generalize sub xa xb = S3 at *
  generalize hS4 : sub (S1 * v0 % 2147483647) (S2 * v1 % 2147483647) = S4 at *
  generalize inv S3 = S5 at *
  clear hS4
  obtain ⟨s10, s11⟩ := s1
  obtain ⟨s20, s21⟩ := s2
  obtain ⟨s30, s31⟩ := s3
  obtain ⟨s40, s41⟩ := s4
  obtain ⟨s50, s51⟩ := s5
  obtain ⟨p10, p11⟩ := p1
  obtain ⟨p20, p21⟩ := p2
  obtain ⟨p30, p31⟩ := p3
  go_enter Try.func45, Try.ntmps45
  go_wp2
  go_quiet (fail)
  go_wp2
  go_quiet (first | (go_at_call 46; (with_reducible refine (field_minus.calls x xb _ _ M1.out).mono ?_); rintro e w' ⟨rfl, ⟨nd, rfl⟩⟩; (try first | exact ⟨rfl, _, World.drewN_drewN _ _ _⟩ | exact ⟨rfl, _, Eq.trans (World.drewN_drewN _ _ _) (congrArg (World.drewN _) (Nat.add_assoc _ _ _))⟩)) | (go_at_call 46; (with_reducible refine (field_minus.calls x xa _ _ M2.out).mono ?_); rintro e w' ⟨rfl, ⟨nd, rfl⟩⟩; (try first | exact ⟨rfl, _, World.drewN_drewN _ _ _⟩ | exact ⟨rfl, _, Eq.trans (World.drewN_drewN _ _ _) (congrArg (World.drewN _) (Nat.add_assoc _ _ _))⟩)))
  go_wp2_with (first | (go_at_call 46; (with_reducible refine (field_minus.calls (S1 * v0 % 2147483647) (S2 * v1 % 2147483647) _ _ M3.out).mono ?_); rintro e w' ⟨rfl, ⟨nd, rfl⟩⟩; (try first | exact ⟨rfl, _, World.drewN_drewN _ _ _⟩ | exact ⟨rfl, _, Eq.trans (World.drewN_drewN _ _ _) (congrArg (World.drewN _) (Nat.add_assoc _ _ _))⟩)) | (go_at_call 46; (with_reducible refine (field_minus.calls xa xb _ _ M4.out).mono ?_); rintro e w' ⟨rfl, ⟨nd, rfl⟩⟩; (try first | exact ⟨rfl, _, World.drewN_drewN _ _ _⟩ | exact ⟨rfl, _, Eq.trans (World.drewN_drewN _ _ _) (congrArg (World.drewN _) (Nat.add_assoc _ _ _))⟩)) | (go_at_call 42; (with_reducible refine (field_inverse.calls 2147483648 S3 _ _ V1.out).mono ?_); rintro e w' ⟨rfl, ⟨nd, rfl⟩⟩; (try first | exact ⟨rfl, _, World.drewN_drewN _ _ _⟩ | exact ⟨rfl, _, Eq.trans (World.drewN_drewN _ _ _) (congrArg (World.drewN _) (Nat.add_assoc _ _ _))⟩)))
  go_end0
  exact ⟨rfl, _, rfl⟩
end Go.Proofs.Ytpeinbibaceheaa.X
