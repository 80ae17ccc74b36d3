import Derived.Test.YtddikdpbhjgihaaGreatDoorSC07
import Derived.Test.YtddikdpbhjgihaaGreatDoorSC13
import Derived.Test.YtddikdpbhjgihaaGreatDoorSC14
import Derived.Test.YtddikdpbhjgihaaGreatDoorSC12
import Derived.Test.YtddikdpbhjgihaaGreatDoorSC09
import Derived.Test.YtddikdpbhjgihaaGreatDoorSC11
import Derived.Deep.RegionHeld3
import Derived.Laws.EntriesVeiled
import Derived.Outline
section
namespace Go.Proofs.YtddikdpbhjgihaaGreatDoor.X
open Go.RowKit Go.Proofs.YtddikdpbhjgihaaGreatDoorW.PrintWords Go.Proofs.YtddikdpbhjgihaaGreatDoorW.PrintLast Go.Proofs.YtddikdpbhjgihaaGreatDoorW.PrintMore
attribute [local go_sem] max2_int min2_int max_two min_two max_three min_three max_four min_four   -- for this text's walks alone
set_option linter.unusedVariables false
set_option linter.unusedSimpArgs false
def observatoryref02_PathTexts.f : Nat → Int → Int → ByteArray → List ByteArray → Option (List ByteArray)
  | 0, _, _, _, _ => none
  | k + 1, a0, a1, a2, l3 => if a0 = 1 then (some ([] : List ByteArray)) else ((observatoryref02_Half.f k a0).bind fun t365 => (if 0 ≤ (wrap64 ((l3.length : Int) - 1)) then (if (wrap64 ((l3.length : Int) - 1)) < (l3.length : Int) then (if (wrap64 ((l3.length : Int) - 1)) ≤ (l3.length : Int) then (if a1 < t365 then ((observatoryref02_PathTexts.f k t365 a1 a2 (l3.take ((wrap64 ((l3.length : Int) - 1)) : Int).toNat)).bind fun t368 => ((observatoryref02_up.f k t365 a1 a2 (l3.take ((wrap64 ((l3.length : Int) - 1)) : Int).toNat)).bind fun t371 => ((observatoryref01_Joined.f (([(⟨#[110, 111, 100, 101]⟩ : ByteArray), t371, rdOf ByteArray.empty l3 (wrap64 ((l3.length : Int) - 1))] : List ByteArray))).bind fun t375 => (if t368.length < 8796093022208 then (some (t368 ++ [t375])) else (none))))) else ((observatoryref02_PathTexts.f k (wrap64 (a0 - t365)) (wrap64 (a1 - t365)) a2 (l3.take ((wrap64 ((l3.length : Int) - 1)) : Int).toNat)).bind fun t379 => ((observatoryref02_up.f k (wrap64 (a0 - t365)) (wrap64 (a1 - t365)) a2 (l3.take ((wrap64 ((l3.length : Int) - 1)) : Int).toNat)).bind fun t382 => ((observatoryref01_Joined.f (([(⟨#[110, 111, 100, 101]⟩ : ByteArray), rdOf ByteArray.empty l3 (wrap64 ((l3.length : Int) - 1)), t382] : List ByteArray))).bind fun t386 => (if t379.length < 8796093022208 then (some (t379 ++ [t386])) else (none)))))) else (none)) else (none)) else (none)))
set_option maxHeartbeats 8000000 in
set_option maxRecDepth 100000 in
theorem observatoryref02_PathTexts.calls (k : Nat) : ∀ (a0 : Int) (a1 : Int) (a2 : ByteArray) (A3 : Option Addr) (c3 : Nat) (l3 : List ByteArray) (r : List ByteArray) (w : World) (hr3 : Kd.C Kd.string w A3 l3.length l3) (hc3 : l3.length ≤ c3) (h : observatoryref02_PathTexts.f k a0 a1 a2 l3 = some r),
    Calls Tryz.prog 33 #[.int .i64 a0, .int .i64 a1, .string a2, .slice A3 l3.length c3] w fun e w' => ∃ v0_ : Value, e = .returned (v0_) ∧ Kd.R Kd.string 9 w' w.heap.size (fun _ => True) v0_ r ∧ Below w.heap.size w w' := by
  induction k using Nat.strongRecOn with
  | _ k ih =>
  intro a0 a1 a2 A3 c3 l3 r w hr3 hc3 h
  cases k with
  | zero => exact absurd h (by simp [observatoryref02_PathTexts.f])
  | succ k =>
  simp only [observatoryref02_PathTexts.f] at h
  have HR3 := Aside0.mk hr3
  have HC3 := Aside0.mk hc3
  clear hr3 hc3
  have HB := Aside0.mk (Below.refl w.heap.size w)
  have H : (if a0 = 1 then (some ([] : List ByteArray)) else ((observatoryref02_Half.f k a0).bind fun t365 => (if 0 ≤ (wrap64 ((l3.length : Int) - 1)) then (if (wrap64 ((l3.length : Int) - 1)) < (l3.length : Int) then (if (wrap64 ((l3.length : Int) - 1)) ≤ (l3.length : Int) then (if a1 < t365 then ((observatoryref02_PathTexts.f k t365 a1 a2 (l3.take ((wrap64 ((l3.length : Int) - 1)) : Int).toNat)).bind fun t368 => ((observatoryref02_up.f k t365 a1 a2 (l3.take ((wrap64 ((l3.length : Int) - 1)) : Int).toNat)).bind fun t371 => ((observatoryref01_Joined.f (([(⟨#[110, 111, 100, 101]⟩ : ByteArray), t371, rdOf ByteArray.empty l3 (wrap64 ((l3.length : Int) - 1))] : List ByteArray))).bind fun t375 => (if t368.length < 8796093022208 then (some (t368 ++ [t375])) else (none))))) else ((observatoryref02_PathTexts.f k (wrap64 (a0 - t365)) (wrap64 (a1 - t365)) a2 (l3.take ((wrap64 ((l3.length : Int) - 1)) : Int).toNat)).bind fun t379 => ((observatoryref02_up.f k (wrap64 (a0 - t365)) (wrap64 (a1 - t365)) a2 (l3.take ((wrap64 ((l3.length : Int) - 1)) : Int).toNat)).bind fun t382 => ((observatoryref01_Joined.f (([(⟨#[110, 111, 100, 101]⟩ : ByteArray), rdOf ByteArray.empty l3 (wrap64 ((l3.length : Int) - 1)), t382] : List ByteArray))).bind fun t386 => (if t379.length < 8796093022208 then (some (t379 ++ [t386])) else (none)))))) else (none)) else (none)) else (none)))) = some r := h
  clear h
  by_cases c5 : a0 = 1
  · rw [if_pos c5] at H
    have c5b0 : (a0 == 1) = true := beq_iff_eq.mpr c5
    have c5b1 : (a0 != 1) = false := bne_eq_false_iff_eq.mpr c5
    clear c5
    obtain rfl := Option.some.inj H
    go_enter Tryz.func33, Tryz.ntmps33
    go_wp2
    go_ret
    exact ⟨_, by first | rfl | (simp [errW_none, errW_some] <;> rfl) | (simp [*, errW_none, errW_some] <;> rfl), by first | exact Kd.R_nil _ _ _ _ _ | exact Kd.N_nil _ _ _ _ _ | exact Kd.V_nil _ _ _ _ _ | exact Kd.Q_nil _ _ _ _ _ | exact Kd.S_nil _ _ _ _ _, by repeat (first | (with_reducible first | exact HB.out | apply below_alloc | apply pw_below_drewN | apply below_drew1) | exact HB.out)⟩
  · rw [if_neg c5] at H
    have c5b0 : (a0 == 1) = false := beq_eq_false_iff_ne.mpr c5
    have c5b1 : (a0 != 1) = true := bne_iff_ne.mpr c5
    replace H := Option.bind_eq_some_iff.mp H
    obtain ⟨t365, A60, H⟩ := H
    replace H : (if 0 ≤ (wrap64 ((l3.length : Int) - 1)) then (if (wrap64 ((l3.length : Int) - 1)) < (l3.length : Int) then (if (wrap64 ((l3.length : Int) - 1)) ≤ (l3.length : Int) then (if a1 < t365 then ((observatoryref02_PathTexts.f k t365 a1 a2 (l3.take ((wrap64 ((l3.length : Int) - 1)) : Int).toNat)).bind fun t368 => ((observatoryref02_up.f k t365 a1 a2 (l3.take ((wrap64 ((l3.length : Int) - 1)) : Int).toNat)).bind fun t371 => ((observatoryref01_Joined.f (([(⟨#[110, 111, 100, 101]⟩ : ByteArray), t371, rdOf ByteArray.empty l3 (wrap64 ((l3.length : Int) - 1))] : List ByteArray))).bind fun t375 => (if t368.length < 8796093022208 then (some (t368 ++ [t375])) else (none))))) else ((observatoryref02_PathTexts.f k (wrap64 (a0 - t365)) (wrap64 (a1 - t365)) a2 (l3.take ((wrap64 ((l3.length : Int) - 1)) : Int).toNat)).bind fun t379 => ((observatoryref02_up.f k (wrap64 (a0 - t365)) (wrap64 (a1 - t365)) a2 (l3.take ((wrap64 ((l3.length : Int) - 1)) : Int).toNat)).bind fun t382 => ((observatoryref01_Joined.f (([(⟨#[110, 111, 100, 101]⟩ : ByteArray), rdOf ByteArray.empty l3 (wrap64 ((l3.length : Int) - 1)), t382] : List ByteArray))).bind fun t386 => (if t379.length < 8796093022208 then (some (t379 ++ [t386])) else (none)))))) else (none)) else (none)) else (none)) = some r := H
    have A6 := Aside0.mk A60
    clear A60
    obtain ⟨ji7, hji7⟩ : ∃ j_ : Int, (wrap64 ((l3.length : Int) - 1)) = j_ := ⟨_, rfl⟩
    replace H : (if 0 ≤ (ji7) then (if (ji7) < (l3.length : Int) then (if (ji7) ≤ (l3.length : Int) then (if a1 < t365 then ((observatoryref02_PathTexts.f k t365 a1 a2 (l3.take ((ji7) : Int).toNat)).bind fun t368 => ((observatoryref02_up.f k t365 a1 a2 (l3.take ((ji7) : Int).toNat)).bind fun t371 => ((observatoryref01_Joined.f (([(⟨#[110, 111, 100, 101]⟩ : ByteArray), t371, rdOf ByteArray.empty l3 (ji7)] : List ByteArray))).bind fun t375 => (if t368.length < 8796093022208 then (some (t368 ++ [t375])) else (none))))) else ((observatoryref02_PathTexts.f k (wrap64 (a0 - t365)) (wrap64 (a1 - t365)) a2 (l3.take ((ji7) : Int).toNat)).bind fun t379 => ((observatoryref02_up.f k (wrap64 (a0 - t365)) (wrap64 (a1 - t365)) a2 (l3.take ((ji7) : Int).toNat)).bind fun t382 => ((observatoryref01_Joined.f (([(⟨#[110, 111, 100, 101]⟩ : ByteArray), rdOf ByteArray.empty l3 (ji7), t382] : List ByteArray))).bind fun t386 => (if t379.length < 8796093022208 then (some (t379 ++ [t386])) else (none)))))) else (none)) else (none)) else (none)) = some r := by first | (rw [hji7] at H; exact H) | (simp only [hji7] at H ⊢; exact H)
    (try rw [hji7] at A6)
    have hji7w : (IntKind.i64.wrap ((l3.length : Int) - 1)) = ji7 := (i64_w _).trans hji7
    by_cases c8 : 0 ≤ (ji7)
    · rw [if_pos c8] at H
      have c8b0 : decide (0 ≤ (ji7)) = true := decide_eq_true c8
      clear c8
      by_cases c9 : (ji7) < (l3.length : Int)
      · rw [if_pos c9] at H
        have c9b0 : decide ((ji7) < (l3.length : Int)) = true := decide_eq_true c9
        clear c9
        have c10b0 := eq_true (of_decide_eq_true (by first | (with_reducible assumption) | assumption) : 0 ≤ (ji7))
        by_cases c11 : (ji7) ≤ (l3.length : Int)
        · rw [if_pos c11] at H
          have c11b0 := eq_true c11
          have c11b1 : decide ((ji7) ≤ (l3.length : Int)) = true := decide_eq_true c11
          clear c11
          by_cases c12 : a1 < t365
          · rw [if_pos c12] at H
            have c12b0 : decide (a1 < t365) = true := decide_eq_true c12
            clear c12
            replace H := Option.bind_eq_some_iff.mp H
            obtain ⟨t368, A130, H⟩ := H
            replace H : ((observatoryref02_up.f k t365 a1 a2 (l3.take ((ji7) : Int).toNat)).bind fun t371 => ((observatoryref01_Joined.f (([(⟨#[110, 111, 100, 101]⟩ : ByteArray), t371, rdOf ByteArray.empty l3 (ji7)] : List ByteArray))).bind fun t375 => (if t368.length < 8796093022208 then (some (t368 ++ [t375])) else (none)))) = some r := H
            have A13 := Aside0.mk A130
            clear A130
            replace H := Option.bind_eq_some_iff.mp H
            obtain ⟨t371, A140, H⟩ := H
            replace H : ((observatoryref01_Joined.f (([(⟨#[110, 111, 100, 101]⟩ : ByteArray), t371, rdOf ByteArray.empty l3 (ji7)] : List ByteArray))).bind fun t375 => (if t368.length < 8796093022208 then (some (t368 ++ [t375])) else (none))) = some r := H
            have A14 := Aside0.mk A140
            clear A140
            obtain ⟨y372, hy372⟩ : ∃ y_ : List ByteArray, y_ = (([(⟨#[110, 111, 100, 101]⟩ : ByteArray), t371, rdOf ByteArray.empty l3 (ji7)] : List ByteArray)) := ⟨_, rfl⟩
            replace H : ((observatoryref01_Joined.f y372).bind fun t375 => (if t368.length < 8796093022208 then (some (t368 ++ [t375])) else (none))) = some r := by first | (rw [hy372]; with_reducible exact H) | (have H2_ := (Option.bind_some _ _).symm.trans H; rw [hy372]; with_reducible exact H2_) | (have H2_ := (Option.bind_some _ _).symm.trans H; with_reducible exact H2_) | with_reducible exact H | (rw [hy372]; exact H) | exact H
            have Ny372 := Aside0.mk hy372
            clear hy372
            replace H := Option.bind_eq_some_iff.mp H
            obtain ⟨t375, A150, H⟩ := H
            replace H : (if t368.length < 8796093022208 then (some (t368 ++ [t375])) else (none)) = some r := H
            have A15 := Aside0.mk A150
            clear A150
            by_cases c16 : t368.length < 8796093022208
            · rw [if_pos c16] at H
              have LMc16 := Aside0.mk c16
              clear c16
              obtain ⟨y376, hy376⟩ : ∃ y_ : List ByteArray, y_ = (t368 ++ [t375]) := ⟨_, rfl⟩
              replace H : (some y376) = some r := by first | (rw [hy376]; with_reducible exact H) | (have H2_ := (Option.bind_some _ _).symm.trans H; rw [hy376]; with_reducible exact H2_) | (have H2_ := (Option.bind_some _ _).symm.trans H; with_reducible exact H2_) | with_reducible exact H | (rw [hy376]; exact H) | exact H
              have Ny376 := Aside0.mk hy376
              clear hy376
              obtain rfl := Option.some.inj H
              go_enter Tryz.func33, Tryz.ntmps33
              go_wp2_with (first | ((with_reducible refine gate_callee (f := 93) rfl ?_); refine goesL_ (some 15) rfl rfl Tryz.func93 (by kernel_rfl) rfl #[.int .i64 a0] rfl (by (try simp only [List.map_toArray, List.map_cons, List.map_nil]); first | done | rfl | (simp only [List.length_drop, List.length_take]; rfl)) ?_; (with_reducible refine (observatoryref02_Half.calls k a0 t365 _ A6.out).mono ?_); rintro e w' ⟨rfl, ⟨nd, rfl⟩⟩; refine ⟨_, rfl, ?_⟩; have p366 : 0 ≤ ((ji7) : Int) := of_decide_eq_true (by first | (with_reducible assumption) | assumption); have q366 : (ji7) < (l3.length : Int) := of_decide_eq_true (by first | (with_reducible assumption) | assumption); obtain ⟨ad366, e366, hx366_0⟩ := Kd.at_string HR3.out (ji7) p366 q366; cases e366; replace p366 := eq_true p366; replace q366 := eq_true q366; obtain ⟨i017, hi017, _, hsz17, _⟩ := info_parts info9; obtain ⟨hcut17, hA17, hC17⟩ := print_take_of (P := Tryz.prog) Value.string (⟨#[]⟩ : ByteArray) 26 9 .i64 Tryz.underlying26 hi017 hsz17 (some ad366) c3 l3 (ji7) (of_decide_eq_true (by first | (with_reducible assumption) | assumption)) (of_decide_eq_true (by first | (with_reducible assumption) | assumption)) HC3.out; have HR367 := Aside0.mk (Kd.C_of_reads (h1 := fun _ => rfl) (hA17 _ (Kd.reads_of_C HR3.out))); have HC367 := Aside0.mk hC17; clear hA17 hC17 hi017 hsz17) | ((with_reducible refine gate_callee (f := 33) rfl ?_); refine goesL_ (some 34) rfl rfl Tryz.func33 (by kernel_rfl) rfl #[.int .i64 t365, .int .i64 a1, .string a2, .slice (some ad366) (l3.take ((ji7) : Int).toNat).length c3] rfl (by (try simp only [List.map_toArray, List.map_cons, List.map_nil]); first | done | (rw [show (l3.take ((ji7) : Int).toNat).length = (ji7).toNat from (by rw [List.length_take]; have h_ : ((ji7) : Int) ≤ (l3.length : Int) := of_decide_eq_true (by first | (with_reducible assumption) | assumption); omega)] <;> rfl) | (simp only [hji7]; rfl) | rfl | (simp only [List.length_drop, List.length_take]; rfl)) ?_; (with_reducible refine (ih k (by omega) t365 a1 a2 _ _ (l3.take ((ji7) : Int).toNat) t368 _ ?side1 ?side2 A13.out).mono ?_); (case side1 => repeat (first | exact HR367.out | (with_reducible refine Kd.C_alloc ?_ _) | (with_reducible refine Kd.C_drewN ?_ _) | (with_reducible refine Kd.C_drew ?_))); (case side2 => exact HC367.out); rintro e w18 ⟨v369, rfl, ho0, hb⟩; refine ⟨_, rfl, ?_⟩; have n0_ := Aside0.mk (Kd.R_lower ho0 (below_size (by repeat (first | (with_reducible first | exact HB.out | apply below_alloc | apply pw_below_drewN | apply below_drew1) | exact HB.out)))); have n1_ := Aside0.mk (below_step (by repeat (first | (with_reducible first | exact HB.out | apply below_alloc | apply pw_below_drewN | apply below_drew1) | exact HB.out)) hb); clear HB; have HO370 := n0_; have HB := n1_; clear n0_ n1_; (try clear hb); (try clear hb2); (try clear hk); (try clear hi); (try clear ho0)) | ((with_reducible refine gate_callee (f := 95) rfl ?_); refine goesL_ (some 39) rfl rfl Tryz.func95 (by kernel_rfl) rfl #[.int .i64 t365, .int .i64 a1, .string a2, .slice (some ad366) (l3.take ((ji7) : Int).toNat).length c3] rfl (by (try simp only [List.map_toArray, List.map_cons, List.map_nil]); first | done | (rw [show (l3.take ((ji7) : Int).toNat).length = (ji7).toNat from (by rw [List.length_take]; have h_ : ((ji7) : Int) ≤ (l3.length : Int) := of_decide_eq_true (by first | (with_reducible assumption) | assumption); omega)] <;> rfl) | (simp only [hji7]; rfl) | rfl | (simp only [List.length_drop, List.length_take]; rfl)) ?_; (with_reducible refine (observatoryref02_up.calls k t365 a1 a2 _ _ (l3.take ((ji7) : Int).toNat) t371 _ ?side1 ?side2 A14.out).mono ?_); (case side1 => repeat (first | exact (Kd.C_below HR367.out HB.out) | (with_reducible refine Kd.C_alloc ?_ _) | (with_reducible refine Kd.C_drewN ?_ _) | (with_reducible refine Kd.C_drew ?_))); (case side2 => exact HC367.out); rintro e w19 ⟨rfl, hb⟩; refine ⟨_, rfl, ?_⟩; have n0_ := Aside0.mk (Kd.R_below (by (with_reducible repeat (first | apply Kd.R_alloc | apply Kd.R_drewN | apply Kd.R_drew)); exact HO370.out) hb); have n1_ := Aside0.mk (below_step (by repeat (first | (with_reducible first | exact HB.out | apply below_alloc | apply pw_below_drewN | apply below_drew1) | exact HB.out)) hb); clear HO370; clear HB; have HO370 := n0_; have HB := n1_; clear n0_ n1_; (try clear hb); (try clear hb2); (try clear hk); (try clear hi)) | ((with_reducible refine gate_dst (N := 41) rfl ?_); refine Kd.R_lit Kd.string _ 9 ?hg (N := 41) ?hd (xs := ([(⟨#[110, 111, 100, 101]⟩ : ByteArray), t371, rdOf ByteArray.empty l3 (ji7)] : List ByteArray)) (inner := [.string (⟨#[110, 111, 100, 101]⟩ : ByteArray), .string t371, .string (rdOf ByteArray.empty l3 (ji7))]) (ok := fun _ => True) (okp := fun _ => True) ?hr ?hp (fun _ hk => hk) trivial (Below.refl _ _) (Nat.le_refl _) (by simp) ?_; (case hd => rfl); (case hg => rfl); (case hr => first | (go_simp; done) | (go_simp; rfl)); (case hp => exact (Reps.one (show Kd.M Kd.string _ _ _ (⟨#[110, 111, 100, 101]⟩ : ByteArray) [.string (⟨#[110, 111, 100, 101]⟩ : ByteArray)] from rfl) (Reps.one (show Kd.M Kd.string _ _ _ t371 [.string t371] from rfl) (Reps.one (show Kd.M Kd.string _ _ _ (rdOf ByteArray.empty l3 (ji7)) [.string (rdOf ByteArray.empty l3 (ji7))] from rfl) (Reps.none _ _))))); intro v373 w20 ho21 hb hg_ hnew_; clear hg_ hnew_; (first | rw [← Ny372.out] at ho21 | (simp only [Int.reduceToNat] at ho21; rw [← Ny372.out] at ho21)); have n0_ := Aside0.mk (Kd.R_elder' (by (with_reducible repeat (first | apply Kd.R_alloc | apply Kd.R_drewN | apply Kd.R_drew)); exact HO370.out) (Kd.R_base ho21) hb); have n1_ := Aside0.mk (Kd.R_lower (Kd.R_new' ho21 (Kd.R_lt (by (with_reducible repeat (first | apply Kd.R_alloc | apply Kd.R_drewN | apply Kd.R_drew)); exact HO370.out))) (below_size (by repeat (first | (with_reducible first | exact HB.out | apply below_alloc | apply pw_below_drewN | apply below_drew1) | exact HB.out)))); have n2_ := Aside0.mk (below_step (by repeat (first | (with_reducible first | exact HB.out | apply below_alloc | apply pw_below_drewN | apply below_drew1) | exact HB.out)) hb); clear HO370; clear HB; have HO370 := n0_; have HO374 := n1_; have HB := n2_; clear n0_ n1_ n2_; clear hb ho21; obtain ⟨Ao22, co22, eo22⟩ := Kd.R_slice HO374.out; subst eo22) | ((with_reducible refine gate_callee (f := 30) rfl ?_); refine goesL_ (some 42) rfl rfl Tryz.func30 (by kernel_rfl) rfl #[.slice Ao22 y372.length co22] rfl (by (try simp only [List.map_toArray, List.map_cons, List.map_nil]); first | done | rfl | (simp only [List.length_drop, List.length_take]; rfl)) ?_; (with_reducible refine (observatoryref01_Joined.calls _ _ y372 t375 _ ?side1 ?side2 A15.out).mono ?_); (case side1 => repeat (first | exact (Kd.R_reads' HO374.out).2.2 | (with_reducible refine Kd.C_alloc ?_ _) | (with_reducible refine Kd.C_drewN ?_ _) | (with_reducible refine Kd.C_drew ?_))); (case side2 => exact (Kd.R_reads' HO374.out).2.1); rintro e w23 ⟨rfl, hb⟩; refine ⟨_, rfl, ?_⟩; have n0_ := Aside0.mk (Kd.R_below (by (with_reducible repeat (first | apply Kd.R_alloc | apply Kd.R_drewN | apply Kd.R_drew)); exact HO370.out) hb); have n1_ := Aside0.mk (Kd.R_below (by (with_reducible repeat (first | apply Kd.R_alloc | apply Kd.R_drewN | apply Kd.R_drew)); exact HO374.out) hb); have n2_ := Aside0.mk (below_step (by repeat (first | (with_reducible first | exact HB.out | apply below_alloc | apply pw_below_drewN | apply below_drew1) | exact HB.out)) hb); clear HO370; clear HO374; clear HB; have HO370 := n0_; have HO374 := n1_; have HB := n2_; clear n0_ n1_ n2_; (try clear hb); (try clear hb2); (try clear hk); (try clear hi)) | ((with_reducible refine gate_builtin (b := .append) (xs := #[.tmp 34, .tmp 43]) rfl ?_); at_builtin; refine Kd.R_append Kd.string (w0 := w) w.heap.size rfl (.tmp 34) (.tmp 43) 26 9 (.string ⟨#[]⟩) 16 rfl Tryz.underlying26 info9 rfl (by decide) (by omega) v369 t368 t375 [.string t375] (fun k_ => some k_ ≠ (.slice Ao22 y372.length co22 : Value).ownBlock) (fun _ => False) rfl rfl ?aP (fun _ hk => hk.elim) ?aF ?aO ?aB ?aS ?aL ?_; (case aP => exact rfl); (case aB => exact (by repeat (first | (with_reducible first | exact HB.out | apply below_alloc | apply pw_below_drewN | apply below_drew1) | exact HB.out))); (case aF => exact (fun k_ hk => Kd.fresh' (Kd.R_lt (by (with_reducible repeat (first | apply Kd.R_alloc | apply Kd.R_drewN | apply Kd.R_drew)); exact HO374.out)) k_ hk)); (case aO => exact (by (with_reducible repeat (first | apply Kd.R_alloc | apply Kd.R_drewN | apply Kd.R_drew)); exact Kd.R_mono HO370.out (fun _ hk => hk.2))); (case aS => exact (below_size (by repeat (first | (with_reducible first | exact HB.out | apply below_alloc | apply pw_below_drewN | apply below_drew1) | exact HB.out)))); (case aL => have := LMc16.out; omega); intro v377 w24 ho hb hg hat; rw [← Ny376.out] at ho; have n0_ := Aside0.mk (Kd.R_after (ok := (fun _ => True)) (by (with_reducible repeat (first | apply Kd.R_alloc | apply Kd.R_drewN | apply Kd.R_drew)); exact HO374.out) hg hat); have n1_ := Aside0.mk (hb); have n2_ := Aside0.mk (ho); clear HO374; clear HB; clear HO370; have HO374 := n0_; have HB := n1_; have HO378 := n2_; clear n0_ n1_ n2_; clear ho hb hg hat))
              go_ret
              exact ⟨_, by first | rfl | (simp [errW_none, errW_some] <;> rfl) | (simp only [← hji7]; first | rfl | (simp [errW_none, errW_some] <;> rfl)) | (simp [*, errW_none, errW_some] <;> rfl), by (with_reducible repeat (first | apply Kd.R_alloc | apply Kd.R_drewN | apply Kd.R_drew)); exact Kd.R_mono HO378.out (fun _ hk => trivial), by repeat (first | (with_reducible first | exact HB.out | apply below_alloc | apply pw_below_drewN | apply below_drew1) | exact HB.out)⟩
            · rw [if_neg c16] at H
              exact absurd H (by simp)
          · rw [if_neg c12] at H
            have c12b0 : decide (a1 < t365) = false := decide_eq_false c12
            clear c12
            replace H := Option.bind_eq_some_iff.mp H
            obtain ⟨t379, A250, H⟩ := H
            replace H : ((observatoryref02_up.f k (wrap64 (a0 - t365)) (wrap64 (a1 - t365)) a2 (l3.take ((ji7) : Int).toNat)).bind fun t382 => ((observatoryref01_Joined.f (([(⟨#[110, 111, 100, 101]⟩ : ByteArray), rdOf ByteArray.empty l3 (ji7), t382] : List ByteArray))).bind fun t386 => (if t379.length < 8796093022208 then (some (t379 ++ [t386])) else (none)))) = some r := H
            have A25 := Aside0.mk A250
            clear A250
            replace H := Option.bind_eq_some_iff.mp H
            obtain ⟨t382, A260, H⟩ := H
            replace H : ((observatoryref01_Joined.f (([(⟨#[110, 111, 100, 101]⟩ : ByteArray), rdOf ByteArray.empty l3 (ji7), t382] : List ByteArray))).bind fun t386 => (if t379.length < 8796093022208 then (some (t379 ++ [t386])) else (none))) = some r := H
            have A26 := Aside0.mk A260
            clear A260
            obtain ⟨y383, hy383⟩ : ∃ y_ : List ByteArray, y_ = (([(⟨#[110, 111, 100, 101]⟩ : ByteArray), rdOf ByteArray.empty l3 (ji7), t382] : List ByteArray)) := ⟨_, rfl⟩
            replace H : ((observatoryref01_Joined.f y383).bind fun t386 => (if t379.length < 8796093022208 then (some (t379 ++ [t386])) else (none))) = some r := by first | (rw [hy383]; with_reducible exact H) | (have H2_ := (Option.bind_some _ _).symm.trans H; rw [hy383]; with_reducible exact H2_) | (have H2_ := (Option.bind_some _ _).symm.trans H; with_reducible exact H2_) | with_reducible exact H | (rw [hy383]; exact H) | exact H
            have Ny383 := Aside0.mk hy383
            clear hy383
            replace H := Option.bind_eq_some_iff.mp H
            obtain ⟨t386, A270, H⟩ := H
            replace H : (if t379.length < 8796093022208 then (some (t379 ++ [t386])) else (none)) = some r := H
            have A27 := Aside0.mk A270
            clear A270
            by_cases c28 : t379.length < 8796093022208
            · rw [if_pos c28] at H
              have LMc28 := Aside0.mk c28
              clear c28
              obtain ⟨y387, hy387⟩ : ∃ y_ : List ByteArray, y_ = (t379 ++ [t386]) := ⟨_, rfl⟩
              replace H : (some y387) = some r := by first | (rw [hy387]; with_reducible exact H) | (have H2_ := (Option.bind_some _ _).symm.trans H; rw [hy387]; with_reducible exact H2_) | (have H2_ := (Option.bind_some _ _).symm.trans H; with_reducible exact H2_) | with_reducible exact H | (rw [hy387]; exact H) | exact H
              have Ny387 := Aside0.mk hy387
              clear hy387
              obtain rfl := Option.some.inj H
              go_enter Tryz.func33, Tryz.ntmps33
              go_wp2_with (first | ((with_reducible refine gate_callee (f := 93) rfl ?_); refine goesL_ (some 15) rfl rfl Tryz.func93 (by kernel_rfl) rfl #[.int .i64 a0] rfl (by (try simp only [List.map_toArray, List.map_cons, List.map_nil]); first | done | rfl | (simp only [List.length_drop, List.length_take]; rfl)) ?_; (with_reducible refine (observatoryref02_Half.calls k a0 t365 _ A6.out).mono ?_); rintro e w' ⟨rfl, ⟨nd, rfl⟩⟩; refine ⟨_, rfl, ?_⟩; have p366 : 0 ≤ ((ji7) : Int) := of_decide_eq_true (by first | (with_reducible assumption) | assumption); have q366 : (ji7) < (l3.length : Int) := of_decide_eq_true (by first | (with_reducible assumption) | assumption); obtain ⟨ad366, e366, hx366_0⟩ := Kd.at_string HR3.out (ji7) p366 q366; cases e366; replace p366 := eq_true p366; replace q366 := eq_true q366; obtain ⟨i029, hi029, _, hsz29, _⟩ := info_parts info9; obtain ⟨hcut29, hA29, hC29⟩ := print_take_of (P := Tryz.prog) Value.string (⟨#[]⟩ : ByteArray) 26 9 .i64 Tryz.underlying26 hi029 hsz29 (some ad366) c3 l3 (ji7) (of_decide_eq_true (by first | (with_reducible assumption) | assumption)) (of_decide_eq_true (by first | (with_reducible assumption) | assumption)) HC3.out; have HR367 := Aside0.mk (Kd.C_of_reads (h1 := fun _ => rfl) (hA29 _ (Kd.reads_of_C HR3.out))); have HC367 := Aside0.mk hC29; clear hA29 hC29 hi029 hsz29) | ((with_reducible refine gate_callee (f := 33) rfl ?_); refine goesL_ (some 53) rfl rfl Tryz.func33 (by kernel_rfl) rfl #[.int .i64 (wrap64 (a0 - t365)), .int .i64 (wrap64 (a1 - t365)), .string a2, .slice (some ad366) (l3.take ((ji7) : Int).toNat).length c3] rfl (by (try simp only [List.map_toArray, List.map_cons, List.map_nil]); first | done | (rw [show (l3.take ((ji7) : Int).toNat).length = (ji7).toNat from (by rw [List.length_take]; have h_ : ((ji7) : Int) ≤ (l3.length : Int) := of_decide_eq_true (by first | (with_reducible assumption) | assumption); omega)] <;> rfl) | (simp only [hji7]; rfl) | rfl | (simp only [List.length_drop, List.length_take]; rfl)) ?_; (with_reducible refine (ih k (by omega) (wrap64 (a0 - t365)) (wrap64 (a1 - t365)) a2 _ _ (l3.take ((ji7) : Int).toNat) t379 _ ?side1 ?side2 A25.out).mono ?_); (case side1 => repeat (first | exact HR367.out | (with_reducible refine Kd.C_alloc ?_ _) | (with_reducible refine Kd.C_drewN ?_ _) | (with_reducible refine Kd.C_drew ?_))); (case side2 => exact HC367.out); rintro e w30 ⟨v380, rfl, ho0, hb⟩; refine ⟨_, rfl, ?_⟩; have n0_ := Aside0.mk (Kd.R_lower ho0 (below_size (by repeat (first | (with_reducible first | exact HB.out | apply below_alloc | apply pw_below_drewN | apply below_drew1) | exact HB.out)))); have n1_ := Aside0.mk (below_step (by repeat (first | (with_reducible first | exact HB.out | apply below_alloc | apply pw_below_drewN | apply below_drew1) | exact HB.out)) hb); clear HB; have HO381 := n0_; have HB := n1_; clear n0_ n1_; (try clear hb); (try clear hb2); (try clear hk); (try clear hi); (try clear ho0)) | ((with_reducible refine gate_callee (f := 95) rfl ?_); refine goesL_ (some 63) rfl rfl Tryz.func95 (by kernel_rfl) rfl #[.int .i64 (wrap64 (a0 - t365)), .int .i64 (wrap64 (a1 - t365)), .string a2, .slice (some ad366) (l3.take ((ji7) : Int).toNat).length c3] rfl (by (try simp only [List.map_toArray, List.map_cons, List.map_nil]); first | done | (rw [show (l3.take ((ji7) : Int).toNat).length = (ji7).toNat from (by rw [List.length_take]; have h_ : ((ji7) : Int) ≤ (l3.length : Int) := of_decide_eq_true (by first | (with_reducible assumption) | assumption); omega)] <;> rfl) | (simp only [hji7]; rfl) | rfl | (simp only [List.length_drop, List.length_take]; rfl)) ?_; (with_reducible refine (observatoryref02_up.calls k (wrap64 (a0 - t365)) (wrap64 (a1 - t365)) a2 _ _ (l3.take ((ji7) : Int).toNat) t382 _ ?side1 ?side2 A26.out).mono ?_); (case side1 => repeat (first | exact (Kd.C_below HR367.out HB.out) | (with_reducible refine Kd.C_alloc ?_ _) | (with_reducible refine Kd.C_drewN ?_ _) | (with_reducible refine Kd.C_drew ?_))); (case side2 => exact HC367.out); rintro e w31 ⟨rfl, hb⟩; refine ⟨_, rfl, ?_⟩; have n0_ := Aside0.mk (Kd.R_below (by (with_reducible repeat (first | apply Kd.R_alloc | apply Kd.R_drewN | apply Kd.R_drew)); exact HO381.out) hb); have n1_ := Aside0.mk (below_step (by repeat (first | (with_reducible first | exact HB.out | apply below_alloc | apply pw_below_drewN | apply below_drew1) | exact HB.out)) hb); clear HO381; clear HB; have HO381 := n0_; have HB := n1_; clear n0_ n1_; (try clear hb); (try clear hb2); (try clear hk); (try clear hi)) | ((with_reducible refine gate_dst (N := 64) rfl ?_); refine Kd.R_lit Kd.string _ 9 ?hg (N := 64) ?hd (xs := ([(⟨#[110, 111, 100, 101]⟩ : ByteArray), rdOf ByteArray.empty l3 (ji7), t382] : List ByteArray)) (inner := [.string (⟨#[110, 111, 100, 101]⟩ : ByteArray), .string (rdOf ByteArray.empty l3 (ji7)), .string t382]) (ok := fun _ => True) (okp := fun _ => True) ?hr ?hp (fun _ hk => hk) trivial (Below.refl _ _) (Nat.le_refl _) (by simp) ?_; (case hd => rfl); (case hg => rfl); (case hr => first | (go_simp; done) | (go_simp; rfl)); (case hp => exact (Reps.one (show Kd.M Kd.string _ _ _ (⟨#[110, 111, 100, 101]⟩ : ByteArray) [.string (⟨#[110, 111, 100, 101]⟩ : ByteArray)] from rfl) (Reps.one (show Kd.M Kd.string _ _ _ (rdOf ByteArray.empty l3 (ji7)) [.string (rdOf ByteArray.empty l3 (ji7))] from rfl) (Reps.one (show Kd.M Kd.string _ _ _ t382 [.string t382] from rfl) (Reps.none _ _))))); intro v384 w32 ho33 hb hg_ hnew_; clear hg_ hnew_; (first | rw [← Ny383.out] at ho33 | (simp only [Int.reduceToNat] at ho33; rw [← Ny383.out] at ho33)); have n0_ := Aside0.mk (Kd.R_elder' (by (with_reducible repeat (first | apply Kd.R_alloc | apply Kd.R_drewN | apply Kd.R_drew)); exact HO381.out) (Kd.R_base ho33) hb); have n1_ := Aside0.mk (Kd.R_lower (Kd.R_new' ho33 (Kd.R_lt (by (with_reducible repeat (first | apply Kd.R_alloc | apply Kd.R_drewN | apply Kd.R_drew)); exact HO381.out))) (below_size (by repeat (first | (with_reducible first | exact HB.out | apply below_alloc | apply pw_below_drewN | apply below_drew1) | exact HB.out)))); have n2_ := Aside0.mk (below_step (by repeat (first | (with_reducible first | exact HB.out | apply below_alloc | apply pw_below_drewN | apply below_drew1) | exact HB.out)) hb); clear HO381; clear HB; have HO381 := n0_; have HO385 := n1_; have HB := n2_; clear n0_ n1_ n2_; clear hb ho33; obtain ⟨Ao34, co34, eo34⟩ := Kd.R_slice HO385.out; subst eo34) | ((with_reducible refine gate_callee (f := 30) rfl ?_); refine goesL_ (some 65) rfl rfl Tryz.func30 (by kernel_rfl) rfl #[.slice Ao34 y383.length co34] rfl (by (try simp only [List.map_toArray, List.map_cons, List.map_nil]); first | done | rfl | (simp only [List.length_drop, List.length_take]; rfl)) ?_; (with_reducible refine (observatoryref01_Joined.calls _ _ y383 t386 _ ?side1 ?side2 A27.out).mono ?_); (case side1 => repeat (first | exact (Kd.R_reads' HO385.out).2.2 | (with_reducible refine Kd.C_alloc ?_ _) | (with_reducible refine Kd.C_drewN ?_ _) | (with_reducible refine Kd.C_drew ?_))); (case side2 => exact (Kd.R_reads' HO385.out).2.1); rintro e w35 ⟨rfl, hb⟩; refine ⟨_, rfl, ?_⟩; have n0_ := Aside0.mk (Kd.R_below (by (with_reducible repeat (first | apply Kd.R_alloc | apply Kd.R_drewN | apply Kd.R_drew)); exact HO381.out) hb); have n1_ := Aside0.mk (Kd.R_below (by (with_reducible repeat (first | apply Kd.R_alloc | apply Kd.R_drewN | apply Kd.R_drew)); exact HO385.out) hb); have n2_ := Aside0.mk (below_step (by repeat (first | (with_reducible first | exact HB.out | apply below_alloc | apply pw_below_drewN | apply below_drew1) | exact HB.out)) hb); clear HO381; clear HO385; clear HB; have HO381 := n0_; have HO385 := n1_; have HB := n2_; clear n0_ n1_ n2_; (try clear hb); (try clear hb2); (try clear hk); (try clear hi)) | ((with_reducible refine gate_builtin (b := .append) (xs := #[.tmp 53, .tmp 66]) rfl ?_); at_builtin; refine Kd.R_append Kd.string (w0 := w) w.heap.size rfl (.tmp 53) (.tmp 66) 26 9 (.string ⟨#[]⟩) 16 rfl Tryz.underlying26 info9 rfl (by decide) (by omega) v380 t379 t386 [.string t386] (fun k_ => some k_ ≠ (.slice Ao34 y383.length co34 : Value).ownBlock) (fun _ => False) rfl rfl ?aP (fun _ hk => hk.elim) ?aF ?aO ?aB ?aS ?aL ?_; (case aP => exact rfl); (case aB => exact (by repeat (first | (with_reducible first | exact HB.out | apply below_alloc | apply pw_below_drewN | apply below_drew1) | exact HB.out))); (case aF => exact (fun k_ hk => Kd.fresh' (Kd.R_lt (by (with_reducible repeat (first | apply Kd.R_alloc | apply Kd.R_drewN | apply Kd.R_drew)); exact HO385.out)) k_ hk)); (case aO => exact (by (with_reducible repeat (first | apply Kd.R_alloc | apply Kd.R_drewN | apply Kd.R_drew)); exact Kd.R_mono HO381.out (fun _ hk => hk.2))); (case aS => exact (below_size (by repeat (first | (with_reducible first | exact HB.out | apply below_alloc | apply pw_below_drewN | apply below_drew1) | exact HB.out)))); (case aL => have := LMc28.out; omega); intro v388 w36 ho hb hg hat; rw [← Ny387.out] at ho; have n0_ := Aside0.mk (Kd.R_after (ok := (fun _ => True)) (by (with_reducible repeat (first | apply Kd.R_alloc | apply Kd.R_drewN | apply Kd.R_drew)); exact HO385.out) hg hat); have n1_ := Aside0.mk (hb); have n2_ := Aside0.mk (ho); clear HO385; clear HB; clear HO381; have HO385 := n0_; have HB := n1_; have HO389 := n2_; clear n0_ n1_ n2_; clear ho hb hg hat))
              go_ret
              exact ⟨_, by first | rfl | (simp [errW_none, errW_some] <;> rfl) | (simp only [← hji7]; first | rfl | (simp [errW_none, errW_some] <;> rfl)) | (simp [*, errW_none, errW_some] <;> rfl), by (with_reducible repeat (first | apply Kd.R_alloc | apply Kd.R_drewN | apply Kd.R_drew)); exact Kd.R_mono HO389.out (fun _ hk => trivial), by repeat (first | (with_reducible first | exact HB.out | apply below_alloc | apply pw_below_drewN | apply below_drew1) | exact HB.out)⟩
            · rw [if_neg c28] at H
              exact absurd H (by simp)
        · rw [if_neg c11] at H
          exact absurd H (by simp)
      · rw [if_neg c9] at H
        exact absurd H (by simp)
    · rw [if_neg c8] at H
      exact absurd H (by simp)
end Go.Proofs.YtddikdpbhjgihaaGreatDoor.X
end
section
namespace Go.Proofs.YtddikdpbhjgihaaGreatDoor.X
open Go.RowKit Go.Proofs.YtddikdpbhjgihaaGreatDoorW.PrintWords Go.Proofs.YtddikdpbhjgihaaGreatDoorW.PrintLast Go.Proofs.YtddikdpbhjgihaaGreatDoorW.PrintMore
set_option linter.unusedVariables false
set_option linter.unusedSimpArgs false
theorem rdB_at {l : List ByteArray} {i : Nat} (h : i < l.length) : rdOf ByteArray.empty l (i : Int) = l[i] := by
  simp [rdOf, List.getElem?_eq_getElem h]
theorem notdg (s : ByteArray) (b : Bool) (w : World) (hb : isDg s = b) : Calls Tryz.prog 142 #[.string s] w fun e w' => e = .returned (.bool (!b)) ∧ Below w.heap.size w w' := by
  have HB := Aside0.mk hb
  clear hb
  go_enter Tryz.func142, Tryz.ntmps142
  go_wp2_with fail
  refine (digest_Is.calls s b _ (by unfold digest_Is.f; rw [HB.out])).mono ?_
  rintro e w' ⟨rfl, hb⟩
  have HB1 := Aside0.mk hb
  clear hb
  go_wp2_with fail
  go_ret
  exact ⟨rfl, HB1.out⟩
def FPost (l : List ByteArray) (w : World) (e : Ending) (w' : World) : Prop := (∃ i : Int, e = .returned (.int .i64 i) ∧ (decide (0 ≤ i) = !(l.all isDg))) ∧ Below w.heap.size w w'
theorem index_walk (A : Option Addr) (c : Nat) (l : List ByteArray) (w : World) (hC0 : Kd.C Kd.string w A l.length l) :
    Calls Tryz.prog 165 #[.slice A l.length c, .func (.func 142) #[] #[]] w (FPost l w) := by
  have HC := Aside0.mk hC0
  have hlen := hC0.2.1
  clear hC0
  go_enter Tryz.func165, Tryz.ntmps165
  go_wp2_with fail
  go_loopg [8] l.length (fun gk v8 wr => ∃ k : Nat, k + gk = l.length ∧ v8 = .int .i64 (k : Int) ∧ (l.take k).all isDg = true ∧ Below w.heap.size w wr)
  case atStart => exact ⟨0, by omega, rfl, rfl, Below.refl _ _⟩
  case round =>
    obtain ⟨k, hk, rfl, ha, hb⟩ := hrel
    have HA := Aside0.mk ha
    have HB := Aside0.mk hb
    clear ha hb
    by_cases h : k < l.length
    · have h' : (k : Int) < (l.length : Int) := by omega
      obtain ⟨ad, e0, a0⟩ := Kd.at_string (Kd.C_below HC.out HB.out) (k : Int) (by omega) h'
      subst e0
      rw [rdB_at h, Int.toNat_natCast] at a0
      have HT := Aside0.mk (show (l.take (k + 1)).all isDg = ((l.take k).all isDg && isDg l[k]) by rw [List.take_succ_eq_append_getElem h, List.all_append]; simp)
      have HE := Aside0.mk (List.getElem_mem h)
      generalize l[k] = s at a0 HT HE
      cases hs : isDg s with
      | true =>
        have HS := Aside0.mk hs
        clear hs
        go_wp2_with fail
        refine (notdg s true _ HS.out).mono ?_
        rintro e w' ⟨rfl, hb⟩
        have HB1 := Aside0.mk (below_step HB.out hb)
        clear hb
        go_wp2_with fail
        go_roundg (gk - 1)
        case rel => exact ⟨k + 1, by omega, by go_num, by rw [HT.out, HA.out, HS.out]; rfl, HB1.out⟩
        case measure => omega
      | false =>
        have HS := Aside0.mk hs
        clear hs
        go_wp2_with fail
        refine (notdg s false _ HS.out).mono ?_
        rintro e w' ⟨rfl, hb⟩
        have HB1 := Aside0.mk (below_step HB.out hb)
        clear hb
        go_wp2_with fail
        go_ret
        refine ⟨⟨(k : Int), rfl, ?_⟩, HB1.out⟩
        have : l.all isDg = false := by rw [List.all_eq_false]; exact ⟨s, HE.out, by rw [HS.out]; simp⟩
        rw [this]; simp
    · obtain rfl : k = l.length := by omega
      go_wp2_with fail
      go_ret
      refine ⟨⟨-1, rfl, ?_⟩, HB.out⟩
      have := HA.out
      rw [List.take_length] at this
      rw [this]; rfl
def tree_digests_proper.f (l0 : List ByteArray) : Option Bool := some (l0.all isDg)
theorem contains_walk (A : Option Addr) (c : Nat) (l : List ByteArray) (w : World) (hC0 : Kd.C Kd.string w A l.length l) :
    Calls Tryz.prog 141 #[.slice A l.length c, .func (.func 142) #[] #[]] w fun e w' => e = .returned (.bool (!(l.all isDg))) ∧ Below w.heap.size w w' := by
  have HC := Aside0.mk hC0
  clear hC0
  go_enter Tryz.func141, Tryz.ntmps141
  go_wp2_with fail
  refine (index_walk A c l _ HC.out).mono ?_
  rintro e w' ⟨⟨i, rfl, hi⟩, hb⟩
  have HB := Aside0.mk hb
  have HI := Aside0.mk hi
  clear hb hi
  go_wp2_with fail
  go_ret
  exact ⟨by rw [← HI.out]; rfl, HB.out⟩
theorem tree_digests_proper.calls (A0 : Option Addr) (c0 : Nat) (l0 : List ByteArray) (r : Bool) (w : World) (hr0 : Kd.C Kd.string w A0 l0.length l0) (hc0 : l0.length ≤ c0) (h : tree_digests_proper.f l0 = some r) :
    Calls Tryz.prog 88 #[.slice A0 l0.length c0] w fun e w' => e = .returned (.bool r) ∧ Below w.heap.size w w' := by
  have HC := Aside0.mk hr0
  have hr := Option.some.inj h
  have HR := Aside0.mk hr
  clear hr0 h hr
  go_enter Tryz.func88, Tryz.ntmps88
  go_wp2_with fail
  refine (contains_walk A0 c0 l0 _ HC.out).mono ?_
  rintro e w' ⟨rfl, hb⟩
  have HB := Aside0.mk hb
  clear hb
  go_wp2_with fail
  go_ret
  exact ⟨by rw [← HR.out]; rfl, HB.out⟩
end Go.Proofs.YtddikdpbhjgihaaGreatDoor.X
end
section
namespace Go.Proofs.YtddikdpbhjgihaaGreatDoor.X
open Go.RowKit Go.Proofs.YtddikdpbhjgihaaGreatDoorW.PrintWords Go.Proofs.YtddikdpbhjgihaaGreatDoorW.PrintLast
open ObsMer (half half_of)
set_option linter.unusedVariables false
theorem half_small {n : Nat} (h : n ≤ 1) : half n = 1 := by
  have : n - 1 = 0 := by omega
  unfold half
  rw [this]
  rfl
theorem pow2_w {i : Nat} (h : i ≤ 60) : wrap64 (((2 ^ i : Nat) : Int) * 2) = ((2 ^ (i + 1) : Nat) : Int) ∧ wrap64 (2 * ((2 ^ i : Nat) : Int)) = ((2 ^ (i + 1) : Nat) : Int) := by
  have h1 : 2 ^ i ≤ 2 ^ 60 := Nat.pow_le_pow_right (by decide) h
  have e : 2 ^ (i + 1) = 2 ^ i * 2 := Nat.pow_succ 2 i
  have h2 : (2 : Nat) ^ 60 = 1152921504606846976 := by decide
  rw [e]
  unfold wrap64
  omega
theorem half_l0 (n : Nat) : ∀ (d k i : Nat), n ≤ 2 ^ (i + d) → i = 0 ∨ 2 ^ i < n → d < k → i + d ≤ 60 → tree_half.l0 k (n : Int) ((2 ^ i : Nat) : Int) = some ((half n : Nat) : Int) ∧ observatoryref02_Half.l0 k (n : Int) ((2 ^ i : Nat) : Int) = some ((half n : Nat) : Int) := by
  intro d
  induction d with
  | zero =>
    intro k i h1 h2 h3 h4
    obtain ⟨k, rfl⟩ : ∃ q, k = q + 1 := ⟨k - 1, by omega⟩
    have hp := pow2_w (i := i) (by omega)
    have hi : i = 0 := by
      rcases h2 with h2 | h2
      · exact h2
      · rw [Nat.add_zero] at h1; omega
    subst hi
    have hn : n ≤ 1 := h1
    simp only [tree_half.l0, observatoryref02_Half.l0]
    rw [hp.1, hp.2, half_small hn, if_neg (by simp; omega), if_neg (by simp; omega)]
    exact ⟨rfl, rfl⟩
  | succ d ih =>
    intro k i h1 h2 h3 h4
    obtain ⟨k, rfl⟩ : ∃ q, k = q + 1 := ⟨k - 1, by omega⟩
    have hp := pow2_w (i := i) (by omega)
    simp only [tree_half.l0, observatoryref02_Half.l0]
    rw [hp.1, hp.2]
    by_cases hc : 2 ^ (i + 1) < n
    · rw [if_pos (by omega), if_pos (by omega)]
      exact ih k (i + 1) (by rw [show i + 1 + d = i + (d + 1) by omega]; exact h1) (.inr hc) (by omega) (by omega)
    · rw [if_neg (by omega), if_neg (by omega)]
      have e : half n = 2 ^ i := by
        rcases h2 with h2 | h2
        · subst h2
          by_cases h5 : n ≤ 1
          · rw [half_small h5]
          · exact half_of (i := 0) (by show 1 < n; omega) (Nat.le_of_not_lt hc)
        · exact half_of h2 (Nat.le_of_not_lt hc)
      rw [e]
      exact ⟨rfl, rfl⟩
theorem half_eq {k n : Nat} (hk : 61 ≤ k) (hn : n ≤ 1152921504606846976) : tree_half.f k (n : Int) = some ((half n : Nat) : Int) := by
  have := (half_l0 n 60 k 0 (by rw [Nat.zero_add]; exact hn) (.inl rfl) (by omega) (by omega)).1
  exact this
theorem Half_eq {k n : Nat} (hk : 61 ≤ k) (hn : n ≤ 1152921504606846976) : observatoryref02_Half.f k (n : Int) = some ((half n : Nat) : Int) := by
  have := (half_l0 n 60 k 0 (by rw [Nat.zero_add]; exact hn) (.inl rfl) (by omega) (by omega)).2
  exact this
end Go.Proofs.YtddikdpbhjgihaaGreatDoor.X
end
section
namespace Go.Proofs.YtddikdpbhjgihaaGreatDoor.X
open Go.RowKit Go.Proofs.YtddikdpbhjgihaaGreatDoorW.PrintWords Go.Proofs.YtddikdpbhjgihaaGreatDoorW.PrintLast Go.Proofs.YtddikdpbhjgihaaGreatDoorW.PrintMore
set_option linter.unusedVariables false
set_option linter.unusedSimpArgs false
theorem C_litI {w : World} {b : Nat} (l : List Int) {t : TypeId} {fz : Nat × Nat} (h : w.heap[b]? = some (.cells (l.map (Value.int .i64)).toArray t fz)) (hl : l.length ≤ 9223372036854775807) : Kd.C (Kd.int .i64) w (some ⟨b, 0, none⟩) l.length l := by
  refine ⟨rfl, hl, fun _ => ⟨_, rfl, fun j p hj => ⟨[.int .i64 p], rfl, rfl, fun i u hu => ?_⟩⟩⟩
  rw [add_plain]
  match i, hu with
  | 0, hu =>
    simp at hu; subst hu
    show w.cell? ⟨b, j * 1 + 0, none⟩ = _
    simp [World.cell?, h, hj]
theorem heap_last (w : World) (o : Obj) : (w.alloc o).heap[w.heap.size]? = some o := by show (w.heap.push o)[w.heap.size]? = _; rw [Array.getElem?_push_size]
end Go.Proofs.YtddikdpbhjgihaaGreatDoor.X
end
section
namespace Go.Proofs.YtddikdpbhjgihaaGreatDoor.X
open Go.RowKit Go.Proofs.YtddikdpbhjgihaaGreatDoorW.PrintWords Go.Proofs.YtddikdpbhjgihaaGreatDoorW.PrintLast Go.Proofs.YtddikdpbhjgihaaGreatDoorW.PrintMore
open ObsMer (joined toL half root nodeT leafT emptyT)
set_option linter.unusedVariables false
set_option linter.unusedSimpArgs false
def okB (l : List ByteArray) : Bool := decide (l.length ≤ 1000000) && l.all (fun s => decide (s.size ≤ 1000))
theorem okB_take {l : List ByteArray} (h : okB l = true) (k : Nat) : okB (l.take k) = true := by
  unfold okB at h ⊢
  rw [Bool.and_eq_true, decide_eq_true_eq, List.all_eq_true] at h ⊢
  exact ⟨by rw [List.length_take]; omega, fun s hs => h.2 s (List.mem_of_mem_take hs)⟩
theorem okB_drop {l : List ByteArray} (h : okB l = true) (k : Nat) : okB (l.drop k) = true := by
  unfold okB at h ⊢
  rw [Bool.and_eq_true, decide_eq_true_eq, List.all_eq_true] at h ⊢
  exact ⟨by rw [List.length_drop]; omega, fun s hs => h.2 s (List.mem_of_mem_drop hs)⟩
theorem okB_mem {l : List ByteArray} (h : okB l = true) {s : ByteArray} (hs : s ∈ l) : s.size ≤ 1000 := by
  unfold okB at h
  rw [Bool.and_eq_true, List.all_eq_true] at h
  exact of_decide_eq_true (h.2 s hs)
theorem okB_len {l : List ByteArray} (h : okB l = true) : l.length ≤ 1000000 := by
  unfold okB at h
  rw [Bool.and_eq_true] at h
  exact of_decide_eq_true h.1
theorem joined_size : ∀ (l : List ByteArray), (∀ s ∈ l, s.size ≤ 1000) → (joined l).size ≤ l.length * 1100
  | [], _ => by simp [joined]
  | s :: l, h => by
    have ih := joined_size l (fun x hx => h x (List.mem_cons_of_mem _ hx))
    have hs := h s List.mem_cons_self
    have hi := Go.Lib.itoa_length_le (s.size : Int) (by omega) (by omega)
    rw [← ObsMer.toL_length, ObsMer.toL_joined, List.length_append, List.length_cons, List.length_append, ObsMer.toL_length, ObsMer.toL_length, List.length_cons]
    omega
theorem root_size {l : List ByteArray} (h : okB l = true) (h1 : 1 ≤ l.length) : (root sumF l).size ≤ 1000 := by
  by_cases h2 : l.length = 1
  · match l, h2 with
    | [a], _ => rw [ObsMer.root_one]; exact okB_mem h (by simp)
  · rw [ObsMer.root_two sumF (by omega), sumF_size]; omega
theorem node_ok {a b : ByteArray} (ha : a.size ≤ 1000) (hb : b.size ≤ 1000) : tree_node.f a b = some (sumF (nodeT a b)) := by
  unfold tree_node.f
  rw [List_ok, Option.bind_some]
  · rfl
  · have := joined_size [⟨#[110, 111, 100, 101]⟩, a, b] (by
      intro s hs
      simp only [List.mem_cons, List.not_mem_nil, or_false] at hs
      rcases hs with rfl | rfl | rfl
      · decide
      · exact ha
      · exact hb)
    simp only [List.length_cons, List.length_nil] at this
    omega
theorem cell_lt {w : World} {b o : Nat} {v : Value} (h : w.cell? ⟨b, o, none⟩ = some v) : b < w.heap.size := World.block_lt_of_cell? w _ h
set_option maxRecDepth 100000 in
set_option maxHeartbeats 1000000 in
theorem sum_any (b : Nat) : ∀ (d : Nat) (A : Option Addr) (c : Nat) (l : List ByteArray) (w : World), l.length ≤ d → 1 ≤ l.length → okB l = true → Kd.C Kd.string w A l.length l → l.length ≤ c → GL w →
    w.cell? ⟨b, 0, none⟩ = some (.func (.func 143) #[] #[.pointer (some ⟨b, 0, none⟩)]) →
    Calls Tryz.prog 143 #[.slice A l.length c, .pointer (some ⟨b, 0, none⟩)] w fun e w' => e = .returned (.string (root sumF l)) ∧ Below w.heap.size w w' := by
  intro d
  induction d with
  | zero => intro A c l w h1 h2; omega
  | succ d ih =>
    intro A c l w h1 h2 hok hC hc hgl hcell
    by_cases h3 : l.length = 1
    · obtain ⟨ad, e0, a0⟩ := Kd.at_string hC 0 (by omega) (by omega)
      subst e0
      have e1 : rdOf ByteArray.empty l 0 = root sumF l := by
        match l, h3 with
        | [a], _ => rw [ObsMer.root_one]; rfl
      rw [show Int.toNat 0 = 0 from rfl, Addr.add_zero', e1] at a0
      have h3' : ((l.length : Int) == 1) = true := by rw [h3]; rfl
      have h0 : (0 < l.length) = True := eq_true (by omega)
      have h0' : ((0 : Int) < (l.length : Int)) = True := eq_true (by omega)
      clear hC hgl hcell ih e1 h3 h1
      go_enter Tryz.func143, Tryz.ntmps143
      go_wp2_with fail
      go_ret
      exact ⟨rfl, Below.refl _ _⟩
    · have h3' : ((l.length : Int) == 1) = false := beq_eq_false_iff_ne.2 (by omega)
      have hh := half_eq (k := 100) (n := l.length) (by omega) (by have := okB_len hok; omega)
      have hl := ObsMer.half_lt (n := l.length) (by omega)
      have hp := ObsMer.half_pos l.length
      have hr := ObsMer.root_two sumF (l := l) (by omega)
      generalize half l.length = k at hh hl hp hr
      have HH := Aside0.mk hh
      have HR := Aside0.mk hr
      have ht : (l.take k).length = k := by rw [List.length_take]; omega
      have hd : (l.drop k).length = l.length - k := by rw [List.length_drop]
      obtain ⟨i016, hi016, _, hsz16, _⟩ := info_parts info9
      obtain ⟨hcut1, hA1, hc1⟩ := print_take_of (P := Tryz.prog) Value.string (⟨#[]⟩ : ByteArray) 26 9 .i64 Tryz.underlying26 hi016 hsz16 A c l (k : Int) (by omega) (by omega) hc
      obtain ⟨A2, hcut2, hA2, hc2⟩ := print_drop_of (P := Tryz.prog) Value.string (⟨#[]⟩ : ByteArray) 26 9 .i64 Tryz.underlying26 hi016 hsz16 A c l (k : Int) (by omega) (by omega) hc
      rw [Int.toNat_natCast] at hcut1 hA1 hc1 hcut2 hA2 hc2
      have C1 := Aside0.mk (Kd.C_of_reads (h1 := fun _ => rfl) (hA1 _ (Kd.reads_of_C hC)) : Kd.C Kd.string w A (l.take k).length (l.take k))
      have C2 := Aside0.mk (Kd.C_of_reads (h1 := fun _ => rfl) (hA2 _ (Kd.reads_of_C hC)) : Kd.C Kd.string w A2 (l.drop k).length (l.drop k))
      have L1 := Aside0.mk hc1
      have L2 := Aside0.mk hc2
      have I1 : Aside0 (∀ (w1 : World), Below w.heap.size w w1 → Calls Tryz.prog 143 #[.slice A (k : Nat) c, .pointer (some ⟨b, 0, none⟩)] w1 fun e w' => e = .returned (.string (root sumF (l.take k))) ∧ Below w1.heap.size w1 w') := ⟨fun w1 hb => by
        have := ih A c (l.take k) w1 (by omega) (by omega) (okB_take hok k) (Kd.C_below C1.out hb) L1.out (hgl.below hb) (by rw [hb.cell (p := ⟨b, 0, none⟩) (cell_lt hcell)]; exact hcell)
        rw [ht] at this; exact this⟩
      have I2 : Aside0 (∀ (w1 : World), Below w.heap.size w w1 → Calls Tryz.prog 143 #[.slice A2 (l.length - k) (c - k), .pointer (some ⟨b, 0, none⟩)] w1 fun e w' => e = .returned (.string (root sumF (l.drop k))) ∧ Below w1.heap.size w1 w') := ⟨fun w1 hb => by
        have := ih A2 (c - k) (l.drop k) w1 (by omega) (by omega) (okB_drop hok k) (Kd.C_below C2.out hb) L2.out (hgl.below hb) (by rw [hb.cell (p := ⟨b, 0, none⟩) (cell_lt hcell)]; exact hcell)
        rw [hd] at this; exact this⟩
      rw [ht] at hcut1
      rw [hd] at hcut2
      have hn := node_ok (root_size (okB_take hok k) (by omega)) (root_size (okB_drop hok k) (by omega))
      have HN := Aside0.mk hn
      have HGL := Aside0.mk hgl
      have hlt := cell_lt hcell
      clear ih hC hgl hA1 hA2 hc1 hc2 hi016 hsz16 hh hr h3 hn hok h1 h2 ht hd
      go_enter Tryz.func143, Tryz.ntmps143
      go_wp2_with fail
      refine (tree_half.calls 100 _ _ _ HH.out).mono ?_
      rintro e w' ⟨rfl, ⟨nd, rfl⟩⟩
      go_wp2_with fail
      have HB0 := Aside0.mk (pw_below_drewN (Below.refl w.heap.size w) nd)
      have hc0 : (w.drewN nd).cell? ⟨b, 0, none⟩ = some (.func (.func 143) #[] #[.pointer (some ⟨b, 0, none⟩)]) := hcell
      have HC0 := Aside0.mk hcell
      clear hcell
      generalize w.drewN nd = w0 at HB0 hc0
      have tok1 : True := trivial
      have tok2 : True := trivial
      go_region_held3 (fun w' => w'.cell? ⟨b, 0, none⟩ = some (.func (.func 143) #[] #[.pointer (some ⟨b, 0, none⟩)])) (first | go_keep | exact hc1 | exact hc2 | exact hc3)
        (first | (go_at_call 143; have _t := tok1; refine (I1.out _ (by repeat (first | exact HB0.out | apply pw_below_drewN | apply below_drew1))).mono ?_; rintro e w1 ⟨rfl, hb⟩; have HB1 := Aside0.mk (below_step (by repeat (first | exact HB0.out | apply pw_below_drewN | apply below_drew1)) hb); have hc1 := (HB1.out.cell (p := ⟨b, 0, none⟩) hlt).trans HC0.out; clear hb tok1) | (go_at_call 143; have _t := tok2; refine (I2.out _ (by repeat (first | exact HB1.out | apply pw_below_drewN | apply below_drew1))).mono ?_; rintro e w2 ⟨rfl, hb⟩; have HB2 := Aside0.mk (below_step (by repeat (first | exact HB1.out | apply pw_below_drewN | apply below_drew1)) hb); have hc2 := (HB2.out.cell (p := ⟨b, 0, none⟩) hlt).trans HC0.out; clear hb tok2) | (go_at_call 138; refine (tree_node.calls _ _ _ _ (HGL.out.below (by repeat (first | exact HB2.out | apply pw_below_drewN | apply below_drew1))) HN.out).mono ?_; rintro e w3 ⟨rfl, hb⟩; have HB3 := Aside0.mk (below_step (by repeat (first | exact HB2.out | apply pw_below_drewN | apply below_drew1)) hb); have hc3 := (HB3.out.cell (p := ⟨b, 0, none⟩) hlt).trans HC0.out; clear hb))
      all_goals (go_wp2_with fail; go_ret; exact ⟨by rw [HR.out]; rfl, HB3.out⟩)
theorem C_litS {w : World} {b : Nat} (l : List ByteArray) {t : TypeId} {fz : Nat × Nat} (h : w.heap[b]? = some (.cells (l.map Value.string).toArray t fz)) (hl : l.length ≤ 9223372036854775807) : Kd.C Kd.string w (some ⟨b, 0, none⟩) l.length l := by
  refine ⟨rfl, hl, fun _ => ⟨_, rfl, fun j p hj => ⟨[.string p], rfl, rfl, fun i u hu => ?_⟩⟩⟩
  rw [add_plain]
  match i, hu with
  | 0, hu =>
    simp at hu; subst hu
    show w.cell? ⟨b, j * 1 + 0, none⟩ = _
    simp [World.cell?, h, hj]
def tree_total.f (l0 : List ByteArray) : Option ByteArray := if okB l0 = true then some (root sumF l0) else none
set_option maxRecDepth 100000 in
set_option maxHeartbeats 1000000 in
theorem total_walk (A : Option Addr) (c : Nat) (l : List ByteArray) (w : World) (hC : Kd.C Kd.string w A l.length l) (hc : l.length ≤ c) (hgl : GL w) (hok : okB l = true) :
    Calls Tryz.prog 90 #[.slice A l.length c] w fun e w' => e = .returned (.string (root sumF l)) ∧ Below w.heap.size w w' := by
  have HC := Aside0.mk hC
  have HGL := Aside0.mk hgl
  have HOK := Aside0.mk hok
  have HB0 := Aside0.mk (Below.refl w.heap.size w)
  clear hC hgl hok
  by_cases h0 : l.length = 0
  · obtain rfl : l = [] := List.eq_nil_of_length_eq_zero h0
    have HR := Aside0.mk (ObsMer.root_nil sumF)
    have HL := Aside0.mk (List_ok (l := [⟨#[101, 109, 112, 116, 121]⟩]) (by decide +kernel))
    go_enter Tryz.func90, Tryz.ntmps90
    go_wp2_with fail
    refine (digest_List.calls _ 1 [⟨#[101, 109, 112, 116, 121]⟩] _ _ (C_litS [⟨#[101, 109, 112, 116, 121]⟩] (heap_alloc2_new _ _ _) (by simp)) (by simp) (HGL.out.below (by repeat (first | exact HB0.out | apply below_alloc))) HL.out).mono ?_
    rintro e w1 ⟨rfl, hb⟩
    have HB := Aside0.mk (below_step (by repeat (first | exact HB0.out | apply below_alloc)) hb)
    clear hb
    go_wp2_with fail
    go_ret
    exact ⟨by rw [HR.out]; rfl, HB.out⟩
  · have h0' : ((l.length : Int) == 0) = false := beq_eq_false_iff_ne.2 (by omega)
    have H1 := Aside0.mk (show 1 ≤ l.length by omega)
    clear h0
    go_enter Tryz.func90, Tryz.ntmps90
    go_wp2_with fail
    refine (sum_any w.heap.size l.length A c l _ (Nat.le_refl _) H1.out HOK.out (Kd.C_below HC.out (by repeat (first | exact HB0.out | apply below_alloc))) hc (HGL.out.below (by repeat (first | exact HB0.out | apply below_alloc))) (cell_of_row _ _ 0 _ _ _ (heap_last w _))).mono ?_
    rintro e w1 ⟨rfl, hb⟩
    have HB := Aside0.mk (below_step (by repeat (first | exact HB0.out | apply below_alloc)) hb)
    clear hb
    go_wp2_with fail
    go_ret
    exact ⟨rfl, HB.out⟩
theorem tree_total.calls (A0 : Option Addr) (c0 : Nat) (l0 : List ByteArray) (r : ByteArray) (w : World) (hr0 : Kd.C Kd.string w A0 l0.length l0) (hc0 : l0.length ≤ c0) (hgl : GL w) (h : tree_total.f l0 = some r) :
    Calls Tryz.prog 90 #[.slice A0 l0.length c0] w fun e w' => e = .returned (.string r) ∧ Below w.heap.size w w' := by
  unfold tree_total.f at h
  split at h
  · rename_i hs
    have e := Option.some.inj h
    subst e
    exact total_walk A0 c0 l0 w hr0 hc0 hgl hs
  · cases h
end Go.Proofs.YtddikdpbhjgihaaGreatDoor.X
end
