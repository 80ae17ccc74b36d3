import Derived.Test.YtddikdpbhjgihaaGreatDoorSM13
import Derived.Test.YtddikdpbhjgihaaGreatDoorSM06
import Derived.Laws.Bits64b
import Derived.Test.YtddikdpbhjgihaaGreatDoorSM10
import Derived.Lib.BufferWrite
import Derived.Outline
import Derived.Deep.RegionLaw
import Derived.Laws.Rows
import Derived.Deep.WholeRow
import Derived.Shelf.Strings.SlTrimAscii
import Derived.Lib.ItoaNum
import Derived.Test.YtddikdpbhjgihaaGreatDoorSM11
import Derived.Lib.ItoaLen
import Derived.Lib.Builder
import Derived.Lib.AppendStr
section
namespace Go.Proofs.YtddikdpbhjgihaaGreatDoor.X
open Go.RowKit Go.Proofs.YtddikdpbhjgihaaGreatDoorW.PrintWords Go.Proofs.YtddikdpbhjgihaaGreatDoorW.PrintLast Go.Proofs.YtddikdpbhjgihaaGreatDoorW.PrintMore
set_option linter.unusedVariables false
set_option linter.unusedSimpArgs false
theorem tz16 (w : World) (hgl : GL w) : Calls Tryz.prog 223 #[.int .u64 16] w fun e w' => e = .returned (.int .i64 4) ∧ Drawn0 w w' := by
  have e : (IntKind.u64.wrap (Go.bits BinOp.and IntKind.u64 16 (IntKind.u64.wrap (-16)) * 285870213051353865) / 288230376151711744).toNat = 15 := by decide +kernel
  have hc : w.cell? ⟨7, (IntKind.u64.wrap (Go.bits BinOp.and IntKind.u64 16 (IntKind.u64.wrap (-16)) * 285870213051353865) / 288230376151711744).toNat, none⟩ = some (.int .u8 4) := by
    rw [e]; exact Lib.TabIs.cell hgl.de.here (by kernel_rfl) 15 (by decide)
  have hb : 0 ≤ IntKind.u64.wrap (Go.bits BinOp.and IntKind.u64 16 (IntKind.u64.wrap (-16)) * 285870213051353865) / 288230376151711744 ∧ IntKind.u64.wrap (Go.bits BinOp.and IntKind.u64 16 (IntKind.u64.wrap (-16)) * 285870213051353865) / 288230376151711744 < 64 := by decide +kernel
  clear e
  go_enter Tryz.func223, Tryz.ntmps223
  go_wp2_with fail
  go_ret
  exact ⟨rfl, 0, rfl⟩
theorem tzs16 (w : World) (hgl : GL w) : Calls Tryz.prog 214 #[.int .u64 16] w fun e w' => e = .returned (.int .i64 4) ∧ Drawn0 w w' := by
  have HG := Aside0.mk hgl
  clear hgl
  go_enter Tryz.func214, Tryz.ntmps214
  go_wp2_with (go_at_call 223; refine (tz16 _ HG.out).mono ?_; rintro e w' ⟨rfl, ⟨nd, rfl⟩⟩)
  go_ret
  exact ⟨rfl, _, rfl⟩
theorem pow2_16 (w : World) : Calls Tryz.prog 213 #[.int .i64 16] w fun e w' => e = .returned (.bool true) ∧ Drawn0 w w' := by
  have hb : Go.bits BinOp.and IntKind.i64 16 15 = 0 := by decide +kernel
  go_enter Tryz.func213, Tryz.ntmps213
  go_wp2_with fail
  go_ret
  exact ⟨rfl, 0, rfl⟩
def hexd (d : Nat) : Int := if d < 10 then 48 + (d : Int) else 87 + (d : Int)
def digitsS : ByteArray := ⟨#[48, 49, 50, 51, 52, 53, 54, 55, 56, 57, 97, 98, 99, 100, 101, 102, 103, 104, 105, 106, 107, 108, 109, 110, 111, 112, 113, 114, 115, 116, 117, 118, 119, 120, 121, 122]⟩
theorem hexd_eq (d : Nat) (hd : d < 16) (h : d < digitsS.size) : ((digitsS[d]'h).toNat : Int) = hexd d := by
  have : d = 0 ∨ d = 1 ∨ d = 2 ∨ d = 3 ∨ d = 4 ∨ d = 5 ∨ d = 6 ∨ d = 7 ∨ d = 8 ∨ d = 9 ∨ d = 10 ∨ d = 11 ∨ d = 12 ∨ d = 13 ∨ d = 14 ∨ d = 15 := by omega
  rcases this with h | h | h | h | h | h | h | h | h | h | h | h | h | h | h | h <;> subst h <;> rfl
theorem pow_le15 {u t : Nat} (hu : u < 18446744073709551616) (h : 16 ≤ u / 16 ^ t) : t ≤ 14 := by
  refine Classical.byContradiction fun hn => ?_
  have h1 : 16 ^ 15 ≤ 16 ^ t := Nat.pow_le_pow_right (by decide) (by omega)
  have h2 : 16 * 16 ^ t ≤ u := by
    have := Nat.div_mul_le_self u (16 ^ t)
    have h3 : 16 * 16 ^ t ≤ u / 16 ^ t * 16 ^ t := Nat.mul_le_mul_right _ h
    omega
  omega
theorem and15 (u : Nat) (hu : u < 18446744073709551616) : Go.bits BinOp.and IntKind.u64 (u : Int) 15 = ((u % 16 : Nat) : Int) := by
  have h := bits_and_u64_nat u 15 hu (by decide)
  rw [show ((15 : Nat) : Int) = 15 from rfl] at h
  rw [h, show (15 : Nat) = 2 ^ 4 - 1 from rfl, Nat.and_two_pow_sub_one_eq_mod]
theorem run_cut237 (w : World) (b q : Nat) (hq : q < 65) : (Instr.sliceAt 237 (.pointer (some ⟨b, 0, none⟩)) (some (.int .i64 (q : Int))) none none).run Tryz.prog w = .ok (.slice (some ⟨b, q, none⟩) (65 - q) (65 - q)) w := by
  have h237 := Tryz.underlying237
  have h1 : (q : Int) ≤ 65 := by omega
  have h2 : ¬ (65 = q) := by omega
  unfold Instr.sliceAt
  go_simp
def hexL (u t : Nat) : List Int := (List.range (t + 1)).map (fun i => hexd (u / 16 ^ (t - i) % 16))
structure HI (u : Nat) (w wr : World) (t : Nat) : Prop where
  bl : Below w.heap.size w wr
  bk : ∃ arr, wr.heap[w.heap.size]? = some (.cells arr 237 (0, 0)) ∧ arr.size = 65 ∧ ∀ j, j < t → arr[64 - j]? = some (.int .u8 (hexd (u / 16 ^ j % 16)))
set_option maxRecDepth 100000 in
set_option maxHeartbeats 1000000 in
theorem fmtbits16 (u : Nat) (hu : u < 18446744073709551616) (w : World) (hgl : GL w) :
    Calls Tryz.prog 196 #[.slice none 0 0, .int .u64 (u : Int), .int .i64 16, .bool false, .bool false] w fun e w' => ∃ t, t ≤ 15 ∧ u / 16 ^ t < 16 ∧ e = .returned (.tuple #[.slice none 0 0, .string (strOfNums (hexL u t))]) ∧ Below w.heap.size w w' := by
  have HG := Aside0.mk hgl
  clear hgl
  go_enter Tryz.func196, Tryz.ntmps196
  go_wp2_with fail
  refine (pow2_16 _).mono ?_
  rintro e w1 ⟨rfl, ⟨n1, rfl⟩⟩
  go_wp2_with fail
  refine (tzs16 _ (GL.below HG.out (by repeat (first | exact Below.refl _ _ | apply below_alloc | apply pw_below_drewN)))).mono ?_
  rintro e w1 ⟨rfl, ⟨n2, rfl⟩⟩
  go_wp2_with fail
  go_loopg [1, 13] 15 (fun g v1 v13 wr => ∃ t q : Nat, t + g = 15 ∧ q + t = 64 ∧ v1 = .int .u64 ((u / 16 ^ t : Nat) : Int) ∧ v13 = .int .i64 ((q : Int) + 1) ∧ HI u w wr t)
  case atStart =>
    refine ⟨0, 64, by omega, by omega, by simp, rfl, pw_below_drewN (Below.alloc (Below.refl _ _) (Nat.le_refl _) _) _, ?_⟩
    exact ⟨Tryz.zeroCells237, by show (w.heap.push _)[w.heap.size]? = _; rw [Array.getElem?_push_size], by kernel_rfl, fun j hj => by omega⟩
  case round =>
    obtain ⟨t, q, ht, hq, rfl, rfl, hI⟩ := hrel
    obtain ⟨arr, hb, hs, hd⟩ := hI.bk
    have HB := Aside0.mk hI.bl
    have HD := Aside0.mk hd
    have HBK := Aside0.mk hb
    clear hI hd
    obtain ⟨U, hU⟩ : ∃ U, U = u / 16 ^ t := ⟨_, rfl⟩
    rw [← hU]
    have HU := Aside0.mk hU
    have hU64 : U < 18446744073709551616 := by rw [hU]; exact Nat.lt_of_le_of_lt (Nat.div_le_self _ _) hu
    clear hU
    have hq65 : q < 65 := by omega
    have c1 := cell_of_row wr _ q _ _ _ hb
    rw [Array.getElem?_eq_getElem (by omega)] at c1
    have f1 := frozen_of_row wr _ q _ _ hb
    clear hb
    by_cases h16 : 16 ≤ U
    · have h16' : (16 : Int) ≤ (U : Int) := by omega
      have ha := and15 U hU64
      have hx := hexd_eq (U % 16) (by omega) (show U % 16 < 36 by omega)
      unfold digitsS at hx
      have HX := Aside0.mk hx
      clear hx
      have HT := Aside0.mk (pow_le15 (t := t) hu (by rw [← HU.out]; exact h16))
      go_wp2_with fail
      rw [HX.out]
      go_roundg (gk - 1)
      case rel =>
        have := HT.out
        refine ⟨t + 1, q - 1, by omega, by omega, ?_, ?_, HB.out.setCell (Nat.le_refl _) _, arr.setIfInBounds q _, heap_setCell_same _ _ _ _ _ _ HBK.out, by simpa using hs, ?_⟩
        · rw [Nat.pow_succ, ← Nat.div_div_eq_div_mul, ← HU.out]; rfl
        · congr 1; omega
        · intro j hj
          rw [Array.getElem?_setIfInBounds]
          by_cases h : q = 64 - j
          · have : j = t := by omega
            subst this
            rw [if_pos h, if_pos (by omega), HU.out]
          · rw [if_neg h]
            exact HD.out j (by omega)
      case measure => have := HT.out; omega
    · have h16' : ¬ (16 : Int) ≤ (U : Int) := by omega
      have hx := hexd_eq U (by omega) (show U < 36 by omega)
      unfold digitsS at hx
      have HX := Aside0.mk hx
      clear hx
      have HT := Aside0.mk (show t ≤ 15 by omega)
      go_wp2_with fail
      rw [HX.out, run_cut237 _ _ _ hq65]
      go_wp2_with fail
      rw [run_convert_bytes_arg _ 110 5 Tryz.underlying110 Tryz.underlying5 w.heap.size q (65 - q) (65 - q) (hexL u t) (by simp [hexL]; omega) (fun i hi => ?cells) 9 Tryz.underlying9]
      case cells =>
        rw [cell_of_row _ _ _ _ _ _ (heap_setCell_same _ _ _ _ _ _ HBK.out), Array.getElem?_setIfInBounds]
        have e : (hexL u t).getD i 0 = hexd (u / 16 ^ (t - i) % 16) := by
          simp only [hexL, List.getD_eq_getElem?_getD, List.getElem?_map]
          rw [List.getElem?_range (by omega)]
          rfl
        rw [e]
        by_cases h : i = 0
        · subst h
          rw [if_pos (by omega), if_pos (by omega), Nat.sub_zero, ← HU.out, Nat.mod_eq_of_lt (by omega)]
        · rw [if_neg (by omega), show q + i = 64 - (t - i) by omega]
          exact HD.out (t - i) (by omega)
      go_wp2_with fail
      go_ret2
      exact ⟨t, HT.out, by rw [← HU.out]; omega, rfl, HB.out.setCell (Nat.le_refl _) _⟩
theorem fmtI16 (u : Nat) (hu : u < 18446744073709551616) (w : World) (hgl : GL w) :
    Calls Tryz.prog 188 #[.int .u64 (u : Int), .int .i64 16] w fun e w' => ∃ t, t ≤ 15 ∧ u / 16 ^ t < 16 ∧ e = .returned (.string (strOfNums (hexL u t))) ∧ Below w.heap.size w w' := by
  have HG := Aside0.mk hgl
  clear hgl
  go_enter Tryz.func188, Tryz.ntmps188
  go_wp2_with (go_at_call 196; refine (fmtbits16 u hu _ HG.out).mono ?_; rintro e w' ⟨t, h1, h2, rfl, hb⟩; have H1 := Aside0.mk h1; have H2 := Aside0.mk h2; have HB := Aside0.mk hb; clear h1 h2 hb)
  go_ret
  exact ⟨t, H1.out, H2.out, rfl, HB.out⟩
theorem fmtU16 (u : Nat) (hu : u < 18446744073709551616) (w : World) (hgl : GL w) :
    Calls Tryz.prog 178 #[.int .u64 (u : Int), .int .i64 16] w fun e w' => ∃ t, t ≤ 15 ∧ u / 16 ^ t < 16 ∧ e = .returned (.string (strOfNums (hexL u t))) ∧ Below w.heap.size w w' := by
  have HG := Aside0.mk hgl
  clear hgl
  go_enter Tryz.func178, Tryz.ntmps178
  go_wp2_with (go_at_call 188; refine (fmtI16 u hu _ HG.out).mono ?_; rintro e w' ⟨t, h1, h2, rfl, hb⟩; have H1 := Aside0.mk h1; have H2 := Aside0.mk h2; have HB := Aside0.mk hb; clear h1 h2 hb)
  go_ret
  exact ⟨t, H1.out, H2.out, rfl, HB.out⟩
end Go.Proofs.YtddikdpbhjgihaaGreatDoor.X
end
section
namespace Go.Proofs.YtddikdpbhjgihaaGreatDoor.X
open Go.RowKit Go.Proofs.YtddikdpbhjgihaaGreatDoorW.PrintWords Go.Proofs.YtddikdpbhjgihaaGreatDoorW.PrintLast Go.Proofs.YtddikdpbhjgihaaGreatDoorW.PrintMore
set_option linter.unusedVariables false
set_option linter.unusedSimpArgs false
def hasP (s p : ByteArray) : Bool := (s.extract 0 p.size).toList == p.toList
set_option maxRecDepth 100000 in
theorem hasP_in (s p : ByteArray) (w : World) (h1 : p.size ≤ s.size) (hm : s.size ≤ 1000) : Calls Tryz.prog 208 #[.string s, .string p] w fun e w' => e = .returned (.bool (hasP s p)) ∧ Drawn0 w w' := by
  have h1' : (p.size : Int) ≤ (s.size : Int) := by omega
  go_enter Tryz.func208, Tryz.ntmps208
  go_wp2_with fail
  go_ret
  exact ⟨rfl, 0, rfl⟩
theorem hasP_val (b : Bool) (s p : ByteArray) (w : World) {Q : Ending → World → Prop} (h1 : p.size ≤ s.size) (hm : s.size ≤ 1000) (hb : hasP s p = b)
    (hc : ∀ (s p : ByteArray) (w : World), p.size ≤ s.size → s.size ≤ 1000 → Calls Tryz.prog 190 #[.string s, .string p] w fun e w' => e = .returned (.bool (hasP s p)) ∧ Drawn0 w w')
    (hq : ∀ nd, Q (.returned (.bool b)) (w.drewN nd)) : Calls Tryz.prog 190 #[.string s, .string p] w Q := by
  refine (hc s p w h1 hm).mono ?_
  rintro e w' ⟨rfl, ⟨nd, rfl⟩⟩
  rw [hb]
  exact hq nd
theorem hasP_out (s p : ByteArray) (w : World) (h1 : p.size ≤ s.size) (hm : s.size ≤ 1000) : Calls Tryz.prog 190 #[.string s, .string p] w fun e w' => e = .returned (.bool (hasP s p)) ∧ Drawn0 w w' := by
  go_enter Tryz.func190, Tryz.ntmps190
  go_wp2_with (go_at_call 208; refine (hasP_in s p _ h1 hm).mono ?_; rintro e w' ⟨rfl, ⟨nd, rfl⟩⟩)
  go_ret
  exact ⟨rfl, _, rfl⟩
set_option maxRecDepth 100000 in
set_option maxHeartbeats 1000000 in
theorem rep0 (n : Nat) (hn : 2 ≤ n) (h16 : n ≤ 16) (w : World) : Calls Tryz.prog 179 #[.string ⟨#[48]⟩, .int .i64 (n : Int)] w fun e w' => e = .returned (.string ⟨Array.replicate n 48⟩) ∧ Drawn0 w w' := by
  have h0 : ¬ ((n : Int) = 0) := by omega
  have h1 : ¬ ((n : Int) = 1) := by omega
  have h2 : ¬ ((n : Int) < 0) := by omega
  have e1 : 1 * n / 18446744073709551616 = 0 := by omega
  have e2 : 1 * n % 18446744073709551616 = n := by omega
  go_enter Tryz.func179, Tryz.ntmps179
  have hM := Tryz.bits_Mul 1 n (by decide) (by omega) w
  rw [e1, e2] at hM
  have HM := Aside0.mk hM
  clear hM e1 e2
  go_wp2_with fail
  refine HM.out.mono ?_
  rintro e w' ⟨rfl, rfl⟩
  go_wp2_with fail
  refine hasP_val false _ _ _ (by decide +kernel) (by decide +kernel) (by decide +kernel) hasP_out (fun nd => ?_)
  go_wp2_with fail
  refine hasP_val false _ _ _ (by decide +kernel) (by decide +kernel) (by decide +kernel) hasP_out (fun nd => ?_)
  go_wp2_with fail
  refine hasP_val true _ _ _ (by decide +kernel) (by decide +kernel) (by decide +kernel) hasP_out (fun nd => ?_)
  go_wp2_with fail
  go_ret
  refine ⟨?_, _, rfl⟩
  have hc : n = 2 ∨ n = 3 ∨ n = 4 ∨ n = 5 ∨ n = 6 ∨ n = 7 ∨ n = 8 ∨ n = 9 ∨ n = 10 ∨ n = 11 ∨ n = 12 ∨ n = 13 ∨ n = 14 ∨ n = 15 ∨ n = 16 := by omega
  rcases hc with h | h | h | h | h | h | h | h | h | h | h | h | h | h | h <;> subst h <;> rfl
set_option maxRecDepth 100000 in
theorem rep (n : Nat) (h16 : n ≤ 16) (w : World) : Calls Tryz.prog 179 #[.string ⟨#[48]⟩, .int .i64 (n : Int)] w fun e w' => e = .returned (.string ⟨Array.replicate n 48⟩) ∧ Drawn0 w w' := by
  by_cases h0 : n = 0
  · subst h0
    go_enter Tryz.func179, Tryz.ntmps179
    go_wp2_with fail
    go_ret
    exact ⟨rfl, 0, rfl⟩
  by_cases h1 : n = 1
  · subst h1
    go_enter Tryz.func179, Tryz.ntmps179
    go_wp2_with fail
    go_ret
    exact ⟨rfl, 0, rfl⟩
  exact rep0 n (by omega) h16 w
end Go.Proofs.YtddikdpbhjgihaaGreatDoor.X
end
section
namespace Go.Proofs.YtddikdpbhjgihaaGreatDoor.X
open Go.RowKit Go.Proofs.YtddikdpbhjgihaaGreatDoorW.PrintWords Go.Proofs.YtddikdpbhjgihaaGreatDoorW.PrintLast Go.Proofs.YtddikdpbhjgihaaGreatDoorW.PrintMore
set_option linter.unusedVariables false
set_option linter.unusedSimpArgs false
def blkN (b : List Nat) : Nat → Nat
  | 0 => 0
  | i + 1 => blkN b i * 256 + b.getD i 0
def mixI (a0 : Int) : Int := Go.bits .xor .u64 (IntKind.u64.wrap ((Go.bits .xor .u64 (IntKind.u64.wrap ((Go.bits .xor .u64 a0 (a0 / 2147483648)) * 14029467366897019727)) ((IntKind.u64.wrap ((Go.bits .xor .u64 a0 (a0 / 2147483648)) * 14029467366897019727)) / 134217728)) * 11400714785074694791)) ((IntKind.u64.wrap ((Go.bits .xor .u64 (IntKind.u64.wrap ((Go.bits .xor .u64 a0 (a0 / 2147483648)) * 14029467366897019727)) ((IntKind.u64.wrap ((Go.bits .xor .u64 a0 (a0 / 2147483648)) * 14029467366897019727)) / 134217728)) * 11400714785074694791)) / 8589934592)
theorem mix_eq (a : Int) : observatoryref01_mix.f a = some (mixI a) := rfl
theorem blkN_lt {b : List Nat} (h8 : ∀ x ∈ b, x < 256) : ∀ i, blkN b i < 256 ^ i
  | 0 => by simp [blkN]
  | i + 1 => by
    have ih := blkN_lt h8 i
    have hx : b.getD i 0 < 256 := by
      rw [List.getD_eq_getElem?_getD]
      cases h : b[i]? with
      | none => simp
      | some x => exact h8 x (List.mem_of_getElem? h)
    rw [blkN, Nat.pow_succ]
    omega
theorem or_eq {x y : Nat} (hx : x < 72057594037927936) (hy : y < 256) : Go.bits BinOp.or IntKind.u64 ((x : Int) * 256) (y : Int) = ((x * 256 + y : Nat) : Int) := by
  have h := bits_or_u64_nat (x * 256) y (by omega) (by omega)
  rw [show ((x * 256 : Nat) : Int) = (x : Int) * 256 by omega] at h
  rw [h]
  congr 1
  have := Nat.shiftLeft_add_eq_or_of_lt (show y < 2 ^ 8 by omega) x
  rw [Nat.shiftLeft_eq, show (2 : Nat) ^ 8 = 256 from rfl] at this
  exact this.symm
theorem take_walk (g : Nat) (s : Int) (b : List Nat) (hb : b.length = 8) (h8 : ∀ x ∈ b, x < 256) (w : World) (hg : w.heap[g]? = some (.cells #[.int .u64 s] 199 (0, 0))) :
    Calls Tryz.prog 177 #[.pointer (some ⟨g, 0, none⟩), .agg (b.map (fun (x : Nat) => Value.int .u8 (x : Int))).toArray] w fun e w' => e = .returned (.tuple #[]) ∧ ∃ o, w' = (w.setCell ⟨g, 0, none⟩ (.int .u64 (mixI (Go.bits .xor .u64 s (blkN b 8 : Int))))).alloc o := by
  go_enter Tryz.func177, Tryz.ntmps177
  go_wp2_with fail
  go_loopg [4, 7] 8 (fun gk v4 v7 wr => ∃ i : Nat, i + gk = 8 ∧ v4 = .int .u64 (blkN b i : Int) ∧ v7 = .int .i64 i ∧ wr = w.alloc (.cells (b.map (fun (x : Nat) => Value.int .u8 (x : Int))).toArray 212))
  case atStart => exact ⟨0, by omega, rfl, rfl, rfl⟩
  case round =>
    obtain ⟨i, hi, rfl, rfl, rfl⟩ := hrel
    have hlast : (w.alloc (.cells (b.map (fun (x : Nat) => Value.int .u8 (x : Int))).toArray 212)).heap[w.heap.size]? = some (.cells (b.map (fun (x : Nat) => Value.int .u8 (x : Int))).toArray 212 (0, 0)) := by
      show (w.heap.push _)[w.heap.size]? = _; rw [Array.getElem?_push_size]
    by_cases h : i < 8
    · have hlt : (i : Int) < 8 := by omega
      have hbi : i < b.length := by omega
      have c1 := cell_of_row _ _ i _ _ _ hlast
      rw [List.getElem?_toArray, List.getElem?_map, List.getElem?_eq_getElem hbi] at c1
      have hy : b[i] < 256 := h8 _ (List.getElem_mem hbi)
      have hlt2 : blkN b i < 72057594037927936 := Nat.lt_of_lt_of_le (blkN_lt h8 i) (Nat.pow_le_pow_right (by decide) (show i ≤ 7 by omega))
      have ho := or_eq hlt2 hy
      have hw : IntKind.u64.wrap ((blkN b i : Int) * 256) = (blkN b i : Int) * 256 := by
        rw [IntKind.wrap_u64]; omega
      go_wp2_with fail
      go_roundg (gk - 1)
      case rel =>
        refine ⟨i + 1, by omega, ?_, by go_num, rfl⟩
        rw [blkN, List.getD_eq_getElem?_getD, List.getElem?_eq_getElem hbi]
        congr 1
      case measure => omega
    · obtain rfl : i = 8 := by omega
      have hgl : g < w.heap.size := (Array.getElem?_eq_some_iff.1 hg).1
      have hg2 : (w.alloc (.cells (b.map (fun (x : Nat) => Value.int .u8 (x : Int))).toArray 212)).heap[g]? = some (.cells #[.int .u64 s] 199 (0, 0)) := by
        rw [← hg]; show (w.heap.push _)[g]? = _; rw [Array.getElem?_push_lt hgl, Array.getElem?_eq_getElem hgl]
      have c2 : World.cell? _ ⟨g, 0, none⟩ = some (.int .u64 s) := cell_of_row _ _ 0 _ _ _ hg2
      have f2 := frozen_of_row _ _ 0 _ _ hg2
      go_wp2_with fail
      go_end0
      exact ⟨rfl, _, rfl⟩
end Go.Proofs.YtddikdpbhjgihaaGreatDoor.X
end
section
namespace Go.Proofs.YtddikdpbhjgihaaGreatDoor.X
open Go.RowKit Go.Proofs.YtddikdpbhjgihaaGreatDoorW.PrintWords Go.Proofs.YtddikdpbhjgihaaGreatDoorW.PrintLast Go.Proofs.YtddikdpbhjgihaaGreatDoorW.PrintMore
open Go.Lib (byteCells byteCells_length byteCells_one size_eq)
set_option linter.unusedVariables false
set_option linter.unusedSimpArgs false
def blkB (s : ByteArray) (o : Nat) : List Nat := (List.range 8).map (fun i => ((s.data.toList.drop o).getD i 0).toNat)
theorem blkB_length (s : ByteArray) (o : Nat) : (blkB s o).length = 8 := by simp [blkB]
theorem blkB_lt (s : ByteArray) (o : Nat) : ∀ x ∈ blkB s o, x < 256 := by
  intro x hx
  obtain ⟨i, _, rfl⟩ := List.mem_map.1 hx
  exact UInt8.toNat_lt _
theorem run_copy8 (w : World) (g : Nat) (s : ByteArray) (ty : TypeId) (cur : Array Value) (t : TypeId) (hg : w.heap[g]? = some (.cells cur t (0, 0))) (hc : cur.size = 8) :
    (Builtin.copy_ #[110, 9] ty #[.slice (some ⟨g, 0, none⟩) 8 8, .string s]).run Tryz.prog w =
      .ok (goInt (Nat.min s.size 8)) (w.setRow g (byteCells (s.data.toList.take 8) ++ cur.toList.drop (Nat.min s.size 8)).toArray) := by
  have hlen : (byteCells (s.data.toList.take 8)).length = Nat.min s.size 8 := by
    rw [byteCells_length, List.length_take, ← size_eq, Nat.min_comm]
  have hst := run_storeCells_at Tryz.prog g 0 t (byteCells (s.data.toList.take 8)) 0 cur w hg (by rw [hlen, hc, Nat.zero_add]; exact Nat.min_le_right _ _) (byteCells_one _)
  simp only [Nat.add_zero] at hst
  have hi : ∃ i, Tryz.prog.info? 5 = some i ∧ i.size = 1 := by
    have h : (Tryz.prog.info? 5).map (fun i => i.size) = some 1 := by kernel_rfl
    exact Option.map_eq_some_iff.1 h
  obtain ⟨i, hi, hz⟩ := hi
  have htk : List.take (s.size.min 8) (List.map (fun b : UInt8 => Value.int IntKind.u8 (b.toNat : Int)) s.data.toList) = byteCells (List.take 8 s.data.toList) := by
    rw [← List.map_take]
    have e : List.take (s.size.min 8) s.data.toList = List.take 8 s.data.toList := by
      rw [List.take_eq_take_iff, ← size_eq]
      have : s.size.min 8 = min s.size 8 := rfl
      omega
    rw [e]; rfl
  simp [Builtin.copy_, run_underlying Tryz.underlying110, Builtin.lenOf, Builtin.firstCells, sizeOf, typeInfo, hi, hz]
  rw [htk, hst, hlen]
  simp [Result.andThen]
theorem blk_cells (s : ByteArray) (o : Nat) (ho : o ≤ s.size) :
    (byteCells ((s.extract o s.size).data.toList.take 8) ++ [Value.int .u8 0, .int .u8 0, .int .u8 0, .int .u8 0, .int .u8 0, .int .u8 0, .int .u8 0, .int .u8 0].drop (Nat.min (s.extract o s.size).size 8)).toArray = ((blkB s o).map (fun (x : Nat) => Value.int .u8 (x : Int))).toArray := by
  have e1 : (s.extract o s.size).data.toList = s.data.toList.drop o := by
    rw [Go.Lib.extract_data, List.take_of_length_le (by rw [List.length_drop, ← size_eq]; exact Nat.le_refl _)]
  have e2 : (s.extract o s.size).size = s.size - o := by simp
  rw [e1, e2]
  congr 1
  have hl : (s.data.toList.drop o).length = s.size - o := by rw [List.length_drop, ← size_eq]
  unfold blkB
  generalize hL : s.data.toList.drop o = L at hl ⊢
  rw [← hl]
  clear hl e1 e2 hL
  unfold byteCells
  match L with
  | [] => rfl
  | [a] => rfl
  | [a, b] => rfl
  | [a, b, c] => rfl
  | [a, b, c, d] => rfl
  | [a, b, c, d, e] => rfl
  | [a, b, c, d, e, f] => rfl
  | [a, b, c, d, e, f, g] => rfl
  | a :: b :: c :: d :: e :: f :: g :: h :: l => simp [List.range, List.range.loop, Nat.min]
def row8 (s : ByteArray) (o : Nat) : Array Value := ((blkB s o).map (fun (x : Nat) => Value.int .u8 (x : Int))).toArray
theorem row8_size (s : ByteArray) (o : Nat) : (row8 s o).size = 8 := by simp [row8, blkB_length]
theorem run_copy8o (w : World) (s : ByteArray) (o : Nat) (ty : TypeId) (ho : o ≤ s.size) :
    (Builtin.copy_ #[110, 9] ty #[.slice (some ⟨w.heap.size, 0, none⟩) 8 8, .string (s.extract o s.size)]).run Tryz.prog (w.alloc (.cells #[.int .u8 0, .int .u8 0, .int .u8 0, .int .u8 0, .int .u8 0, .int .u8 0, .int .u8 0, .int .u8 0] 212)).drew =
      .ok (goInt (Nat.min (s.extract o s.size).size 8)) (w.alloc (.cells (row8 s o) 212)).drew := by
  rw [run_copy8 _ w.heap.size _ _ _ 212 (by show (w.heap.push _)[w.heap.size]? = _; rw [Array.getElem?_push_size]) rfl, blk_cells s o ho]
  congr 1
  exact congrArg World.drew (World.setRow_alloc_new w _ _ 212)
theorem info212 : (Tryz.prog.info? 212).map (fun i => i.size) = some 8 := by kernel_rfl
theorem step_copy_of {P : Program} {ops : Array Oper} {o : Oper} {a : Act} {w : World} {K : Act → World → Prop} {Q : Exit → Act → World → Prop} {E : Prop}
    (hg : o.guard = none) (d x : Operand) (dT sT : TypeId) (hop : o.op = Op.call { callee := Callee.builtin Builtin.copy, args := #[d, x], argTypes := #[dT, sT] })
    (u v r : Value) (w' : World) (hd : a.eval d = u) (hx : a.eval x = v) (hrun : (Builtin.copy_ #[dT, sT] o.type #[u, v]).run P w = .ok r w') (hK : K (a.put o.dst r) w') :
    if Region.wanted o (yielded ops a.tmps) = true then Oper.wp P o a w K Q else E := by
  have hw : Region.wanted o (yielded ops a.tmps) = true := by simp [Region.wanted, hg]
  rw [if_pos hw]
  unfold Oper.wp
  simp [execOp, hop, resolve, invoke, builtin, hd, hx, hrun, Result.andThen]
  exact hK
def stI (s : ByteArray) : Nat → Int
  | 0 => Go.bits .xor .u64 1442695040888963407 (s.size : Int)
  | i + 1 => mixI (Go.bits .xor .u64 (stI s i) (blkN (blkB s (8 * i)) 8 : Int))
set_option maxRecDepth 100000 in
set_option maxHeartbeats 1000000 in
theorem blocks_walk (g B : Nat) (s : ByteArray) (w : World) (hs : s.size ≤ 140737488355328) (hg : w.heap[g]? = some (.cells #[.int .u64 (stI s 0)] 199 (0, 0))) (hB : B ≤ g) :
    Calls Tryz.prog 176 #[.string s, .func (.func 177) #[.pointer (some ⟨g, 0, none⟩)] #[]] w fun e w' => e = .returned (.tuple #[]) ∧ w'.heap[g]? = some (.cells #[.int .u64 (stI s (s.size / 8 + 1))] 199 (0, 0)) ∧ Below B w w' := by
  have HG := Aside0.mk hg
  have HBg := Aside0.mk hB
  have HBw := Aside0.mk (show B ≤ w.heap.size by have := (Array.getElem?_eq_some_iff.1 hg).1; omega)
  clear hg hB
  go_enter Tryz.func176, Tryz.ntmps176
  go_wp2_with fail
  go_loopg [4] (s.size / 8 + 1) (fun gk v4 wr => ∃ i o : Nat, i + gk = s.size / 8 + 1 ∧ 8 * i ≤ o ∧ o ≤ 8 * i ∧ v4 = .int .i64 (o : Int) ∧ wr.heap[g]? = some (.cells #[.int .u64 (stI s i)] 199 (0, 0)) ∧ Below B w wr)
  case atStart => exact ⟨0, 0, by omega, by omega, by omega, rfl, HG.out, Below.refl _ _⟩
  case round =>
    obtain ⟨i, o, hi, ho1, ho2, rfl, hI, hb⟩ := hrel
    have HI := Aside0.mk hI
    have HB := Aside0.mk hb
    have HBgw := Aside0.mk (show B ≤ wr.heap.size by have := hb.size; have := HBw.out; omega)
    clear hI hb
    by_cases h : o ≤ s.size
    · have h' : (o : Int) ≤ (s.size : Int) := by omega
      have hg8 : (wr.alloc (.cells (row8 s o) 212)).drew.heap[wr.heap.size]? = some (.cells (row8 s o) 212 (0, 0)) := by show (wr.heap.push _)[wr.heap.size]? = _; rw [Array.getElem?_push_size]
      have hgg : (wr.alloc (.cells (row8 s o) 212)).drew.heap[g]? = some (.cells #[.int .u64 (stI s i)] 199 (0, 0)) := by
        have hlt := (Array.getElem?_eq_some_iff.1 HI.out).1
        rw [← HI.out]; show (wr.heap.push _)[g]? = _; rw [Array.getElem?_push, if_neg (by omega)]
      have HGG := Aside0.mk hgg
      have HG8 := Aside0.mk hg8
      clear hgg hg8
      go_wp2_with fail
      go_region_law (refine step_copy_of rfl (.tmp 12) (.tmp 15) 110 9 rfl (.slice (some ⟨wr.heap.size, 0, none⟩) 8 8) (.string (s.extract o s.size)) _ _ (by simp [Act.eval, Act.put]) (by simp [Act.eval, Act.put]) (run_copy8o wr s o _ h) ?_)
      go_wp2_with (refine wpList_load_row rfl 212 _ rfl wr.heap.size rfl 212 (row8 s o) (0, 0) _ HG8.out Tryz.underlying212 rfl (by rw [info212, row8_size]) ?_)
      refine (take_walk g (stI s i) (blkB s o) (blkB_length _ _) (blkB_lt _ _) _ HGG.out).mono ?_
      rintro e w' ⟨rfl, ob, rfl⟩
      go_wp2_with fail
      go_roundg (gk - 1)
      case rel =>
        obtain rfl : o = 8 * i := by omega
        refine ⟨i + 1, 8 * i + 8, by omega, by omega, by omega, by go_num, ?_, ?_⟩
        · have h1 := heap_setCell_same _ g 0 _ _ (.int .u64 (mixI (Go.bits .xor .u64 (stI s i) (blkN (blkB s (8 * i)) 8 : Int)))) HGG.out
          rw [stI]
          exact (Go.Lib.alloc_old _ ob g (Array.getElem?_eq_some_iff.1 h1).1).trans h1
        · have hb := (Below.drew (HB.out.alloc HBgw.out (.cells (row8 s (8 * i)) 212))).setCell (p := ⟨g, 0, none⟩) HBg.out (.int .u64 (mixI (Go.bits .xor .u64 (stI s i) (blkN (blkB s (8 * i)) 8 : Int))))
          exact hb.alloc (by have := hb.size; have := HBw.out; omega) ob
      case measure => omega
    · go_wp2_with fail
      go_end0
      obtain rfl : i = s.size / 8 + 1 := by omega
      exact ⟨rfl, HI.out, HB.out⟩
theorem bits_u64 (op : BinOp) (a b : Int) : op = .xor → 0 ≤ Go.bits op .u64 a b ∧ Go.bits op .u64 a b < 18446744073709551616 := by
  rintro rfl
  show 0 ≤ IntKind.u64.wrap _ ∧ IntKind.u64.wrap _ < _
  rw [IntKind.wrap_u64]
  omega
theorem stI_range (s : ByteArray) : ∀ i, 0 ≤ stI s i ∧ stI s i < 18446744073709551616
  | 0 => bits_u64 _ _ _ rfl
  | i + 1 => by rw [stI, mixI]; exact bits_u64 _ _ _ rfl
def hex16 (u : Nat) : ByteArray := strOfNums (hexL u 15)
theorem hexL_succ (u t : Nat) : hexL u (t + 1) = hexd (u / 16 ^ (t + 1) % 16) :: hexL u t := by
  unfold hexL
  rw [List.range_succ_eq_map, List.map_cons, List.map_map, Nat.sub_zero]
  congr 1
  refine List.map_congr_left fun i hi => ?_
  simp only [Function.comp]
  rw [show t + 1 - (i + 1) = t - i by omega]
theorem hexL_pad (u t : Nat) (h : u / 16 ^ t < 16) : ∀ d, hexL u (t + d) = List.replicate d 48 ++ hexL u t
  | 0 => rfl
  | d + 1 => by
    have e : u / 16 ^ (t + d + 1) = 0 := by
      rw [show t + d + 1 = t + (d + 1) by omega, Nat.pow_add, ← Nat.div_div_eq_div_mul, Nat.pow_succ, Nat.mul_comm, ← Nat.div_div_eq_div_mul, Nat.div_eq_of_lt h, Nat.zero_div]
    rw [← Nat.add_assoc, hexL_succ, e, hexL_pad u t h d]
    rfl
theorem hex_pad (u t : Nat) (h : u / 16 ^ t < 16) (ht : t ≤ 15) : (⟨Array.replicate (15 - t) 48⟩ : ByteArray) ++ strOfNums (hexL u t) = hex16 u := by
  have e := hexL_pad u t h (15 - t)
  rw [show t + (15 - t) = 15 by omega] at e
  unfold hex16
  rw [e]
  apply ByteArray.ext
  rw [ByteArray.data_append]
  apply Array.toList_inj.1
  rw [Array.toList_append, strOfNums_data, strOfNums_data, List.map_append, List.map_replicate, Array.toList_replicate]
  rfl
def digest_Sum.f (a0 : ByteArray) : Option ByteArray := if a0.size ≤ 140737488355328 then some (hex16 (stI a0 (a0.size / 8 + 1)).toNat) else none
set_option maxRecDepth 100000 in
theorem sum_walk (s : ByteArray) (u : Nat) (w : World) (hgl : GL w) (hs : s.size ≤ 140737488355328) (hu : stI s (s.size / 8 + 1) = (u : Int)) (hu64 : u < 18446744073709551616) :
    Calls Tryz.prog 161 #[.string s] w fun e w' => e = .returned (.string (hex16 u)) ∧ Below w.heap.size w w' := by
  have HU := Aside0.mk hu
  clear hu
  have HGL := Aside0.mk hgl
  have HS := Aside0.mk hs
  clear hgl
  have hst : stI s 0 = Go.bits .xor .u64 1442695040888963407 (s.size : Int) := rfl
  have HST := Aside0.mk hst
  clear hst
  go_enter Tryz.func161, Tryz.ntmps161
  go_wp2_with fail
  rw [← HST.out]
  refine (blocks_walk w.heap.size w.heap.size s _ HS.out (by show (w.heap.push _)[w.heap.size]? = _; rw [Array.getElem?_push_size]) (Nat.le_refl _)).mono ?_
  rintro e w1 ⟨rfl, h1, hb⟩
  have c1 := cell_of_row _ _ 0 _ _ _ h1
  have HB := Aside0.mk ((Below.alloc (Below.refl w.heap.size w) (Nat.le_refl _) (.cells #[.int .u64 (stI s 0)] 199)).trans hb)
  rw [HU.out] at c1
  clear h1 hb
  go_wp2_with fail
  refine (fmtU16 u hu64 _ (HGL.out.below HB.out)).mono ?_
  rintro e w2 ⟨t, h1, h2, rfl, hb⟩
  have HB2 := Aside0.mk (below_step HB.out hb)
  have hsz : (strOfNums (hexL u t)).size = t + 1 := by rw [strOfNums_size]; simp [hexL]
  have HP := Aside0.mk (hex_pad u t h2 h1)
  generalize strOfNums (hexL u t) = d at hsz HP ⊢
  have hd : (16 : Int) - (d.size : Int) = ((15 - t : Nat) : Int) := by omega
  have HD := Aside0.mk hd
  have hd1 : d.size ≤ 16 := by omega
  clear hb h2 hd hsz
  go_wp2_with fail
  rw [HD.out]
  refine (rep (15 - t) (by omega) _).mono ?_
  rintro e w3 ⟨rfl, nd, rfl⟩
  go_wp2_with fail
  go_ret
  rw [HP.out]
  exact ⟨rfl, pw_below_drewN HB2.out nd⟩
theorem digest_Sum.calls (a0 : ByteArray) (r : ByteArray) (w : World) (hgl : GL w) (h : digest_Sum.f a0 = some r) :
    Calls Tryz.prog 161 #[.string a0] w fun e w' => e = .returned (.string r) ∧ Below w.heap.size w w' := by
  unfold digest_Sum.f at h
  split at h
  · rename_i hs
    have e := Option.some.inj h
    subst e
    have hr := stI_range a0 (a0.size / 8 + 1)
    obtain ⟨u, hu⟩ := Int.eq_ofNat_of_zero_le hr.1
    rw [hu, Int.toNat_natCast]
    exact sum_walk a0 u w hgl hs hu (by omega)
  · cases h
end Go.Proofs.YtddikdpbhjgihaaGreatDoor.X
end
section
namespace Go.Proofs.YtddikdpbhjgihaaGreatDoor.X
open Go.RowKit Go.Proofs.YtddikdpbhjgihaaGreatDoorW.PrintWords Go.Proofs.YtddikdpbhjgihaaGreatDoorW.PrintLast Go.Proofs.YtddikdpbhjgihaaGreatDoorW.PrintMore
set_option linter.unusedVariables false
set_option linter.unusedSimpArgs false
def hexS : ByteArray := ⟨#[48, 49, 50, 51, 52, 53, 54, 55, 56, 57, 97, 98, 99, 100, 101, 102]⟩
def isHex (c : UInt8) : Bool := hexS.data.toList.contains c
def isDg (s : ByteArray) : Bool := decide (s.size = 16) && s.data.toList.all isHex
theorem all_dw (p : UInt8 → Bool) : ∀ m : List UInt8, (m.dropWhile p).all p = m.all p
  | [] => rfl
  | a :: m => by
    cases h : p a
    · simp [List.dropWhile, h]
    · simp [List.dropWhile, h, all_dw p m]
theorem dw_nil (p : UInt8 → Bool) : ∀ m : List UInt8, (m.dropWhile p).isEmpty = m.all p
  | [] => rfl
  | a :: m => by
    cases h : p a
    · simp [List.dropWhile, h]
    · simp [List.dropWhile, h, dw_nil p m]
theorem trim_nil (l : List UInt8) : (Lib.trimS l hexS.data.toList).isEmpty = l.all isHex := by
  unfold Lib.trimS Lib.trimLeftS Lib.trimRightS
  rw [dw_nil, List.all_reverse, all_dw, List.all_reverse]
  rfl
theorem zero192 (w : World) : (zeroValue 192).run Tryz.prog w = .ok (.agg (Array.replicate 256 (.bool false))) w := by kernel_rfl
theorem trim_hex (s : ByteArray) (w : World) (h : s.size = 16) :
    Calls Tryz.prog 151 #[.string s, .string hexS] w fun e w' => e = .returned (.string ⟨(Lib.trimS s.data.toList hexS.data.toList).toArray⟩) ∧ Below w.heap.size w w' := by
  refine (Any.strings_Trim_set Tryz.lays160 zero192 (by kernel_rfl) s hexS w (by decide) (by omega) (by omega) (by decide) ?_).mono ?_
  · intro j b hj
    have h : hexS.data.toList.all (fun b => decide (b.toNat < 128)) = true := by decide
    exact of_decide_eq_true (List.all_eq_true.1 h b (List.mem_of_getElem? hj))
  · rintro e w' ⟨rfl, q, rfl⟩
    exact ⟨rfl, pw_below_drewN (Below.alloc (Below.alloc (Below.refl _ _) (Nat.le_refl _) _) (by simp) _) _⟩
def digest_Is.f (a0 : ByteArray) : Option Bool := some (isDg a0)
theorem toList_mk (l : List UInt8) : (⟨l.toArray⟩ : ByteArray).toList = l := by rw [Lib.toList_data]
set_option maxRecDepth 100000 in
theorem is_walk (s : ByteArray) (w : World) : Calls Tryz.prog 116 #[.string s] w fun e w' => e = .returned (.bool (isDg s)) ∧ Below w.heap.size w w' := by
  by_cases h : s.size = 16
  · have h' : ((s.size : Int) == 16) = true := by rw [h]; rfl
    have e : isDg s = (Lib.trimS s.data.toList hexS.data.toList).isEmpty := by rw [trim_nil]; unfold isDg; rw [decide_eq_true h, Bool.true_and]
    have HE := Aside0.mk e
    have HS := Aside0.mk h
    clear e h
    go_enter Tryz.func116, Tryz.ntmps116
    go_wp2_with fail
    refine (trim_hex s _ HS.out).mono ?_
    rintro e w' ⟨rfl, hb⟩
    have HB := Aside0.mk hb
    clear hb
    have ht := toList_mk (Lib.trimS s.data.toList hexS.data.toList)
    go_wp2_with fail
    go_ret
    rw [HE.out]
    exact ⟨rfl, HB.out⟩
  · have h' : ((s.size : Int) == 16) = false := beq_eq_false_iff_ne.2 (by omega)
    have e : isDg s = false := by unfold isDg; rw [decide_eq_false h, Bool.false_and]
    have HE := Aside0.mk e
    clear e h
    go_enter Tryz.func116, Tryz.ntmps116
    go_wp2_with fail
    go_ret
    rw [HE.out]
    exact ⟨rfl, Below.refl _ _⟩
theorem digest_Is.calls (a0 : ByteArray) (r : Bool) (w : World) (h : digest_Is.f a0 = some r) :
    Calls Tryz.prog 116 #[.string a0] w fun e w' => e = .returned (.bool r) ∧ Below w.heap.size w w' := by
  have e := Option.some.inj h
  subst e
  exact is_walk a0 w
end Go.Proofs.YtddikdpbhjgihaaGreatDoor.X
end
section
namespace ObsMer
set_option linter.unusedVariables false
open Go.Lib (itoa decDigits)
def toL (s : ByteArray) : List UInt8 := s.data.toList
theorem toL_inj {a b : ByteArray} (h : toL a = toL b) : a = b := by
  cases a; cases b
  unfold toL at h
  congr 1
  exact Array.toList_inj.1 h
theorem toL_append (a b : ByteArray) : toL (a ++ b) = toL a ++ toL b := by
  unfold toL; rw [ByteArray.data_append, Array.toList_append]
theorem toL_length (a : ByteArray) : (toL a).length = a.size := rfl
def val (l : List UInt8) : Nat := l.foldl (fun a c => a * 10 + (c.toNat - 48)) 0
def itoaB (n : Int) : ByteArray := ⟨(itoa n).toArray⟩
def joined : List ByteArray → ByteArray
  | [] => ByteArray.empty
  | s :: l => itoaB s.size ++ ⟨#[58]⟩ ++ s ++ joined l
theorem toL_joined (s : ByteArray) (l : List ByteArray) : toL (joined (s :: l)) = itoa s.size ++ 58 :: (toL s ++ toL (joined l)) := by
  rw [joined, toL_append, toL_append, toL_append]
  show itoa s.size ++ [58] ++ toL s ++ toL (joined l) = _
  simp
def pairT (x y : Int) : ByteArray := itoaB x ++ ⟨#[32]⟩ ++ itoaB y
def half (n : Nat) : Nat := 2 ^ Nat.log2 (n - 1)
theorem half_pos (n : Nat) : 1 ≤ half n := Nat.one_le_two_pow
theorem half_lt {n : Nat} (h : 2 ≤ n) : half n < n := by
  have := Nat.log2_self_le (n := n - 1) (by omega)
  unfold half
  omega
theorem half_of {n i : Nat} (h1 : 2 ^ i < n) (h2 : n ≤ 2 ^ (i + 1)) : half n = 2 ^ i := by
  unfold half
  have hne : n - 1 ≠ 0 := by have := Nat.one_le_two_pow (n := i); omega
  have h3 := (Nat.le_log2 (k := i) hne).2 (by omega)
  have h4 := (Nat.log2_lt (k := i + 1) hne).2 (by omega)
  rw [show Nat.log2 (n - 1) = i by omega]
section
variable (H : ByteArray → ByteArray)
def leafT (s : ByteArray) : ByteArray := joined [⟨#[108, 101, 97, 102]⟩, s]
def nodeT (a b : ByteArray) : ByteArray := joined [⟨#[110, 111, 100, 101]⟩, a, b]
def emptyT : ByteArray := joined [⟨#[101, 109, 112, 116, 121]⟩]
def root (l : List ByteArray) : ByteArray :=
  if h0 : l.length = 0 then H emptyT
  else if h1 : l.length = 1 then l.headD ByteArray.empty
  else H (nodeT (root (l.take (half l.length))) (root (l.drop (half l.length))))
termination_by l.length
decreasing_by
  · have := half_lt (n := l.length) (by omega)
    rw [List.length_take]; omega
  · have := half_pos l.length
    rw [List.length_drop]; omega
theorem root_nil : root H [] = H emptyT := by rw [root]; simp
theorem root_one (a : ByteArray) : root H [a] = a := by rw [root]; simp
theorem root_two {l : List ByteArray} (h : 2 ≤ l.length) : root H l = H (nodeT (root H (l.take (half l.length))) (root H (l.drop (half l.length)))) := by
  rw [root, dif_neg (by omega), dif_neg (by omega)]
def path (l : List ByteArray) (i : Nat) : List ByteArray :=
  if h : l.length ≤ 1 then []
  else if i < half l.length then path (l.take (half l.length)) i ++ [root H (l.drop (half l.length))]
  else path (l.drop (half l.length)) (i - half l.length) ++ [root H (l.take (half l.length))]
termination_by l.length
decreasing_by
  · have := half_lt (n := l.length) (by omega)
    rw [List.length_take]; omega
  · have := half_pos l.length
    rw [List.length_drop]; omega
def plen (n i : Nat) : Nat :=
  if h : n ≤ 1 then 0
  else if i < half n then 1 + plen (half n) i
  else 1 + plen (n - half n) (i - half n)
termination_by n
decreasing_by
  · exact half_lt (by omega)
  · have := half_pos n
    omega
def up (n i : Nat) (d : ByteArray) (p : List ByteArray) : ByteArray :=
  if h : n ≤ 1 then d
  else if i < half n then H (nodeT (up (half n) i d p.dropLast) (p.getLastD ByteArray.empty))
  else H (nodeT (p.getLastD ByteArray.empty) (up (n - half n) (i - half n) d p.dropLast))
termination_by n
decreasing_by
  · exact half_lt (by omega)
  · have := half_pos n
    omega
def ptexts (n i : Nat) (d : ByteArray) (p : List ByteArray) : List ByteArray :=
  if h : n ≤ 1 then []
  else if i < half n then ptexts (half n) i d p.dropLast ++ [nodeT (up H (half n) i d p.dropLast) (p.getLastD ByteArray.empty)]
  else ptexts (n - half n) (i - half n) d p.dropLast ++ [nodeT (p.getLastD ByteArray.empty) (up H (n - half n) (i - half n) d p.dropLast)]
termination_by n
decreasing_by
  · exact half_lt (by omega)
  · have := half_pos n
    omega
theorem plen_one {n : Nat} (h : n ≤ 1) (i : Nat) : plen n i = 0 := by rw [plen, dif_pos h]
theorem plen_lo {n i : Nat} (h : 2 ≤ n) (hi : i < half n) : plen n i = 1 + plen (half n) i := by rw [plen, dif_neg (by omega), if_pos hi]
theorem plen_hi {n i : Nat} (h : 2 ≤ n) (hi : half n ≤ i) : plen n i = 1 + plen (n - half n) (i - half n) := by rw [plen, dif_neg (by omega), if_neg (by omega)]
theorem up_one {n : Nat} (h : n ≤ 1) (i : Nat) (d : ByteArray) (p : List ByteArray) : up H n i d p = d := by rw [up, dif_pos h]
theorem up_lo {n i : Nat} (h : 2 ≤ n) (hi : i < half n) (d : ByteArray) (p : List ByteArray) : up H n i d p = H (nodeT (up H (half n) i d p.dropLast) (p.getLastD ByteArray.empty)) := by
  rw [up, dif_neg (by omega), if_pos hi]
theorem up_hi {n i : Nat} (h : 2 ≤ n) (hi : half n ≤ i) (d : ByteArray) (p : List ByteArray) : up H n i d p = H (nodeT (p.getLastD ByteArray.empty) (up H (n - half n) (i - half n) d p.dropLast)) := by
  rw [up, dif_neg (by omega), if_neg (by omega)]
theorem path_lo {l : List ByteArray} {i : Nat} (h : 2 ≤ l.length) (hi : i < half l.length) : path H l i = path H (l.take (half l.length)) i ++ [root H (l.drop (half l.length))] := by
  rw [path, dif_neg (by omega), if_pos hi]
theorem path_hi {l : List ByteArray} {i : Nat} (h : 2 ≤ l.length) (hi : half l.length ≤ i) : path H l i = path H (l.drop (half l.length)) (i - half l.length) ++ [root H (l.take (half l.length))] := by
  rw [path, dif_neg (by omega), if_neg (by omega)]
theorem ptexts_one {n : Nat} (h : n ≤ 1) (i : Nat) (d : ByteArray) (p : List ByteArray) : ptexts H n i d p = [] := by rw [ptexts, dif_pos h]
theorem ptexts_lo {n i : Nat} (h : 2 ≤ n) (hi : i < half n) (d : ByteArray) (p : List ByteArray) : ptexts H n i d p = ptexts H (half n) i d p.dropLast ++ [nodeT (up H (half n) i d p.dropLast) (p.getLastD ByteArray.empty)] := by
  rw [ptexts, dif_neg (by omega), if_pos hi]
theorem ptexts_hi {n i : Nat} (h : 2 ≤ n) (hi : half n ≤ i) (d : ByteArray) (p : List ByteArray) : ptexts H n i d p = ptexts H (n - half n) (i - half n) d p.dropLast ++ [nodeT (p.getLastD ByteArray.empty) (up H (n - half n) (i - half n) d p.dropLast)] := by
  rw [ptexts, dif_neg (by omega), if_neg (by omega)]
theorem take_half {l : List ByteArray} (h : 2 ≤ l.length) : (l.take (half l.length)).length = half l.length := by
  have := half_lt h; rw [List.length_take]; omega
theorem drop_half (l : List ByteArray) : (l.drop (half l.length)).length = l.length - half l.length := by
  rw [List.length_drop]
def Clean (t : List ByteArray) : Prop := ∀ x ∈ t, ∀ y ∈ t, H x = H y → x = y
theorem Clean.sub {t u : List ByteArray} (h : Clean H t) (hs : ∀ x ∈ u, x ∈ t) : Clean H u := fun x hx y hy e => h x (hs x hx) y (hs y hy) e
end
end ObsMer
end
section
namespace Go.Proofs.YtddikdpbhjgihaaGreatDoor.X
open Go.RowKit Go.Proofs.YtddikdpbhjgihaaGreatDoorW.PrintWords Go.Proofs.YtddikdpbhjgihaaGreatDoorW.PrintLast
open Go.Lib (decDigits itoa)
open ObsMer (toL toL_inj toL_append itoaB)
set_option linter.unusedVariables false
def decS : ByteArray := ⟨#[48, 49, 50, 51, 52, 53, 54, 55, 56, 57]⟩
theorem decS_at (d : Nat) (h : d < 10) : toL (decS.extract d (d + 1)) = [UInt8.ofNat (48 + d)] := by
  have : d = 0 ∨ d = 1 ∨ d = 2 ∨ d = 3 ∨ d = 4 ∨ d = 5 ∨ d = 6 ∨ d = 7 ∨ d = 8 ∨ d = 9 := by omega
  rcases this with h | h | h | h | h | h | h | h | h | h <;> subst h <;> rfl
theorem decS_size (d : Nat) (h : d < 10) : (decS.extract d (d + 1)).size = 1 := by
  rw [← ObsMer.toL_length, decS_at d h]; rfl
theorem u64w (n : Nat) (h : n < 18446744073709551616) : IntKind.u64.wrap (n : Int) = (n : Int) := by rw [IntKind.wrap_u64]; omega
def decTo (m : Nat) (acc : ByteArray) : ByteArray := if m = 0 then acc else ⟨(decDigits m ++ toL acc).toArray⟩
theorem toL_decTo (m : Nat) (acc : ByteArray) : toL (decTo m acc) = (if m = 0 then [] else decDigits m) ++ toL acc := by
  unfold decTo
  split
  · rfl
  · rfl
theorem digits_l0 : ∀ (k m : Nat) (acc : ByteArray), m < 10 ^ k → m < 18446744073709551616 → acc.size + k ≤ 1000 → observatoryref01_digits.l0 (k + 1) (m : Int) acc = some (decTo m acc) := by
  intro k
  induction k with
  | zero =>
    intro m acc h1 h2 h3
    obtain rfl : m = 0 := by simpa using h1
    simp only [observatoryref01_digits.l0]
    rw [if_neg (by omega)]
    rfl
  | succ k ih =>
    intro m acc h1 h2 h3
    rw [observatoryref01_digits.l0]
    by_cases h0 : m = 0
    · subst h0
      rw [if_neg (by omega)]
      rfl
    · have e1 : Int.tmod (m : Int) 10 = ((m % 10 : Nat) : Int) := by rw [Int.tmod_eq_emod_of_nonneg (by omega)]; omega
      have e2 : IntKind.u64.wrap (((m % 10 : Nat) : Int) + 1) = ((m % 10 + 1 : Nat) : Int) := by rw [IntKind.wrap_u64]; omega
      have e3 : IntKind.u64.wrap (Int.tdiv (m : Int) 10) = ((m / 10 : Nat) : Int) := by rw [Int.tdiv_eq_ediv_of_nonneg (by omega), IntKind.wrap_u64]; omega
      have hd : m % 10 < 10 := Nat.mod_lt _ (by decide)
      have hs := decS_size (m % 10) hd
      have hL := decS_at (m % 10) hd
      unfold decS at hs hL
      rw [e1, e2, e3, if_pos (by omega), if_pos (by omega), if_pos (by omega), if_pos (by omega), Int.toNat_natCast, Int.toNat_natCast, hs, if_pos (by omega)]
      rw [ih (m / 10) _ (by rw [Nat.pow_succ] at h1; omega) (by omega) (by rw [ByteArray.size_append, hs]; omega)]
      congr 1
      apply toL_inj
      rw [toL_decTo, toL_decTo, toL_append, hL, if_neg h0]
      rw [decDigits.eq_1 m]
      by_cases h10 : m < 10
      · rw [dif_pos h10, if_pos (by omega), Nat.mod_eq_of_lt h10]; rfl
      · rw [dif_neg h10, if_neg (by omega), List.append_assoc]
theorem digits_eq {k : Nat} (u : Nat) (hk : 21 ≤ k) (hu : u < 18446744073709551616) : observatoryref01_digits.f k (u : Int) = some ⟨(decDigits u).toArray⟩ := by
  obtain ⟨q, rfl⟩ : ∃ q, k = q + 1 := ⟨k - 1, by omega⟩
  have e1 : Int.tmod (u : Int) 10 = ((u % 10 : Nat) : Int) := by rw [Int.tmod_eq_emod_of_nonneg (by omega)]; omega
  have e2 : IntKind.u64.wrap (((u % 10 : Nat) : Int) + 1) = ((u % 10 + 1 : Nat) : Int) := by rw [IntKind.wrap_u64]; omega
  have e3 : IntKind.u64.wrap (Int.tdiv (u : Int) 10) = ((u / 10 : Nat) : Int) := by rw [Int.tdiv_eq_ediv_of_nonneg (by omega), IntKind.wrap_u64]; omega
  have hd : u % 10 < 10 := Nat.mod_lt _ (by decide)
  have hs := decS_size (u % 10) hd
  have hL := decS_at (u % 10) hd
  unfold decS at hs hL
  have hp : u / 10 < 10 ^ 20 := Nat.lt_of_lt_of_le (show u / 10 < 10 ^ 20 by omega) (Nat.le_refl _)
  unfold observatoryref01_digits.f
  rw [e1, e2, e3, if_pos (by omega), if_pos (by omega), if_pos (by omega), Int.toNat_natCast, Int.toNat_natCast]
  have key := digits_l0 20 (u / 10) ((⟨#[48, 49, 50, 51, 52, 53, 54, 55, 56, 57]⟩ : ByteArray).extract (u % 10) (u % 10 + 1)) hp (by omega) (by rw [hs]; omega)
  have hm : ∀ q, 20 ≤ q → observatoryref01_digits.l0 (q + 1) ((u / 10 : Nat) : Int) ((⟨#[48, 49, 50, 51, 52, 53, 54, 55, 56, 57]⟩ : ByteArray).extract (u % 10) (u % 10 + 1)) = some (decTo (u / 10) ((⟨#[48, 49, 50, 51, 52, 53, 54, 55, 56, 57]⟩ : ByteArray).extract (u % 10) (u % 10 + 1))) := by
    intro q hq
    obtain ⟨d, rfl⟩ : ∃ d, q = 20 + d := ⟨q - 20, by omega⟩
    clear hq
    induction d with
    | zero => exact key
    | succ d ih => exact observatoryref01_digits.mono_l _ _ _ _ ih
  rw [hm q (by omega)]
  congr 1
  apply toL_inj
  rw [toL_decTo, hL]
  show _ = decDigits u
  rw [decDigits.eq_1 u]
  by_cases h10 : u < 10
  · rw [dif_pos h10, if_pos (by omega), Nat.mod_eq_of_lt h10]; rfl
  · rw [dif_neg h10, if_neg (by omega)]
theorem Dec_eq {k : Nat} {a : Int} (hk : 21 ≤ k) (h0 : -9223372036854775808 ≤ a) (h1 : a ≤ 9223372036854775807) : observatoryref01_Decimal.f k a = some (itoaB a) := by
  unfold observatoryref01_Decimal.f
  by_cases hn : a < 0
  · obtain ⟨u, rfl⟩ : ∃ u : Nat, a = -(u : Int) := ⟨a.natAbs, by omega⟩
    have e : IntKind.u64.wrap (IntKind.u64.wrap (wrap64 (-(wrap64 (-(u : Int) + 1)))) + 1) = (u : Int) := by
      rw [w64 (n := -(u : Int) + 1) (by omega) (by omega), w64 (by omega) (by omega), IntKind.wrap_u64, IntKind.wrap_u64]
      omega
    have hl := Go.Lib.nDigits_le20 u (by omega)
    rw [← Go.Lib.decDigits_length] at hl
    rw [if_pos hn, e, digits_eq u hk (by omega), Option.bind_some, if_pos (by rw [← ObsMer.toL_length]; show 1 + (decDigits u).length ≤ _; omega)]
    congr 1
    apply toL_inj
    rw [toL_append]
    show [45] ++ decDigits u = itoa _
    unfold itoa
    rw [if_pos hn, Int.natAbs_neg, Int.natAbs_natCast]
    rfl
  · obtain ⟨u, rfl⟩ : ∃ u : Nat, a = (u : Int) := ⟨a.toNat, by omega⟩
    have e : (⟨(decDigits u).toArray⟩ : ByteArray) = itoaB (u : Int) := by
      unfold itoaB itoa
      rw [if_neg hn, Int.toNat_natCast]
    rw [if_neg hn, u64w u (by omega), digits_eq u hk (by omega), e]
    rfl
end Go.Proofs.YtddikdpbhjgihaaGreatDoor.X
end
section
namespace Go.Proofs.YtddikdpbhjgihaaGreatDoor.X
open Go.RowKit Go.Proofs.YtddikdpbhjgihaaGreatDoorW.PrintWords Go.Proofs.YtddikdpbhjgihaaGreatDoorW.PrintLast Go.Proofs.YtddikdpbhjgihaaGreatDoorW.PrintMore
set_option linter.unusedVariables false
set_option linter.unusedSimpArgs false
theorem info183 : (Tryz.prog.info? 183).map (fun i => i.size) = some 2 := by kernel_rfl
theorem lies183 : liesAt Tryz.prog Tryz.prog.depth 183 (2 / Tryz.prog.cellsOf 183) 0 183 1 = true := by kernel_rfl
theorem info5 : (Tryz.prog.info? 5).map (fun i => (i.zero, i.size, i.bytes)) = some (some (.int .u8 0), 1, 1) := by kernel_rfl
set_option maxRecDepth 100000 in
theorem bcc_used (b : Nat) (w : World) (h0 : w.cell? ⟨b, 0, none⟩ = some (.pointer (some ⟨b, 0, none⟩))) :
    Calls Tryz.prog 175 #[.pointer (some ⟨b, 0, none⟩)] w fun e w' => e = .returned (.tuple #[]) ∧ w = w' := by
  obtain ⟨j, hj, _⟩ := Option.map_eq_some_iff.1 info183
  go_enter Tryz.func175, Tryz.ntmps175
  go_wp2_with fail
  rw [Lib.run_neq_ptr_same w _ Tryz.underlying181 hj]
  go_wp2_with fail
  go_end0
  exact ⟨rfl, rfl⟩
set_option maxRecDepth 100000 in
theorem bcc_fresh (b : Nat) (w : World) (h0 : w.cell? ⟨b, 0, none⟩ = some (.pointer none)) (hsh : w.shape? b = some (183, 2)) (hfz : w.frozen? ⟨b, 0, none⟩ = false) :
    Calls Tryz.prog 175 #[.pointer (some ⟨b, 0, none⟩)] w fun e w' => e = .returned (.tuple #[]) ∧ w' = w.setCell ⟨b, 0, none⟩ (.pointer (some ⟨b, 0, none⟩)) := by
  obtain ⟨j, hj, hjs⟩ := Option.map_eq_some_iff.1 info183
  go_enter Tryz.func175, Tryz.ntmps175
  go_wp2_with fail
  rw [Lib.run_to_unsafe w ⟨b, 0, none⟩ Tryz.underlying181 Tryz.underlying210 hj (by rw [hjs]; decide) hsh (Nat.zero_lt_succ 1)]
  simp only [Result.andThen]
  rw [Oper.upon_value]
  go_wp2_with fail
  rw [run_callFunc_extern Tryz.func187 (by kernel_rfl) (by kernel_rfl) (by kernel_rfl) (e := Extern.AbiNoEscape.same) (by kernel_rfl)]
  rw [Lib.run_noEscape]
  simp only [Result.andThen]
  rw [Oper.upon_value]
  go_wp2_with fail
  rw [Lib.run_from_unsafe w ⟨b, 0, none⟩ Tryz.underlying210 Tryz.underlying181 hj hsh lies183]
  simp only [Result.andThen]
  rw [Oper.upon_value]
  go_wp2_with fail
  go_end0
  exact ⟨rfl, rfl⟩
theorem bcc (B b : Nat) (bs : List Value) (w : World) (h : Lib.IsBuilder 183 5 B b bs w) :
    Calls Tryz.prog 175 #[.pointer (some ⟨b, 0, none⟩)] w fun e w' => e = .returned (.tuple #[]) ∧ Lib.BuilderAt 183 5 B b (.pointer (some ⟨b, 0, none⟩)) bs w' ∧ Below B w w' := by
  rcases h with h | h
  · refine (bcc_fresh b w h.cell0 h.shape h.frozen0).mono ?_
    rintro e w' ⟨rfl, rfl⟩
    exact ⟨rfl, h.used _, (Below.refl B w).setCell (p := ⟨b, 0, none⟩) h.1 _⟩
  · refine (bcc_used b w h.cell0).mono ?_
    rintro e w' ⟨rfl, rfl⟩
    exact ⟨rfl, h, Below.refl B _⟩
theorem heap_lt {w : World} {b : Nat} {o : Obj} (h : w.heap[b]? = some o) : b < w.heap.size := (Array.getElem?_eq_some_iff.1 h).1
set_option maxHeartbeats 2000000 in
set_option maxRecDepth 100000 in
theorem bWriteByte (B b : Nat) (bs : List Value) (c : Int) (w : World) (h : Lib.IsBuilder 183 5 B b bs w) (hlen : bs.length + 1 ≤ 140737488355328) (hBw : B ≤ w.heap.size) :
    Calls Tryz.prog 160 #[.pointer (some ⟨b, 0, none⟩), .int .u8 c] w fun e w' => e = .returned .nilIface ∧ Lib.BuilderAt 183 5 B b (.pointer (some ⟨b, 0, none⟩)) (bs ++ [.int .u8 c]) w' ∧ Below B w w' := by
  obtain ⟨i0, hi, hz0, hz1, hz2⟩ := info_parts info5
  go_enter Tryz.func160, Tryz.ntmps160
  go_wp2_with fail
  refine (bcc B b bs _ h).mono ?_
  rintro e w1 ⟨rfl, h1, hb1⟩
  obtain ⟨hB, v, hbk, hown, hne⟩ := h1
  have c0 : w1.cell? ⟨b, 0, none⟩ = some (.pointer (some ⟨b, 0, none⟩)) := by rw [Lib.cell_of_heap hbk]; rfl
  have c1 : w1.cell? ⟨b, 1, none⟩ = some v := by rw [Lib.cell_of_heap hbk]; rfl
  go_wp2_with (at_builtin; refine wpList_append_own _ rfl _ _ 110 rfl B 5 i0 (.int .u8 0) 1 1 Tryz.underlying110 hi hz0 hz1 hz2 rfl (by decide) _ _ _ rfl (hown.alloc _) ⟨w1.heap.size, 0, none⟩ 1 1 [.int .u8 c] rfl rfl ?c1 ?c2 ?c3 ?c4 ?c5 ?_)
  case c1 =>
    intro j u hj
    match j, hj with
    | 0, hj => simp at hj; subst hj; simp [Addr.add]
  case c2 => intro u hu; simp at hu; subst hu; rfl
  case c3 => unfold maxLen; omega
  case c4 => omega
  case c5 => have := hb1.size; simp; omega
  intro v' w2 hown' hgrow _
  have hlt : b < w1.heap.size := heap_lt hbk
  have hb2 : w2.heap[b]? = some (.cells #[.pointer (some ⟨b, 0, none⟩), v] 183 (0, 0)) := by
    rw [hgrow.block b (by simp; omega) (fun e => hne e.symm), Lib.alloc_old w1 _ b hlt]
    exact hbk
  have d0 : w2.cell? ⟨b, 0, none⟩ = some (.pointer (some ⟨b, 0, none⟩)) := by rw [Lib.cell_of_heap hb2]; rfl
  have d1 : w2.cell? ⟨b, 1, none⟩ = some v := by rw [Lib.cell_of_heap hb2]; rfl
  have f1 : w2.frozen? ⟨b, 1, none⟩ = false := Lib.frozen_of_heap hb2 1
  obtain ⟨g, cap, rfl⟩ : ∃ g cap, v' = .slice (some ⟨g, 0, none⟩) (bs.length + 1) cap := by
    rcases hown'.2 with ⟨_, h0⟩ | ⟨g, cap, cur, hv, _⟩
    · omega
    · exact ⟨g, cap, hv⟩
  go_wp2_with fail
  go_ret
  refine ⟨rfl, ?_, ?_⟩
  · exact Lib.BuilderAt.put (T := 183) (e := 5) hB hb2 (bs' := bs ++ [.int .u8 c]) (by simpa using hown') (by decide)
  · exact ((hb1.alloc (by have := hb1.size; omega) _).grown hgrow (by have := hb1.size; simp; omega) (fun k hk => (hown.lt k hk).1)).setCell (p := ⟨b, 1, none⟩) hB _
set_option maxHeartbeats 2000000 in
set_option maxRecDepth 100000 in
theorem bWriteString (B b : Nat) (bs : List Value) (s : ByteArray) (w : World) (h : Lib.IsBuilder 183 5 B b bs w) (hlen : bs.length + s.size ≤ 140737488355328) (hBw : B ≤ w.heap.size) :
    Calls Tryz.prog 159 #[.pointer (some ⟨b, 0, none⟩), .string s] w fun e w' => e = .returned (.tuple #[.int .i64 s.size, .nilIface]) ∧ Lib.BuilderAt 183 5 B b (.pointer (some ⟨b, 0, none⟩)) (bs ++ Lib.strCells s) w' ∧ Below B w w' := by
  obtain ⟨i0, hi, hz0, hz1, hz2⟩ := info_parts info5
  go_enter Tryz.func159, Tryz.ntmps159
  go_wp2_with fail
  refine (bcc B b bs _ h).mono ?_
  rintro e w1 ⟨rfl, h1, hb1⟩
  obtain ⟨hB, v, hbk, hown, hne⟩ := h1
  have c0 : w1.cell? ⟨b, 0, none⟩ = some (.pointer (some ⟨b, 0, none⟩)) := by rw [Lib.cell_of_heap hbk]; rfl
  have c1 : w1.cell? ⟨b, 1, none⟩ = some v := by rw [Lib.cell_of_heap hbk]; rfl
  go_wp2_with (at_builtin; refine Lib.wpList_append_own_string _ rfl _ _ 110 9 rfl B 5 i0 Tryz.underlying110 Tryz.underlying9 hi hz0 hz1 hz2 _ _ _ rfl hown s rfl ?c3 ?c4 ?c5 ?_)
  case c3 => unfold maxLen; omega
  case c4 => omega
  case c5 => have := hb1.size; omega
  intro v' w2 hown' hgrow _
  have hlt : b < w1.heap.size := heap_lt hbk
  have hb2 : w2.heap[b]? = some (.cells #[.pointer (some ⟨b, 0, none⟩), v] 183 (0, 0)) := by
    rw [hgrow.block b hlt (fun e => hne e.symm)]
    exact hbk
  have d0 : w2.cell? ⟨b, 0, none⟩ = some (.pointer (some ⟨b, 0, none⟩)) := by rw [Lib.cell_of_heap hb2]; rfl
  have d1 : w2.cell? ⟨b, 1, none⟩ = some v := by rw [Lib.cell_of_heap hb2]; rfl
  have f1 : w2.frozen? ⟨b, 1, none⟩ = false := Lib.frozen_of_heap hb2 1
  obtain ⟨ao, n', cap, rfl⟩ : ∃ ao n' cap, v' = .slice ao n' cap := by
    rcases hown'.2 with ⟨hv, _⟩ | ⟨g, cap, cur, hv, _⟩
    · exact ⟨_, _, _, hv⟩
    · exact ⟨_, _, _, hv⟩
  go_wp2_with fail
  go_ret2
  refine ⟨rfl, ?_, ?_⟩
  · exact Lib.BuilderAt.put (T := 183) (e := 5) hB hb2 (bs' := bs ++ Lib.strCells s) (by simpa [Lib.strCells_length] using hown') (by decide)
  · exact (hb1.grown hgrow (by have := hb1.size; omega) (fun k hk => (hown.lt k hk).1)).setCell (p := ⟨b, 1, none⟩) hB _
end Go.Proofs.YtddikdpbhjgihaaGreatDoor.X
end
