import Derived.Test.YtddikdpbhjgihaaGreatDoorSC06
import Derived.ProofKit
import Derived.OpenShut
import Derived.Test.YtddikdpbhjgihaaGreatDoorSC07
import Derived.Test.YtddikdpbhjgihaaGreatDoorSC12
import Derived.Test.YtddikdpbhjgihaaGreatDoorSC17
import Derived.Test.YtddikdpbhjgihaaGreatDoorSC15
import Derived.Test.YtddikdpbhjgihaaGreatDoorSC16
import Derived.Test.YtddikdpbhjgihaaGreatDoorSC19
import Derived.Test.YtddikdpbhjgihaaGreatDoorSC20
import Derived.Test.YtddikdpbhjgihaaGreatDoorSC21
import Derived.Test.YtddikdpbhjgihaaGreatDoorSC18
import Derived.Test.YtddikdpbhjgihaaGreatDoorSC09
section
namespace Go.Proofs.YtddikdpbhjgihaaGreatDoorW.PrintWords
open Go.RowKit
def Opens {α : Type} (P : Program) (t : TypeId) (d : Kd α) (ok : α → Prop) : Prop :=
  ∀ {H : Type} (enc : TypeId × Value → H) (w : World) (base : Nat) (spare : Nat → Bool) (held : Bool) (fuel : Nat) (cs : List Value) (x : DataW H × List MemPlace),
    DataW.trod enc P w base spare held fuel t cs = some x → ∃ a : α, d.K w a cs ∧ ok a
theorem opens_int {P : Program} {t : TypeId} {k : IntKind} (ht : P.underlying t = some (.int k)) : Opens P t (Kd.int k) (fun n => (Lit.int k n).wf = true) := by
  intro H enc w base spare held fuel cs x hx
  obtain ⟨n, rfl, _, hw⟩ := DataW.trod_int ht hx
  exact ⟨n, rfl, hw⟩
theorem opens_slice {α : Type} {P : Program} {t e : TypeId} {d : Kd α} {ok : α → Prop} (ht : P.underlying t = some (.slice e)) (hsz : P.cellsOf e = d.sz) (hd : Opens P e d ok) :
    Opens P t (Kd.slice e d) (fun l => l.length ≤ maxLen ∧ ∀ a ∈ l, ok a) := by
  intro H enc w base spare held fuel cs x hx
  rcases DataW.trod_slice ht hx with ⟨rfl, _⟩ | ⟨a, len, cap, elems, rest, n, _, rfl, _, hb, hl, hm, hlen, hel, _, _⟩
  · exact ⟨[], ⟨none, 0, rfl, Nat.le_refl _, rfl, by simp, fun h => absurd h (Nat.lt_irrefl 0)⟩, by simp, fun a h => by simp at h⟩
  · have hone : ∀ i, i < len → ∃ y : α, (∃ c, w.cells? base (a.add (i * P.cellsOf e)) (P.cellsOf e) = some c ∧ d.K w y c) ∧ ok y := by
      intro i hi
      have h1 := hel i hi
      rw [List.getElem?_eq_getElem (by omega)] at h1
      obtain ⟨c, hc, hc2⟩ := Option.bind_eq_some_iff.1 h1
      obtain ⟨y, hy, hok⟩ := hd enc w base spare held n c _ hc2
      exact ⟨y, ⟨c, hc, hy⟩, hok⟩
    have hall : ∀ m, m ≤ len → ∃ l : List α, l.length = m ∧ ∀ i y, l[i]? = some y → (∃ c, w.cells? base (a.add (i * P.cellsOf e)) (P.cellsOf e) = some c ∧ d.K w y c) ∧ ok y := by
      intro m
      induction m with
      | zero => intro _; exact ⟨[], rfl, fun i y h => by simp at h⟩
      | succ m ih =>
        intro h
        obtain ⟨l, hl1, hl2⟩ := ih (by omega)
        obtain ⟨y, hy⟩ := hone m (by omega)
        refine ⟨l ++ [y], by simp [hl1], fun i z hz => ?_⟩
        by_cases hi : i < m
        · rw [List.getElem?_append_left (by omega)] at hz; exact hl2 i z hz
        · by_cases hi2 : i = m
          · subst hi2
            rw [List.getElem?_append_right (by omega), hl1, Nat.sub_self] at hz
            simp at hz; subst hz; exact hy
          · rw [List.getElem?_eq_none (by simp; omega)] at hz; cases hz
    obtain ⟨l, hl1, hl2⟩ := hall len (Nat.le_refl _)
    refine ⟨l, ⟨some a, cap, by rw [hl1], by omega, rfl, by rw [hl1]; exact Nat.le_trans hl hm, fun _ => ⟨a, rfl, fun j y hj => ?_⟩⟩, by rw [hl1]; exact Nat.le_trans hl hm, fun y hy => ?_⟩
    · obtain ⟨⟨c, hc, hK⟩, _⟩ := hl2 j y hj
      obtain ⟨_, h2, h3⟩ := World.cells?_some hc
      refine ⟨c, d.K_len hK, hK, fun i u hu => ?_⟩
      have hi : i < P.cellsOf e := by
        have := (List.getElem?_eq_some_iff.1 hu).1
        omega
      have h4 := h3 i hi
      rw [hu, add_add, hsz] at h4
      exact h4
    · obtain ⟨j, hj, hje⟩ := List.getElem_of_mem hy
      exact (hl2 j y (by rw [List.getElem?_eq_getElem hj, hje])).2
theorem pair_at {α β : Type} {d0 : Kd α} {d1 : Kd β} {w : World} {cs : List Value} {a : α} {b : β} (o s0 s1 : Nat) (h0 : d0.K w a ((cs.drop o).take s0)) (h1 : d1.K w b ((cs.drop (o + s0)).take s1)) :
    (Kd.pair d0 d1).K w (a, b) ((cs.drop o).take (s0 + s1)) :=
  ⟨_, _, by rw [List.take_add, List.drop_drop], h0, h1⟩
end Go.Proofs.YtddikdpbhjgihaaGreatDoorW.PrintWords
end
section
namespace Go.Proofs.YtddikdpbhjgihaaGreatDoor.X
open Go.RowKit Go.Proofs.YtddikdpbhjgihaaGreatDoorW.PrintWords
def ok25 (x : S25) : Prop := (fun n => (Lit.int .i64 n).wf = true) x.f0 ∧ (fun n => (Lit.int .i64 n).wf = true) x.f1
theorem opens25 : Opens Tryz.prog 25 k25 ok25 := by
  intro H enc w base spare held fuel cs x hx
  obtain ⟨xs, m, _, _, hlen, hxl, hf⟩ := DataW.trod_struct Tryz.underlying25 hx
  have hN : cs.length = 2 := hlen.trans (by kernel_rfl)
  have c0 : Tryz.prog.cellsOf 3 = 1 := by kernel_rfl
  have e0 : DataW.trod enc Tryz.prog w base spare held m 3 ((cs.drop 0).take (Tryz.prog.cellsOf 3)) = xs[0]? := hf 0 _ rfl
  rw [c0, List.getElem?_eq_getElem (by rw [hxl]; decide)] at e0
  obtain ⟨a0, K0, w0⟩ := (opens_int Tryz.underlying3) enc w base spare held m _ _ e0
  have c1 : Tryz.prog.cellsOf 3 = 1 := by kernel_rfl
  have e1 : DataW.trod enc Tryz.prog w base spare held m 3 ((cs.drop 1).take (Tryz.prog.cellsOf 3)) = xs[1]? := hf 1 _ rfl
  rw [c1, List.getElem?_eq_getElem (by rw [hxl]; decide)] at e1
  obtain ⟨a1, K1, w1⟩ := (opens_int Tryz.underlying3) enc w base spare held m _ _ e1
  have K := (pair_at 0 1 1 K0 K1)
  rw [List.drop_zero, List.take_of_length_le (by rw [hN]; exact Nat.le_refl _)] at K
  exact ⟨⟨a0, a1⟩, K, ⟨w0, w1⟩⟩
end Go.Proofs.YtddikdpbhjgihaaGreatDoor.X
end
section
namespace Go.Proofs.YtddikdpbhjgihaaGreatDoor.X
open Go.RowKit Go.Proofs.YtddikdpbhjgihaaGreatDoorW.PrintWords Go.Proofs.YtddikdpbhjgihaaGreatDoorW.PrintLast
open ObsMer (toL toL_inj toL_append itoaB)
set_option linter.unusedVariables false
theorem blkB_at (s : ByteArray) (o i : Nat) (hi : i < 8) : (blkB s o).getD i 0 = ((s.data.toList.drop o).getD i 0).toNat := by
  unfold blkB
  rw [List.getD_eq_getElem?_getD, List.getElem?_map, List.getElem?_range hi]
  rfl
theorem blk_in {s : ByteArray} {o i : Nat} (hi : i < 8) (h : o + i < s.size) : ((blkB s o).getD i 0 : Int) = bt s ((o : Int) + (i : Int)) := by
  rw [blkB_at s o i hi, List.getD_eq_getElem?_getD, List.getElem?_drop]
  unfold bt
  have e : ((o : Int) + (i : Int)).toNat = o + i := by omega
  rw [e, dif_pos h, List.getElem?_eq_getElem (by rw [← Go.Lib.size_eq]; exact h)]
  rfl
theorem blk_out {s : ByteArray} {o i : Nat} (hi : i < 8) (h : s.size ≤ o + i) : (blkB s o).getD i 0 = 0 := by
  rw [blkB_at s o i hi, List.getD_eq_getElem?_getD, List.getElem?_drop, List.getElem?_eq_none (by rw [← Go.Lib.size_eq]; exact h)]
  rfl
theorem bt_range (s : ByteArray) (i : Int) : 0 ≤ bt s i ∧ bt s i < 256 := by
  unfold bt
  split
  · rename_i h
    have := UInt8.toNat_lt (s[i.toNat]'h)
    omega
  · omega
theorem sum_l1 (s : ByteArray) (st : Int) (o k : Nat) (ho : o ≤ 140737488355328) : ∀ (d i : Nat), i + d = 8 →
    observatoryref01_Sum.l1 (k + d + 1) s st (o : Int) (blkN (blkB s o) i : Int) ((o : Int) + (i : Int)) = observatoryref01_Sum.l0 k s (mixI (Go.bits .xor .u64 st (blkN (blkB s o) 8 : Int))) ((o + 8 : Nat) : Int) := by
  intro d
  induction d with
  | zero =>
    intro i hi
    obtain rfl : i = 8 := by omega
    rw [observatoryref01_Sum.l1, w64 (by omega) (by omega), if_neg (by omega), mix_eq, Option.bind_some]
    rfl
  | succ d ih =>
    intro i hi
    have hlt := blkN_lt (blkB_lt s o) i
    have h7 : 256 ^ i ≤ 256 ^ 7 := Nat.pow_le_pow_right (by decide) (by omega)
    have h77 : (256 : Nat) ^ 7 = 72057594037927936 := by decide
    have hn := ih (i + 1) (by omega)
    rw [blkN] at hn
    rw [show k + (d + 1) + 1 = (k + d + 1) + 1 by omega, observatoryref01_Sum.l1, w64 (n := (o : Int) + 8) (by omega) (by omega), if_pos (by omega)]
    have e1 : wrap64 ((o : Int) + (i : Int) + 1) = (o : Int) + ((i + 1 : Nat) : Int) := by rw [w64 (by omega) (by omega)]; omega
    rw [e1]
    by_cases h : o + i < s.size
    · rw [if_pos (by omega), if_pos (by omega), ← hn]
      have hb := bt_range s ((o : Int) + (i : Int))
      have he := blk_in (s := s) (o := o) (i := i) (by omega) h
      congr 1
      rw [IntKind.wrap_u64, IntKind.wrap_u64, IntKind.wrap_u64]
      omega
    · rw [if_neg (by omega), ← hn, blk_out (by omega) (by omega)]
      congr 1
      rw [IntKind.wrap_u64]
      omega
def hexSuf (u : Nat) : Nat → List UInt8
  | 0 => []
  | i + 1 => UInt8.ofNat (hexd (u / 16 ^ i % 16)).toNat :: hexSuf u i
theorem hexSuf_eq (u : Nat) : ∀ t, (hexL u t).map (fun n => UInt8.ofNat n.toNat) = hexSuf u (t + 1)
  | 0 => by simp [hexL, hexSuf, List.range, List.range.loop]
  | t + 1 => by
    rw [hexL_succ, List.map_cons, hexSuf_eq u t]
    exact (hexSuf.eq_2 u (t + 1)).symm
theorem hex16_toL (u : Nat) : toL (hex16 u) = hexSuf u 16 := hexSuf_eq u 15
def hexS16 : ByteArray := ⟨#[48, 49, 50, 51, 52, 53, 54, 55, 56, 57, 97, 98, 99, 100, 101, 102]⟩
theorem hexS_at (d : Nat) (h : d < 16) : toL (hexS16.extract d (d + 1)) = [UInt8.ofNat (hexd d).toNat] := by
  have : d = 0 ∨ d = 1 ∨ d = 2 ∨ d = 3 ∨ d = 4 ∨ d = 5 ∨ d = 6 ∨ d = 7 ∨ d = 8 ∨ d = 9 ∨ d = 10 ∨ d = 11 ∨ d = 12 ∨ d = 13 ∨ d = 14 ∨ d = 15 := by omega
  rcases this with h | h | h | h | h | h | h | h | h | h | h | h | h | h | h | h <;> subst h <;> rfl
theorem sum_l2 (u : Nat) (hu : u < 18446744073709551616) : ∀ (d k i : Nat) (acc : ByteArray), i + d = 16 → toL acc = hexSuf u i → acc.size = i → d < k → observatoryref01_Sum.l2 k ((u / 16 ^ i : Nat) : Int) acc (i : Int) = some (hex16 u) := by
  intro d
  induction d with
  | zero =>
    intro k i acc h1 h2 h3 hk
    obtain ⟨k, rfl⟩ : ∃ q, k = q + 1 := ⟨k - 1, by omega⟩
    obtain rfl : i = 16 := by omega
    rw [observatoryref01_Sum.l2, if_neg (by omega)]
    exact congrArg some (toL_inj (by rw [h2, hex16_toL]))
  | succ d ih =>
    intro k i acc h1 h2 h3 hk
    obtain ⟨k, rfl⟩ : ∃ q, k = q + 1 := ⟨k - 1, by omega⟩
    have g1 : (i : Int) < 16 := by omega
    have g2 : 1 + acc.size ≤ 9223372036854775807 := by omega
    have e4 : wrap64 ((i : Int) + 1) = ((i + 1 : Nat) : Int) := by rw [w64 (by omega) (by omega)]; omega
    have hv : u / 16 ^ i < 18446744073709551616 := Nat.lt_of_le_of_lt (Nat.div_le_self _ _) hu
    have hdv : u / 16 ^ i / 16 = u / 16 ^ (i + 1) := by rw [Nat.div_div_eq_div_mul, Nat.pow_succ]
    have hd : u / 16 ^ i % 16 < 16 := Nat.mod_lt _ (by decide)
    have hL := hexS_at (u / 16 ^ i % 16) hd
    have hs : (hexS16.extract (u / 16 ^ i % 16) (u / 16 ^ i % 16 + 1)).size = 1 := by rw [← ObsMer.toL_length, hL]; rfl
    have hstep := ih k (i + 1) (hexS16.extract (u / 16 ^ i % 16) (u / 16 ^ i % 16 + 1) ++ acc) (by omega) (by rw [toL_append, hL, h2, hexSuf]; rfl) (by rw [ByteArray.size_append, hs]; omega) (by omega)
    rw [← hdv] at hstep
    generalize u / 16 ^ i = v at hv hd hL hs hstep
    have e1 : Int.tmod (v : Int) 16 = ((v % 16 : Nat) : Int) := by rw [Int.tmod_eq_emod_of_nonneg (Int.natCast_nonneg v)]; rfl
    have e2 : IntKind.u64.wrap (((v % 16 : Nat) : Int) + 1) = ((v % 16 + 1 : Nat) : Int) := by
      clear hs hstep hL e1
      rw [IntKind.wrap_u64]; omega
    have e3 : IntKind.u64.wrap (Int.tdiv (v : Int) 16) = ((v / 16 : Nat) : Int) := by
      clear hs hstep hL e1 e2
      rw [Int.tdiv_eq_ediv_of_nonneg (Int.natCast_nonneg v), IntKind.wrap_u64]; omega
    have g3 : ((v % 16 + 1 : Nat) : Int) ≤ 16 := by
      clear hs hstep hL e1 e2 e3
      omega
    rw [observatoryref01_Sum.l2, e1, e2, e3, e4, if_pos g1, if_pos (Int.natCast_nonneg _), if_pos (Int.ofNat_le.2 (Nat.le_succ _)), if_pos g3, Int.toNat_natCast, Int.toNat_natCast, ← hexS16, hs, if_pos g2]
    exact hstep
theorem sum_l0 (s : ByteArray) (hs : s.size ≤ 140737488355320) : ∀ (d k i : Nat), i + d = s.size / 8 + 1 → 10 * d + 18 < k → observatoryref01_Sum.l0 k s (stI s i) ((8 * i : Nat) : Int) = some (sumF s) := by
  intro d
  induction d with
  | zero =>
    intro k i h1 hk
    obtain ⟨k, rfl⟩ : ∃ q, k = q + 1 := ⟨k - 1, by omega⟩
    have hr := stI_range s i
    obtain ⟨u, hu⟩ := Int.eq_ofNat_of_zero_le hr.1
    rw [observatoryref01_Sum.l0, if_neg (by omega), hu]
    have h2 := sum_l2 u (by omega) 16 k 0 (⟨#[]⟩ : ByteArray) (by omega) rfl rfl (by omega)
    rw [Nat.pow_zero, Nat.div_one] at h2
    unfold sumF
    rw [← show i = s.size / 8 + 1 by omega, hu]
    exact h2
  | succ d ih =>
    intro k i h1 hk
    obtain ⟨k, rfl⟩ : ∃ q, k = q + 8 + 1 + 1 := ⟨k - 10, by omega⟩
    rw [observatoryref01_Sum.l0, if_pos (by omega)]
    have h2 := sum_l1 s (stI s i) (8 * i) k (by omega) 8 0 (by omega)
    have e : ((8 * i : Nat) : Int) + ((0 : Nat) : Int) = ((8 * i : Nat) : Int) := by omega
    rw [e] at h2
    have e2 : (blkN (blkB s (8 * i)) 0 : Int) = 0 := rfl
    rw [e2] at h2
    rw [h2]
    have h3 := ih k (i + 1) (by omega) (by omega)
    rw [stI] at h3
    exact h3
theorem Sum_eq {k : Nat} {s : ByteArray} (hs : s.size ≤ 140737488355320) (hk : 2 * s.size + 40 ≤ k) : observatoryref01_Sum.f k s = some (sumF s) := by
  unfold observatoryref01_Sum.f
  have := sum_l0 s hs (s.size / 8 + 1) k 0 (by omega) (by omega)
  rw [show IntKind.u64.wrap (s.size : Int) = (s.size : Int) by rw [IntKind.wrap_u64]; omega]
  exact this
end Go.Proofs.YtddikdpbhjgihaaGreatDoor.X
end
section
namespace Go.Proofs.YtddikdpbhjgihaaGreatDoor.X
open Go.RowKit Go.Proofs.YtddikdpbhjgihaaGreatDoorW.PrintWords Go.Proofs.YtddikdpbhjgihaaGreatDoorW.PrintLast
open ObsMer (toL toL_inj toL_append itoaB)
set_option linter.unusedVariables false
theorem isHex_at (c : UInt8) : isHex c = (decide (48 ≤ c.toNat) && decide (c.toNat ≤ 57) || decide (97 ≤ c.toNat) && decide (c.toNat ≤ 102)) := by
  have h : ∀ n : Fin 256, isHex (UInt8.ofNat n.val) = (decide (48 ≤ n.val) && decide (n.val ≤ 57) || decide (97 ≤ n.val) && decide (n.val ≤ 102)) := by decide +kernel
  have := h ⟨c.toNat, c.toNat_lt⟩
  simpa using this
theorem digit_hex (k : Nat) (c : UInt8) : ∃ d : Int, observatoryref01_Digit.f (k + 1) (c.toNat : Int) = some d ∧ (decide (d < 0) = !(isHex c)) := by
  have hlt := c.toNat_lt
  rw [isHex_at]
  unfold observatoryref01_Digit.f
  simp only [observatoryref01_Digit.j0]
  by_cases h1 : (c.toNat : Int) ≥ 48
  · rw [if_pos h1]
    by_cases h2 : (c.toNat : Int) ≤ 57
    · rw [if_pos (by simpa using h2)]
      refine ⟨_, rfl, ?_⟩
      have : ¬ ((c.toNat : Int) - 48) % 256 < 0 := by omega
      simp [this]; omega
    · rw [if_neg (by simpa using h2)]
      by_cases h3 : (c.toNat : Int) ≥ 97
      · rw [if_pos h3]
        by_cases h4 : (c.toNat : Int) ≤ 102
        · rw [if_pos h4]
          refine ⟨_, rfl, ?_⟩
          have : ¬ ((c.toNat : Int) - 97) % 256 + 10 < 0 := by omega
          simp [this]; omega
        · rw [if_neg h4]
          refine ⟨_, rfl, ?_⟩
          simp; omega
      · rw [if_neg h3]
        refine ⟨_, rfl, ?_⟩
        simp; omega
  · rw [if_neg h1, if_neg (by simp), if_neg (by omega)]
    refine ⟨_, rfl, ?_⟩
    simp; omega
theorem bt_at {s : ByteArray} {i : Nat} (h : i < s.size) : bt s (i : Int) = (((toL s)[i]'(by rw [ObsMer.toL_length]; exact h)).toNat : Int) := by
  unfold bt
  rw [dif_pos (by rw [Int.toNat_natCast]; exact h)]
  rfl
theorem is_l0 (s : ByteArray) (hs : s.size ≤ 9223372036854775806) : ∀ (d k i : Nat), i + d = min s.size 16 → ((toL s).take i).all isHex = true → 2 * d + 3 < k → observatoryref01_Is.l0 k s (i : Int) = some (isDg s) := by
  intro d
  induction d with
  | zero =>
    intro k i h1 h2 hk
    obtain ⟨k, rfl⟩ : ∃ q, k = q + 2 := ⟨k - 2, by omega⟩
    have hfin : observatoryref01_Is.j1 (k + 1) s (i : Int) false = some (isDg s) := by
      simp only [observatoryref01_Is.j1]
      rw [if_neg (by simp)]
      congr 1
      unfold isDg
      by_cases h : s.size = 16
      · have : (toL s).take i = toL s := List.take_of_length_le (by rw [ObsMer.toL_length]; omega)
        rw [this] at h2
        show _ = (_ && (toL s).all isHex)
        rw [h2, h]; rfl
      · have : ((s.size : Int) == 16) = false := beq_eq_false_iff_ne.2 (by omega)
        rw [this, decide_eq_false h]; rfl
    simp only [observatoryref01_Is.l0]
    by_cases h : (i : Int) < (s.size : Int)
    · rw [if_pos h, show decide ((i : Int) < 16) = false from decide_eq_false (by omega)]
      exact hfin
    · rw [if_neg h]
      exact hfin
  | succ d ih =>
    intro k i h1 h2 hk
    obtain ⟨k, rfl⟩ : ∃ q, k = q + 3 := ⟨k - 3, by omega⟩
    have hi : i < s.size := by omega
    have hiL : i < (toL s).length := by rw [ObsMer.toL_length]; exact hi
    obtain ⟨dg, hd, hn⟩ := digit_hex k (toL s)[i]
    simp only [observatoryref01_Is.l0]
    rw [if_pos (by omega), show decide ((i : Int) < 16) = true from decide_eq_true (by omega)]
    simp only [observatoryref01_Is.j1]
    rw [if_pos trivial, if_pos (by omega), if_pos (by omega), bt_at hi, hd, Option.bind_some]
    cases hx : isHex (toL s)[i] with
    | true =>
      rw [hx] at hn
      have : ¬ dg < 0 := by simpa using hn
      rw [if_neg this, show wrap64 ((i : Int) + 1) = ((i + 1 : Nat) : Int) by rw [w64 (by omega) (by omega)]; omega]
      exact ih (k + 1) (i + 1) (by omega) (by rw [List.take_succ_eq_append_getElem hiL, List.all_append, h2]; simp [hx]) (by omega)
    | false =>
      rw [hx] at hn
      have : dg < 0 := by simpa using hn
      rw [if_pos this]
      congr 1
      unfold isDg
      have : (toL s).all isHex = false := by rw [List.all_eq_false]; exact ⟨_, List.getElem_mem hiL, by rw [hx]; simp⟩
      show _ = (_ && (toL s).all isHex)
      rw [this, Bool.and_false]
theorem Is_eq {k : Nat} {s : ByteArray} (hs : s.size ≤ 9223372036854775806) (hk : 36 ≤ k) : observatoryref01_Is.f k s = some (isDg s) :=
  is_l0 s hs (min s.size 16) k 0 (by omega) rfl (by omega)
theorem digests_l0 (l : List ByteArray) (hl : l.length ≤ 9223372036854775806) (hs : ∀ s ∈ l, s.size ≤ 9223372036854775806) : ∀ (d k i : Nat), i + d = l.length → (l.take i).all isDg = true → d + 36 < k → observatoryref02_digests.l0 k l (i : Int) = some (l.all isDg) := by
  intro d
  induction d with
  | zero =>
    intro k i h1 h2 hk
    obtain ⟨k, rfl⟩ : ∃ q, k = q + 1 := ⟨k - 1, by omega⟩
    simp only [observatoryref02_digests.l0]
    rw [if_neg (by omega)]
    rw [List.take_of_length_le (by omega)] at h2
    rw [h2]
  | succ d ih =>
    intro k i h1 h2 hk
    obtain ⟨k, rfl⟩ : ∃ q, k = q + 1 := ⟨k - 1, by omega⟩
    have hi : i < l.length := by omega
    simp only [observatoryref02_digests.l0]
    rw [if_pos (by omega), if_pos (by omega), rdB_at hi, Is_eq (hs _ (List.getElem_mem hi)) (by omega), Option.bind_some]
    cases hx : isDg l[i] with
    | true =>
      rw [if_pos rfl, show wrap64 ((i : Int) + 1) = ((i + 1 : Nat) : Int) by rw [w64 (by omega) (by omega)]; omega]
      exact ih k (i + 1) (by omega) (by rw [List.take_succ_eq_append_getElem hi, List.all_append, h2]; simp [hx]) (by omega)
    | false =>
      rw [if_neg (by simp)]
      have : l.all isDg = false := by rw [List.all_eq_false]; exact ⟨_, List.getElem_mem hi, by rw [hx]; simp⟩
      rw [this]
theorem digests_eq {k : Nat} {l : List ByteArray} (hl : l.length ≤ 9223372036854775806) (hs : ∀ s ∈ l, s.size ≤ 9223372036854775806) (hk : l.length + 37 ≤ k) : observatoryref02_digests.f k l = some (l.all isDg) :=
  digests_l0 l hl hs l.length k 0 (by omega) rfl (by omega)
end Go.Proofs.YtddikdpbhjgihaaGreatDoor.X
end
section
namespace Go.Proofs.YtddikdpbhjgihaaGreatDoor.X
open Go.RowKit Go.Proofs.YtddikdpbhjgihaaGreatDoorW.PrintWords Go.Proofs.YtddikdpbhjgihaaGreatDoorW.PrintLast
open ObsMer (joined toL half root nodeT leafT emptyT plen up texts ptexts pairT itoaB)
set_option linter.unusedVariables false
theorem Joined_ok {l : List ByteArray} (h : jn l ≤ 140737488355328) : observatoryref01_Joined.f l = some (joined l) := by unfold observatoryref01_Joined.f; rw [if_pos h]
theorem List_ref {k : Nat} {l : List ByteArray} (hj : jn l ≤ 100000) (hk : 300000 ≤ k) : observatoryref01_List.f k l = some (listF l) := by
  have hs := joined_jn l (by omega)
  unfold observatoryref01_List.f
  rw [Joined_ok (by omega), Option.bind_some, Sum_eq (by omega) (by omega), Option.bind_some]
  rfl
theorem node_ref {k : Nat} {a b : ByteArray} (ha : a.size ≤ 1000) (hb : b.size ≤ 1000) (hk : 300000 ≤ k) : observatoryref02_node.f k a b = some (sumF (nodeT a b)) := by
  unfold observatoryref02_node.f
  rw [List_ref (by simp [jn]; have : (⟨#[110, 111, 100, 101]⟩ : ByteArray).size = 4 := rfl; omega) hk, Option.bind_some]
  rfl
theorem Leaf_ref {k : Nat} {s : ByteArray} (hs : s.size ≤ 1000) (hk : 300000 ≤ k) : observatoryref02_Leaf.f k s = some (sumF (leafT s)) := by
  unfold observatoryref02_Leaf.f
  rw [List_ref (by simp [jn]; have : (⟨#[108, 101, 97, 102]⟩ : ByteArray).size = 4 := rfl; omega) hk, Option.bind_some]
  rfl
theorem Empty_ref {k : Nat} (hk : 300000 ≤ k) : observatoryref02_Empty.f k = some (sumF emptyT) := by
  unfold observatoryref02_Empty.f
  rw [List_ref (by simp [jn]; have : (⟨#[101, 109, 112, 116, 121]⟩ : ByteArray).size = 5 := rfl; omega) hk, Option.bind_some]
  rfl
theorem tLeaf {s : ByteArray} (hs : s.size ≤ 1000) : tree_Leaf.f s = some (sumF (leafT s)) := by
  unfold tree_Leaf.f
  rw [List_ok, Option.bind_some]
  · rfl
  · have := joined_size [⟨#[108, 101, 97, 102]⟩, s] (by
      intro x hx
      simp only [List.mem_cons, List.not_mem_nil, or_false] at hx
      rcases hx with rfl | rfl
      · decide
      · exact hs)
    simp only [List.length_cons, List.length_nil] at this
    omega
theorem nodeJ {a b : ByteArray} (ha : a.size ≤ 1000) (hb : b.size ≤ 1000) : observatoryref01_Joined.f [⟨#[110, 111, 100, 101]⟩, a, b] = some (nodeT a b) :=
  Joined_ok (by simp [jn]; have : (⟨#[110, 111, 100, 101]⟩ : ByteArray).size = 4 := rfl; omega)
theorem root_ref : ∀ (d k : Nat) (l : List ByteArray), l.length ≤ d → okB l = true → d + 300001 ≤ k → observatoryref02_root.f k l = some (root sumF l) := by
  intro d
  induction d with
  | zero =>
    intro k l h1 h2 hk
    obtain ⟨k, rfl⟩ : ∃ q, k = q + 1 := ⟨k - 1, by omega⟩
    obtain rfl : l = [] := List.eq_nil_of_length_eq_zero (by omega)
    simp only [observatoryref02_root.f]
    rw [if_pos (by simp), Empty_ref (by omega), Option.bind_some, ObsMer.root_nil]
  | succ d ih =>
    intro k l h1 h2 hk
    obtain ⟨k, rfl⟩ : ∃ q, k = q + 1 := ⟨k - 1, by omega⟩
    simp only [observatoryref02_root.f]
    by_cases h0 : l.length = 0
    · obtain rfl : l = [] := List.eq_nil_of_length_eq_zero h0
      rw [if_pos (by simp), Empty_ref (by omega), Option.bind_some, ObsMer.root_nil]
    · rw [if_neg (by omega)]
      by_cases h3 : l.length = 1
      · rw [if_pos (by omega), if_pos (by omega)]
        match l, h3 with
        | [a], _ => rw [ObsMer.root_one]; rfl
      · have hl := ObsMer.half_lt (n := l.length) (by omega)
        have hp := ObsMer.half_pos l.length
        rw [if_neg (by omega), Half_eq (by omega) (by have := okB_len h2; omega), Option.bind_some, if_pos (by omega), if_pos (by omega), Int.toNat_natCast]
        rw [ih k _ (by rw [List.length_take]; omega) (okB_take h2 _) (by omega), Option.bind_some, ih k _ (by rw [List.length_drop]; omega) (okB_drop h2 _) (by omega), Option.bind_some]
        rw [node_ref (root_size (okB_take h2 _) (by rw [List.length_take]; omega)) (root_size (okB_drop h2 _) (by rw [List.length_drop]; omega)) (by omega), Option.bind_some, ← ObsMer.root_two sumF (by omega)]
theorem take_last (p : List ByteArray) (h : p.length ≤ 9223372036854775806) : p.take (wrap64 ((p.length : Int) - 1)).toNat = p.dropLast := by
  rw [w64 (by omega) (by omega), List.dropLast_eq_take]
  congr 1
  omega
theorem rd_last {p : List ByteArray} (h : p.length ≤ 9223372036854775806) (h0 : 1 ≤ p.length) : rdOf ByteArray.empty p (wrap64 ((p.length : Int) - 1)) = p.getLastD ByteArray.empty := by
  rw [w64 (by omega) (by omega), show (p.length : Int) - 1 = ((p.length - 1 : Nat) : Int) by omega, rdB_at (by omega), List.getLastD_eq_getLast?, List.getLast?_eq_getElem?, List.getElem?_eq_getElem (by omega)]
  rfl
theorem dl_dg {p : List ByteArray} (h : p.all isDg = true) : p.dropLast.all isDg = true := by
  rw [List.all_eq_true]
  intro s hs
  exact List.all_eq_true.1 h s (List.dropLast_subset _ hs)
theorem up_ref (leaf : ByteArray) (hleaf : leaf.size ≤ 1000) : ∀ (d k n i : Nat) (p : List ByteArray), n ≤ d → i < n → n ≤ 1000000 → p.all isDg = true → p.length = plen n i → p.length ≤ 1000000 → d + 300001 ≤ k →
    observatoryref02_up.f k (n : Int) (i : Int) leaf p = some (up sumF n i leaf p) ∧ observatoryref02_PathTexts.f k (n : Int) (i : Int) leaf p = some (ptexts sumF n i leaf p) ∧ (ptexts sumF n i leaf p).length ≤ n ∧ observatoryref02_length.f k (n : Int) (i : Int) = some (plen n i : Int) ∧ plen n i ≤ n := by
  intro d
  induction d with
  | zero => intro k n i p h1 h2; omega
  | succ d ih =>
    intro k n i p h1 h2 h3 h4 h5 h6 hk
    obtain ⟨k, rfl⟩ : ∃ q, k = q + 1 := ⟨k - 1, by omega⟩
    simp only [observatoryref02_up.f, observatoryref02_PathTexts.f, observatoryref02_length.f]
    by_cases h0 : n = 1
    · subst h0
      have h1' : ((1 : Nat) : Int) = 1 := rfl
      rw [if_pos h1', if_pos h1', if_pos h1', ObsMer.up_one sumF (Nat.le_refl _), ObsMer.ptexts_one sumF (Nat.le_refl _), ObsMer.plen_one (Nat.le_refl _)]
      exact ⟨rfl, rfl, by simp, rfl, by omega⟩
    · have hl := ObsMer.half_lt (n := n) (by omega)
      have hp := ObsMer.half_pos n
      have hsz := last_size h4
      have hpl : 1 ≤ p.length := by
        rw [h5]
        by_cases hi : i < half n
        · rw [ObsMer.plen_lo (n := n) (i := i) (by omega) hi]; omega
        · rw [ObsMer.plen_hi (n := n) (i := i) (by omega) (by omega)]; omega
      have hdl : p.dropLast.length = p.length - 1 := List.length_dropLast
      have e1 : wrap64 ((p.length : Int) - 1) = (p.length : Int) - 1 := w64 (by omega) (by omega)
      have hT := take_last p (by omega)
      have hR := rd_last (p := p) (by omega) hpl
      have c1 : 0 ≤ (p.length : Int) - 1 := by omega
      have c2 : (p.length : Int) - 1 < (p.length : Int) := by omega
      have c3 : (p.length : Int) - 1 ≤ (p.length : Int) := by omega
      rw [if_neg (by omega), if_neg (by omega), if_neg (by omega), Half_eq (by omega) (by omega), Option.bind_some, Option.bind_some, Option.bind_some, hT, hR, e1, if_pos c1, if_pos c2, if_pos c3, if_pos c1, if_pos c2, if_pos c3]
      by_cases hi : i < half n
      · have hq : p.dropLast.length = plen (half n) i := by rw [hdl, h5, ObsMer.plen_lo (n := n) (i := i) (by omega) hi]; omega
        obtain ⟨g1, g2, g3, g4, g5⟩ := ih k (half n) i p.dropLast (by omega) hi (by omega) (dl_dg h4) hq (by omega) (by omega)
        have hi' : (i : Int) < (half n : Int) := by omega
        have g6 : (ptexts sumF (half n) i leaf p.dropLast).length < 8796093022208 := by omega
        rw [if_pos hi', if_pos hi', if_pos hi', g1, g2, g4, Option.bind_some, Option.bind_some, Option.bind_some, Option.bind_some, node_ref (up_size hleaf _ _ _) hsz (by omega), nodeJ (up_size hleaf _ _ _) hsz, Option.bind_some, Option.bind_some, if_pos g6, ObsMer.up_lo sumF (n := n) (i := i) (by omega) hi, ObsMer.ptexts_lo sumF (n := n) (i := i) (by omega) hi, ObsMer.plen_lo (n := n) (i := i) (by omega) hi, w64 (by omega) (by omega)]
        exact ⟨rfl, rfl, by simp; omega, congrArg some (by omega), by omega⟩
      · have hq : p.dropLast.length = plen (n - half n) (i - half n) := by rw [hdl, h5, ObsMer.plen_hi (n := n) (i := i) (by omega) (by omega)]; omega
        obtain ⟨g1, g2, g3, g4, g5⟩ := ih k (n - half n) (i - half n) p.dropLast (by omega) (by omega) (by omega) (dl_dg h4) hq (by omega) (by omega)
        have e2 : wrap64 ((n : Int) - (half n : Int)) = ((n - half n : Nat) : Int) := by rw [w64 (by omega) (by omega)]; omega
        have e3 : wrap64 ((i : Int) - (half n : Int)) = ((i - half n : Nat) : Int) := by rw [w64 (by omega) (by omega)]; omega
        have hi' : ¬ (i : Int) < (half n : Int) := by omega
        have g6 : (ptexts sumF (n - half n) (i - half n) leaf p.dropLast).length < 8796093022208 := by omega
        rw [if_neg hi', if_neg hi', if_neg hi', e2, e3, g1, g2, g4, Option.bind_some, Option.bind_some, Option.bind_some, Option.bind_some, node_ref hsz (up_size hleaf _ _ _) (by omega), nodeJ hsz (up_size hleaf _ _ _), Option.bind_some, Option.bind_some, if_pos g6, ObsMer.up_hi sumF (n := n) (i := i) (by omega) (by omega), ObsMer.ptexts_hi sumF (n := n) (i := i) (by omega) (by omega), ObsMer.plen_hi (n := n) (i := i) (by omega) (by omega), w64 (by omega) (by omega)]
        exact ⟨rfl, rfl, by simp; omega, congrArg some (by omega), by omega⟩
end Go.Proofs.YtddikdpbhjgihaaGreatDoor.X
end
section
namespace Go.Proofs.YtddikdpbhjgihaaGreatDoor.X
open Go.RowKit Go.Proofs.YtddikdpbhjgihaaGreatDoorW.PrintWords Go.Proofs.YtddikdpbhjgihaaGreatDoorW.PrintLast
open ObsMath
theorem rd41_at {l : List S125} {i : Nat} (hi : i < l.length) : rd_T125 l (i : Int) = l[i] := by simp [rd_T125, List.getElem?_eq_getElem hi]
theorem dupN_iff (l : List S125) : ∀ n, n ≤ l.length → (dupN l n = false ↔ ∀ i j, i < j → j < n → XI l i ≠ XI l j)
  | 0, _ => by simp [dupN]
  | n + 1, h => by
    have ih := dupN_iff l n (by omega)
    simp only [dupN, Bool.or_eq_false_iff, ih, List.any_eq_false]
    constructor
    · rintro ⟨h1, h2⟩ i j hij hj
      by_cases e : j = n
      · subst e
        have hi : i < l.length := by omega
        have hm : l[i] ∈ l.take j := by
          rw [List.mem_take_iff_getElem]
          exact ⟨i, by omega, rfl⟩
        have := h2 _ hm
        unfold XI
        rw [rd41_at hi]
        simpa using this
      · exact h1 i j hij (by omega)
    · intro h1
      refine ⟨fun i j hij hj => h1 i j hij (by omega), fun p hp => ?_⟩
      obtain ⟨i, hi, rfl⟩ := List.mem_take_iff_getElem.1 hp
      have := h1 i n (by omega) (by omega)
      unfold XI at this
      rw [rd41_at (by omega)] at this
      simpa using this
structure IGood (l : List S125) (x : Int) : Prop where
  n1 : 1 ≤ l.length
  n16 : l.length ≤ 16
  hx : inP x = true
  ok : l.all okP = true
  nd : dupN l l.length = false
theorem IGood.dst {l : List S125} {x : Int} (h : IGood l x) : Dst (XI l) l.length where
  lo i _ := (ok_at h.ok i).1.1
  hi i _ := (ok_at h.ok i).1.2
  inj i j hi hj e := by
    have hd := (dupN_iff l l.length (Nat.le_refl _)).1 h.nd
    rcases Nat.lt_trichotomy i j with h1 | h1 | h1
    · exact absurd e (hd i j h1 hj)
    · exact h1
    · exact absurd e.symm (hd j i h1 hi)
def ival (l : List S125) (x : Int) : Int := nv (XI l) (YI l) x (l.length - 1) 0
theorem IGood.val {l : List S125} {x : Int} (h : IGood l x) : interpF l x = (ival l x, 0) := interpF_ok h.n1 h.n16 h.hx h.ok h.nd
theorem IGood.at_ {l : List S125} {x : Int} (h : IGood l x) (y : Int) (hy : inP y = true) : IGood l y := ⟨h.n1, h.n16, hy, h.ok, h.nd⟩
end Go.Proofs.YtddikdpbhjgihaaGreatDoor.X
end
section
namespace Go.Proofs.YtddikdpbhjgihaaGreatDoor.X
open Go.RowKit Go.Proofs.YtddikdpbhjgihaaGreatDoorW.PrintWords Go.Proofs.YtddikdpbhjgihaaGreatDoorW.PrintLast
open ObsMath
set_option linter.unusedVariables false
theorem elem7_eq (a : Int) : observatorylaw07_element.f a = some (a % 2147483647) := by
  unfold observatorylaw07_element.f
  have h1 : Int.tmod a 2147483647 = if 0 ≤ a then a % 2147483647 else -((-a) % 2147483647) := by
    split
    · rename_i h; exact Int.tmod_eq_emod_of_nonneg h
    · rename_i h
      have e := Int.neg_tmod (-a) 2147483647
      rw [Int.neg_neg] at e
      rw [e, Int.tmod_eq_emod_of_nonneg (by omega)]
  by_cases h0 : 0 ≤ a
  · rw [if_pos h0] at h1
    rw [h1, if_neg (by omega)]
  · rw [if_neg h0] at h1
    rw [h1]
    by_cases h2 : -(-a % 2147483647) < 0
    · rw [if_pos h2, w64 (by omega) (by omega)]; congr 1; omega
    · rw [if_neg h2]; congr 1; omega
theorem inP_mod (a : Int) : inP (a % 2147483647) = true := inP_iff.2 (by omega)
def outL (l : List Int) : Nat → List Int
  | 0 => []
  | i + 1 => outL l i ++ [if i < l.length then rd l i % 2147483647 else (i : Int)]
theorem outL_length (l : List Int) : ∀ n, (outL l n).length = n
  | 0 => rfl
  | n + 1 => by simp [outL, outL_length l n]
theorem outL_inP (l : List Int) : ∀ n, n ≤ 16 → (outL l n).all inP = true
  | 0, _ => rfl
  | n + 1, h => by
    rw [outL, List.all_append, outL_inP l n (by omega), Bool.true_and, List.all_cons, List.all_nil, Bool.and_true]
    split
    · exact inP_mod _
    · exact inP_iff.2 (by omega)
theorem made_l0 (l : List Int) (n : Nat) (m : Int) (h1 : 1 ≤ n) (h8 : n ≤ 8) : ∀ (d k i : Nat), n - 1 - i = d → i ≤ n - 1 → d < k →
    observatorylaw07_made.l0 k l (n : Int) m (outL l i) (i : Int) = some ((n : Int), m, outL l (n - 1)) := by
  intro d
  induction d with
  | zero =>
    intro k i g1 g2 g3
    obtain ⟨k, rfl⟩ : ∃ q, k = q + 1 := ⟨k - 1, by omega⟩
    obtain rfl : i = n - 1 := by omega
    simp only [observatorylaw07_made.l0]
    rw [w64 (n := (n : Int) - 1) (by omega) (by omega), if_neg (by omega)]
  | succ d ih =>
    intro k i g1 g2 g3
    obtain ⟨k, rfl⟩ : ∃ q, k = q + 1 := ⟨k - 1, by omega⟩
    have hl := outL_length l i
    have hn := ih k (i + 1) (by omega) (by omega) (by omega)
    simp only [observatorylaw07_made.l0]
    rw [w64 (n := (n : Int) - 1) (by omega) (by omega), if_pos (by omega), w_succ (by omega)]
    by_cases hi : i < l.length
    · rw [if_pos (by omega), if_pos (by omega), elem7_eq, Option.bind_some, if_pos (by omega)]
      rw [outL, if_pos hi] at hn
      exact hn
    · rw [if_neg (by omega), if_pos (by omega)]
      rw [outL, if_neg hi] at hn
      exact hn
def nOf (a : Int) : Nat := 1 + a.toNat % 6
def mOf (a b : Int) : Nat := nOf a + b.toNat % (9 - nOf a)
theorem nOf_range (a : Int) : 1 ≤ nOf a ∧ nOf a ≤ 6 := by unfold nOf; omega
theorem mOf_range (a b : Int) : nOf a ≤ mOf a b ∧ mOf a b ≤ 8 := by
  have h := nOf_range a
  have h2 := Nat.mod_lt b.toNat (show 0 < 9 - nOf a by omega)
  unfold mOf
  omega
theorem made_eq {k : Nat} (l : List Int) {a b : Int} (hk : 16 ≤ k) (ha0 : 0 ≤ a) (ha : a < 256) (hb0 : 0 ≤ b) (hb : b < 256) :
    observatorylaw07_made.f k l a b = some ((nOf a : Int), (mOf a b : Int), outL l (nOf a - 1)) := by
  have h := nOf_range a
  have h2 := mOf_range a b
  have e1 : wrap64 (1 + Int.tmod (wrap64 a) 6) = (nOf a : Int) := by
    rw [w64 (n := a) (by omega) (by omega), tm _ ha0, w64 (by omega) (by omega)]
    unfold nOf; omega
  have e2 : wrap64 (9 - (nOf a : Int)) = ((9 - nOf a : Nat) : Int) := by rw [w64 (by omega) (by omega)]; omega
  have e3 : wrap64 ((nOf a : Int) + Int.tmod (wrap64 b) ((9 - nOf a : Nat) : Int)) = (mOf a b : Int) := by
    obtain ⟨b, rfl⟩ := Int.eq_ofNat_of_zero_le hb0
    have e4 : Int.tmod (wrap64 (b : Int)) ((9 - nOf a : Nat) : Int) = ((b % (9 - nOf a) : Nat) : Int) := by
      rw [w64 (n := (b : Int)) (by omega) (by omega)]
      exact Int.ofNat_tmod b (9 - nOf a) |>.symm
    have e5 : (mOf a (b : Int) : Int) = (nOf a : Int) + ((b % (9 - nOf a) : Nat) : Int) := by unfold mOf; rw [Int.toNat_natCast]; omega
    rw [e4, w64 (by omega) (by omega), e5]
  unfold observatorylaw07_made.f
  rw [e1, e2, e3, if_neg (by omega)]
  exact made_l0 l (nOf a) _ h.1 (by omega) (nOf a - 1) k 0 (by omega) (by omega) (by omega)
theorem split_ok {s : Int} {n m : Nat} {r : List Int} (h1 : 1 ≤ n) (h2 : n ≤ m) (h3 : m ≤ 16) (hr : r.length = n - 1) (hs : inP s = true) (ha : r.all inP = true) :
    splitF s (n : Int) (m : Int) r = (shareList (s :: r) m, 0) := by
  unfold splitF
  rw [if_neg, if_neg, Int.toNat_natCast]
  · rw [List.all_cons, hs, ha]; simp
  · rintro (h | h | h | h | h) <;> omega
def shareAt (p : List Int) (i : Nat) : S25 := ⟨(i : Int) + 1, evI p ((i : Int) + 1)⟩
theorem shareList_length (p : List Int) (m : Nat) : (shareList p m).length = m := by simp [shareList]
theorem shareList_get (p : List Int) {m i : Nat} (h : i < m) : (shareList p m)[i]'(by rw [shareList_length]; exact h) = shareAt p i := by simp [shareList, shareAt]
theorem rd54_at {l : List S25} {i : Nat} (hi : i < l.length) : rd_T25 l (i : Int) = l[i] := by simp [rd_T25, List.getElem?_eq_getElem hi]
theorem validS_iff {s : S25} : validS s = true ↔ 1 ≤ s.f0 ∧ s.f0 ≤ 16 ∧ inP s.f1 = true := by
  unfold validS; simp [and_assoc]
end Go.Proofs.YtddikdpbhjgihaaGreatDoor.X
end
section
namespace Go.Proofs.YtddikdpbhjgihaaGreatDoor.X
open Go.RowKit Go.Proofs.YtddikdpbhjgihaaGreatDoorW.PrintWords Go.Proofs.YtddikdpbhjgihaaGreatDoorW.PrintLast
open ObsMer (joined toL half root nodeT leafT emptyT plen up texts ptexts pairT itoaB Clean)
set_option linter.unusedVariables false
theorem hexd_hex (d : Nat) (h : d < 16) : isHex (UInt8.ofNat (hexd d).toNat) = true := by
  have : d = 0 ∨ d = 1 ∨ d = 2 ∨ d = 3 ∨ d = 4 ∨ d = 5 ∨ d = 6 ∨ d = 7 ∨ d = 8 ∨ d = 9 ∨ d = 10 ∨ d = 11 ∨ d = 12 ∨ d = 13 ∨ d = 14 ∨ d = 15 := by omega
  rcases this with h | h | h | h | h | h | h | h | h | h | h | h | h | h | h | h <;> subst h <;> decide
theorem hexSuf_hex (u : Nat) : ∀ i, (hexSuf u i).all isHex = true
  | 0 => rfl
  | i + 1 => by rw [hexSuf, List.all_cons, hexSuf_hex u i, hexd_hex _ (Nat.mod_lt _ (by decide))]; rfl
theorem sumF_dg (s : ByteArray) : isDg (sumF s) = true := by
  unfold isDg
  rw [decide_eq_true (sumF_size s), Bool.true_and]
  show (toL (sumF s)).all isHex = true
  unfold sumF
  rw [hex16_toL]
  exact hexSuf_hex _ _
theorem length_ref : ∀ (d k n i : Nat), n ≤ d → i < n → n ≤ 1000000 → d + 100 ≤ k → observatoryref02_length.f k (n : Int) (i : Int) = some (plen n i : Int) ∧ plen n i ≤ n := by
  intro d
  induction d with
  | zero => intro k n i h1 h2; omega
  | succ d ih =>
    intro k n i h1 h2 h3 hk
    obtain ⟨k, rfl⟩ : ∃ q, k = q + 1 := ⟨k - 1, by omega⟩
    simp only [observatoryref02_length.f]
    by_cases h0 : n = 1
    · subst h0
      have h1' : ((1 : Nat) : Int) = 1 := rfl
      rw [if_pos h1', ObsMer.plen_one (Nat.le_refl _)]
      exact ⟨rfl, by omega⟩
    · have hl := ObsMer.half_lt (n := n) (by omega)
      have hp := ObsMer.half_pos n
      rw [if_neg (by omega), Half_eq (by omega) (by omega), Option.bind_some]
      by_cases hi : i < half n
      · obtain ⟨g4, g5⟩ := ih k (half n) i (by omega) hi (by omega) (by omega)
        rw [if_pos (by omega), g4, Option.bind_some, ObsMer.plen_lo (n := n) (i := i) (by omega) hi, w64 (by omega) (by omega)]
        exact ⟨congrArg some (by omega), by omega⟩
      · obtain ⟨g4, g5⟩ := ih k (n - half n) (i - half n) (by omega) (by omega) (by omega) (by omega)
        have e2 : wrap64 ((n : Int) - (half n : Int)) = ((n - half n : Nat) : Int) := by rw [w64 (by omega) (by omega)]; omega
        have e3 : wrap64 ((i : Int) - (half n : Int)) = ((i - half n : Nat) : Int) := by rw [w64 (by omega) (by omega)]; omega
        rw [if_neg (by omega), e2, e3, g4, Option.bind_some, ObsMer.plen_hi (n := n) (i := i) (by omega) (by omega), w64 (by omega) (by omega)]
        exact ⟨congrArg some (by omega), by omega⟩
theorem eq_toList (a b : ByteArray) : (a.toList == b.toList) = decide (a = b) := by
  by_cases h : a = b
  · subst h; simp
  · rw [decide_eq_false h]
    exact beq_eq_false_iff_ne.2 (fun e => h (ObsMer.toL_inj (by rw [Go.Lib.toList_data, Go.Lib.toList_data] at e; exact e)))
theorem Check_ref {k : Nat} {rt leaf : ByteArray} {n i : Int} {p : List ByteArray} (hk : 1400000 ≤ k) (hp : p.all isDg = true) (hpl : p.length ≤ 1000000) (hleaf : leaf.size ≤ 1000) : observatoryref02_Check.f k rt n i leaf p = some (chkF rt n i leaf p) := by
  unfold observatoryref02_Check.f
  by_cases h1 : n > 1000000
  · rw [if_pos h1, chk_bad (.inl h1)]
  · rw [if_neg h1]
    by_cases h2 : i < 0
    · rw [if_pos h2, chk_bad (.inr (.inl h2))]
    · rw [if_neg h2]
      by_cases h3 : i ≥ n
      · rw [if_pos h3, chk_bad (.inr (.inr (.inl h3)))]
      · rw [if_neg h3]
        obtain ⟨i, rfl⟩ := Int.eq_ofNat_of_zero_le (show 0 ≤ i by omega)
        obtain ⟨n, rfl⟩ := Int.eq_ofNat_of_zero_le (show 0 ≤ n by omega)
        obtain ⟨g4, g5⟩ := length_ref n k n i (Nat.le_refl _) (by omega) (by omega) (by omega)
        have hc : chkF rt (n : Int) (i : Int) leaf p = (isDg leaf && decide (p.length = plen n i) && decide (up sumF n i leaf p = rt)) := by
          unfold chkF
          rw [hp, decide_eq_true (show (n : Int) ≤ 1000000 by omega), decide_eq_true (show (0 : Int) ≤ (i : Int) by omega), decide_eq_true (show (i : Int) < (n : Int) by omega), Int.toNat_natCast, Int.toNat_natCast]
          simp only [Bool.true_and]
        rw [g4, Option.bind_some, hc]
        by_cases h5 : p.length = plen n i
        · rw [if_pos (by omega), digests_eq (by omega) (fun s hs => by rw [isDg_size (List.all_eq_true.1 hp s hs)]; omega) (by omega), Option.bind_some, hp, if_pos rfl, Is_eq (by omega) (by omega), Option.bind_some]
          cases hi : isDg leaf with
          | false => rw [if_neg (by simp)]; rfl
          | true =>
            obtain ⟨g1, _⟩ := up_ref leaf hleaf n k n i p (Nat.le_refl _) (by omega) (by omega) hp h5 hpl (by omega)
            rw [if_pos rfl, g1, Option.bind_some, eq_toList, decide_eq_true h5]
            rfl
        · rw [if_neg (by omega), decide_eq_false h5]
          simp
theorem itoaB_size {a : Int} (h0 : -9223372036854775808 ≤ a) (h1 : a ≤ 9223372036854775807) : (itoaB a).size ≤ 21 := by
  rw [← ObsMer.toL_length]
  exact Go.Lib.itoa_length_le a h0 h1
theorem pairT_size {x y : Int} (hx0 : -9223372036854775808 ≤ x) (hx1 : x ≤ 9223372036854775807) (hy0 : -9223372036854775808 ≤ y) (hy1 : y ≤ 9223372036854775807) : (pairT x y).size ≤ 43 := by
  have := itoaB_size hx0 hx1
  have := itoaB_size hy0 hy1
  unfold pairT
  rw [ByteArray.size_append, ByteArray.size_append]
  show _ + 1 + _ ≤ 43
  omega
theorem text_eq {x y : Int} (hx0 : -9223372036854775808 ≤ x) (hx1 : x ≤ 9223372036854775807) (hy0 : -9223372036854775808 ≤ y) (hy1 : y ≤ 9223372036854775807) : shares_text.f x y = some (pairT x y) := by
  have h1 := itoaB_size hx0 hx1
  have h2 := itoaB_size hy0 hy1
  have e1 : strconv_Itoa.f x = some (itoaB x) := by unfold strconv_Itoa.f; rw [if_pos ⟨hx0, hx1⟩]; rfl
  have e2 : strconv_Itoa.f y = some (itoaB y) := by unfold strconv_Itoa.f; rw [if_pos ⟨hy0, hy1⟩]; rfl
  unfold shares_text.f
  rw [e1, Option.bind_some, if_pos (by omega), e2, Option.bind_some, if_pos (by rw [ByteArray.size_append]; have : (⟨#[32]⟩ : ByteArray).size = 1 := rfl; omega)]
  rfl
theorem Text_ref {k : Nat} {x y : Int} (hk : 21 ≤ k) (hx0 : -9223372036854775808 ≤ x) (hx1 : x ≤ 9223372036854775807) (hy0 : -9223372036854775808 ≤ y) (hy1 : y ≤ 9223372036854775807) : observatoryref07_Text.f k x y = some (pairT x y) := by
  have h1 := itoaB_size hx0 hx1
  have h2 := itoaB_size hy0 hy1
  unfold observatoryref07_Text.f
  rw [Dec_eq hk hx0 hx1, Option.bind_some, if_pos (by omega), Dec_eq hk hy0 hy1, Option.bind_some, if_pos (by rw [ByteArray.size_append]; have : (⟨#[32]⟩ : ByteArray).size = 1 := rfl; omega)]
  rfl
def leafOf (s : S25) : ByteArray := sumF (leafT (pairT s.f0 s.f1))
def inR (s : S25) : Prop := (-9223372036854775808 ≤ s.f0 ∧ s.f0 ≤ 9223372036854775807) ∧ -9223372036854775808 ≤ s.f1 ∧ s.f1 ≤ 9223372036854775807
theorem Leaves_l0 (l : List S25) (hl : l.length ≤ 1000) (hr : ∀ s ∈ l, inR s) : ∀ (d k i : Nat), i + d = l.length → d + 300001 ≤ k → observatoryref07_Leaves.l0 k l ((l.take i).map leafOf) (i : Int) = some (l.map leafOf) := by
  intro d
  induction d with
  | zero =>
    intro k i h1 hk
    obtain ⟨k, rfl⟩ : ∃ q, k = q + 1 := ⟨k - 1, by omega⟩
    simp only [observatoryref07_Leaves.l0]
    rw [if_neg (by omega), List.take_of_length_le (by omega)]
  | succ d ih =>
    intro k i h1 hk
    obtain ⟨k, rfl⟩ : ∃ q, k = q + 1 := ⟨k - 1, by omega⟩
    have hi : i < l.length := by omega
    have hs := hr _ (List.getElem_mem hi)
    simp only [observatoryref07_Leaves.l0]
    rw [if_pos (by omega), if_pos (by omega), rd54_at hi, Text_ref (by omega) hs.1.1 hs.1.2 hs.2.1 hs.2.2, Option.bind_some, Leaf_ref (by have := pairT_size hs.1.1 hs.1.2 hs.2.1 hs.2.2; omega) (by omega), Option.bind_some, if_pos (by simp; omega), w_succ (by omega)]
    have := ih k (i + 1) (by omega) (by omega)
    rw [List.take_succ_eq_append_getElem hi, List.map_append] at this
    exact this
theorem Leaves_ref {k : Nat} {l : List S25} (hl : l.length ≤ 1000) (hr : ∀ s ∈ l, inR s) (hk : 302000 ≤ k) : observatoryref07_Leaves.f k l = some (l.map leafOf) :=
  Leaves_l0 l hl hr l.length k 0 (by omega) (by omega)
theorem leaves_dg (l : List S25) : (l.map leafOf).all isDg = true := by
  rw [List.all_eq_true]
  intro s hs
  obtain ⟨x, _, rfl⟩ := List.mem_map.1 hs
  exact sumF_dg _
theorem tRoot_eq {l : List ByteArray} (hd : l.all isDg = true) (hl : l.length ≤ 1000000) : tree_Root.f l = some (root sumF l, 0) := by
  unfold tree_Root.f tree_digests_proper.f tree_total.f
  rw [Option.bind_some, hd, if_pos rfl, if_pos (okB_dg hd hl), Option.bind_some]
theorem sRoot_l0 (l : List S25) (hl : l.length ≤ 16) (hv : l.all validS = true) : ∀ (d k i : Nat), i + d = l.length → d < k → shares_Root.l0 k ((l.take i).map leafOf) l (l.length : Int) (i : Int) = some (root sumF (l.map leafOf), 0) := by
  intro d
  induction d with
  | zero =>
    intro k i h1 hk
    obtain ⟨k, rfl⟩ : ∃ q, k = q + 1 := ⟨k - 1, by omega⟩
    simp only [shares_Root.l0]
    rw [if_neg (by omega), List.take_of_length_le (by omega), tRoot_eq (leaves_dg l) (by simp; omega), Option.bind_some]
  | succ d ih =>
    intro k i h1 hk
    obtain ⟨k, rfl⟩ : ∃ q, k = q + 1 := ⟨k - 1, by omega⟩
    have hi : i < l.length := by omega
    have hs := List.all_eq_true.1 hv _ (List.getElem_mem hi)
    have hs2 := validS_iff.1 hs
    have hs3 := inP_iff.1 hs2.2.2
    simp only [shares_Root.l0]
    rw [if_pos (by omega), if_pos (by omega), if_pos (by omega), rd54_at hi, valid_eq, Option.bind_some, hs, if_pos rfl, text_eq (by omega) (by omega) (by omega) (by omega), Option.bind_some, tLeaf (by have := pairT_size (x := l[i].f0) (y := l[i].f1) (by omega) (by omega) (by omega) (by omega); omega), Option.bind_some, if_pos (by simp; omega), w_succ (by omega)]
    have := ih k (i + 1) (by omega) (by omega)
    rw [List.take_succ_eq_append_getElem hi, List.map_append] at this
    exact this
theorem sRoot_eq {k : Nat} {l : List S25} (h1 : 1 ≤ l.length) (hl : l.length ≤ 16) (hv : l.all validS = true) (hk : 20 ≤ k) : shares_Root.f k l = some (root sumF (l.map leafOf), 0) := by
  obtain ⟨k, rfl⟩ : ∃ q, k = q + 1 := ⟨k - 1, by omega⟩
  unfold shares_Root.f
  rw [if_neg (by omega), decide_eq_false (by omega)]
  simp only [shares_Root.j0]
  rw [if_neg (by simp)]
  exact sRoot_l0 l hl hv l.length k 0 (by omega) (by omega)
def sChk (rt : ByteArray) (m x y : Int) (p : List ByteArray) : Bool :=
  decide (1 ≤ m) && decide (m ≤ 16) && validS ⟨x, y⟩ && decide (x ≤ m) && chkF rt m (x - 1) (sumF (leafT (pairT x y))) p
theorem sCheck_eq {k : Nat} {rt : ByteArray} {m x y : Int} {p : List ByteArray} (hk : 2 ≤ k) (hp : p.length ≤ 1000000) : shares_Check.f k rt m x y p = some (sChk rt m x y p) := by
  obtain ⟨k, rfl⟩ : ∃ q, k = q + 1 := ⟨k - 1, by omega⟩
  unfold shares_Check.f sChk
  simp only [shares_Check.j0]
  by_cases h1 : m < 1
  · rw [if_pos h1, if_pos trivial, decide_eq_false (by omega : ¬ 1 ≤ m)]; rfl
  · rw [if_neg h1, decide_eq_true (by omega : 1 ≤ m)]
    by_cases h2 : m > 16
    · rw [if_pos h2, if_pos trivial, decide_eq_false (by omega : ¬ m ≤ 16)]; rfl
    · rw [if_neg h2, decide_eq_true (by omega : m ≤ 16)]
      have hv := valid_eq ⟨x, y⟩
      simp only at hv
      rw [hv, Option.bind_some]
      cases h3 : validS ⟨x, y⟩ with
      | false => rw [if_neg (by simp), if_pos trivial]; rfl
      | true =>
        have hs2 := validS_iff.1 h3
        have hs3 := inP_iff.1 hs2.2.2
        simp only at hs2 hs3
        rw [if_pos rfl]
        by_cases h4 : x > m
        · rw [decide_eq_true h4, if_pos rfl, decide_eq_false (by omega : ¬ x ≤ m)]; rfl
        · rw [decide_eq_false h4, if_neg (by simp), decide_eq_true (by omega : x ≤ m), text_eq (by omega) (by omega) (by omega) (by omega), Option.bind_some, tLeaf (by have := pairT_size (x := x) (y := y) (by omega) (by omega) (by omega) (by omega); omega), Option.bind_some, w64 (by omega) (by omega)]
          unfold tree_Check.f
          rw [if_pos hp, Option.bind_some]
          rfl
theorem Valid_ref (x y : Int) : observatoryref07_Valid.f x y = some (validS ⟨x, y⟩) := by
  have h1 := valid_eq ⟨x, y⟩
  have h2 : observatoryref07_Valid.f x y = shares_valid.f x y := by
    unfold observatoryref07_Valid.f shares_valid.f observatoryref07_Element.f shares_element.f
    rfl
  rw [h2]; exact h1
theorem rCheck_eq {k : Nat} {rt : ByteArray} {m x y : Int} {p : List ByteArray} (hk : 1400001 ≤ k) (hp : p.length ≤ 1000000) (hd : p.all isDg = true) : observatoryref07_Check.f k rt m x y p = some (sChk rt m x y p) := by
  obtain ⟨k, rfl⟩ : ∃ q, k = q + 1 := ⟨k - 1, by omega⟩
  unfold observatoryref07_Check.f sChk
  simp only [observatoryref07_Check.j0]
  by_cases h1 : m < 1
  · rw [if_pos h1, if_pos trivial, decide_eq_false (by omega : ¬ 1 ≤ m)]; rfl
  · rw [if_neg h1, decide_eq_true (by omega : 1 ≤ m)]
    by_cases h2 : m > 16
    · rw [if_pos h2, if_pos trivial, decide_eq_false (by omega : ¬ m ≤ 16)]; rfl
    · rw [if_neg h2, decide_eq_true (by omega : m ≤ 16), Valid_ref, Option.bind_some]
      cases h3 : validS ⟨x, y⟩ with
      | false => rw [if_neg (by simp), if_pos trivial]; rfl
      | true =>
        have hs2 := validS_iff.1 h3
        have hs3 := inP_iff.1 hs2.2.2
        simp only at hs2 hs3
        rw [if_pos rfl]
        by_cases h4 : x > m
        · rw [decide_eq_true h4, if_pos rfl, decide_eq_false (by omega : ¬ x ≤ m)]; rfl
        · rw [decide_eq_false h4, if_neg (by simp), decide_eq_true (by omega : x ≤ m), Text_ref (by omega) (by omega) (by omega) (by omega) (by omega), Option.bind_some, Leaf_ref (by have := pairT_size (x := x) (y := y) (by omega) (by omega) (by omega) (by omega); omega) (by omega), Option.bind_some, w64 (by omega) (by omega), Check_ref (by omega) hd hp (by rw [sumF_size]; omega), Option.bind_some]
          rfl
end Go.Proofs.YtddikdpbhjgihaaGreatDoor.X
end
section
namespace Go.Proofs.YtddikdpbhjgihaaGreatDoor.X
open Go.RowKit Go.Proofs.YtddikdpbhjgihaaGreatDoorW.PrintWords Go.Proofs.YtddikdpbhjgihaaGreatDoorW.PrintLast
open ObsMer (joined toL half root nodeT leafT emptyT plen up texts ptexts pairT itoaB Clean)
set_option linter.unusedVariables false
theorem eq_toList' (a b : ByteArray) : (a.toList = b.toList) ↔ a = b :=
  ⟨fun e => ObsMer.toL_inj (by rw [Go.Lib.toList_data, Go.Lib.toList_data] at e; exact e), fun e => by rw [e]⟩
theorem shown_l2 (l S : List ByteArray) (hS : S.length = l.length) (hl : l.length ≤ 100000) (i : Nat) (hi : i < l.length) (K : Nat) (Q : Prop)
    (h1 : ∀ k, K ≤ k → ∃ b, observatoryref02_Shown.l1 k l S ((i + 1 : Nat) : Int) = some b ∧ (b = false → Q)) :
    ∀ (d k j : Nat), j + d = i → K + d + 1 ≤ k → ∃ b, observatoryref02_Shown.l2 k l S (i : Int) (j : Int) = some b ∧ (b = false → (∀ a, j ≤ a → a < i → S[i]! = S[a]! → l[i]! = l[a]!) ∧ Q) := by
  intro d
  induction d with
  | zero =>
    intro k j hj hk
    obtain ⟨k, rfl⟩ : ∃ q, k = q + 1 := ⟨k - 1, by omega⟩
    obtain ⟨b, e, h⟩ := h1 k (by omega)
    refine ⟨b, ?_, fun hb => ⟨fun a h2 h3 => by omega, h hb⟩⟩
    simp only [observatoryref02_Shown.l2]
    rw [if_neg (by omega), w_succ (by omega)]
    exact e
  | succ d ih =>
    intro k j hj hk
    obtain ⟨k, rfl⟩ : ∃ q, k = q + 1 := ⟨k - 1, by omega⟩
    have c1 : (j : Int) < (i : Int) := by omega
    have c2 : (0 : Int) ≤ (i : Int) := by omega
    have c3 : (i : Int) < (S.length : Int) := by omega
    have c4 : (0 : Int) ≤ (j : Int) := by omega
    have c5 : (j : Int) < (S.length : Int) := by omega
    have c6 : (i : Int) < (l.length : Int) := by omega
    have c7 : (j : Int) < (l.length : Int) := by omega
    have g1 : S[i]! = S[i] := getElem!_pos S i (by omega)
    have g2 : S[j]! = S[j] := getElem!_pos S j (by omega)
    have g3 : l[i]! = l[i] := getElem!_pos l i (by omega)
    have g4 : l[j]! = l[j] := getElem!_pos l j (by omega)
    obtain ⟨b, e, h⟩ := ih k (j + 1) (by omega) (by omega)
    simp only [observatoryref02_Shown.l2]
    rw [if_pos c1, if_pos c2, if_pos c3, if_pos c4, if_pos c5, rdB_at (by omega), rdB_at (by omega), w_succ (by omega)]
    by_cases hs : S[i] = S[j]
    · rw [if_pos ((eq_toList' _ _).2 hs), if_pos c6, if_pos c7, rdB_at (by omega), rdB_at (by omega)]
      by_cases ht : l[i] = l[j]
      · rw [if_pos ((eq_toList' _ _).2 ht)]
        refine ⟨b, e, fun hb => ⟨fun a h2 h3 h4 => ?_, (h hb).2⟩⟩
        by_cases ha : a = j
        · subst ha; rw [g3, g4, ht]
        · exact (h hb).1 a (by omega) h3 h4
      · rw [if_neg (fun e => ht ((eq_toList' _ _).1 e))]
        exact ⟨true, rfl, fun h => by cases h⟩
    · rw [if_neg (fun e => hs ((eq_toList' _ _).1 e))]
      refine ⟨b, e, fun hb => ⟨fun a h2 h3 h4 => ?_, (h hb).2⟩⟩
      by_cases ha : a = j
      · subst ha; rw [g1, g2] at h4; exact absurd h4 hs
      · exact (h hb).1 a (by omega) h3 h4
theorem shown_l1 (l S : List ByteArray) (hS : S.length = l.length) (hl : l.length ≤ 100000) : ∀ (d i : Nat), i + d = l.length → ∀ k, d * (l.length + 3) + 1 ≤ k → ∃ b, observatoryref02_Shown.l1 k l S (i : Int) = some b ∧ (b = false → ∀ c, i ≤ c → c < l.length → ∀ a, a < c → S[c]! = S[a]! → l[c]! = l[a]!) := by
  intro d
  induction d with
  | zero =>
    intro i hi k hk
    obtain ⟨k, rfl⟩ : ∃ q, k = q + 1 := ⟨k - 1, by omega⟩
    simp only [observatoryref02_Shown.l1]
    rw [if_neg (by omega)]
    exact ⟨false, rfl, fun _ c h1 h2 => by omega⟩
  | succ d ih =>
    intro i hi k hk
    obtain ⟨k, rfl⟩ : ∃ q, k = q + 1 := ⟨k - 1, by omega⟩
    have hm : (d + 1) * (l.length + 3) = d * (l.length + 3) + (l.length + 3) := Nat.succ_mul _ _
    simp only [observatoryref02_Shown.l1]
    rw [if_pos (by omega)]
    obtain ⟨b, e, h⟩ := shown_l2 l S hS hl i (by omega) (d * (l.length + 3) + 1) _ (fun k hk => ih (i + 1) (by omega) k hk) i k 0 (by omega) (by omega)
    refine ⟨b, e, fun hb c h1 h2 a h3 h4 => ?_⟩
    by_cases hc : c = i
    · subst hc; exact (h hb).1 a (Nat.zero_le _) h3 h4
    · exact (h hb).2 c (by omega) h2 a h3 h4
theorem shown_l0 (l : List ByteArray) (hl : l.length ≤ 100000) (hs : ∀ s ∈ l, s.size ≤ 100000) (K : Nat) (hK : 200040 ≤ K) : ∀ (d k i : Nat), i + d = l.length → K + d + 1 ≤ k →
    ∃ q, K ≤ q ∧ observatoryref02_Shown.l0 k l ((l.take i).map sumF) (i : Int) = observatoryref02_Shown.l1 q l (l.map sumF) 0 := by
  intro d
  induction d with
  | zero =>
    intro k i h1 hk
    obtain ⟨k, rfl⟩ : ∃ q, k = q + 1 := ⟨k - 1, by omega⟩
    refine ⟨k, by omega, ?_⟩
    simp only [observatoryref02_Shown.l0]
    rw [if_neg (by omega), List.take_of_length_le (by omega)]
  | succ d ih =>
    intro k i h1 hk
    obtain ⟨k, rfl⟩ : ∃ q, k = q + 1 := ⟨k - 1, by omega⟩
    have hi : i < l.length := by omega
    have h5 := hs _ (List.getElem_mem hi)
    obtain ⟨q, hq, e⟩ := ih k (i + 1) (by omega) (by omega)
    refine ⟨q, hq, ?_⟩
    rw [← e]
    simp only [observatoryref02_Shown.l0]
    rw [if_pos (by omega), if_pos (by omega), rdB_at hi, Sum_eq (by omega) (by omega), Option.bind_some, if_pos (by simp; omega), w_succ (by omega), List.take_succ_eq_append_getElem hi, List.map_append]
    rfl
theorem Shown_ref (l : List ByteArray) (hl : l.length ≤ 100000) (hs : ∀ s ∈ l, s.size ≤ 100000) (k : Nat) (hk : l.length * (l.length + 3) + 1 + 200040 + l.length + 1 ≤ k) : ∃ b, observatoryref02_Shown.f k l = some b ∧ (b = false → ObsMer.Clean sumF l) := by
  obtain ⟨q, hq, e⟩ := shown_l0 l hl hs (l.length * (l.length + 3) + 1 + 200040) (by omega) l.length k 0 (by omega) (by omega)
  obtain ⟨b, e2, h⟩ := shown_l1 l (l.map sumF) (by simp) hl l.length 0 (by omega) q (by omega)
  refine ⟨b, ?_, fun hb x hx y hy hxy => ?_⟩
  · have e' : observatoryref02_Shown.f k l = observatoryref02_Shown.l1 q l (l.map sumF) 0 := e
    rw [e']
    exact e2
  · obtain ⟨i, hi, rfl⟩ := List.getElem_of_mem hx
    obtain ⟨j, hj, rfl⟩ := List.getElem_of_mem hy
    have hm : ∀ a, a < l.length → (l.map sumF)[a]! = sumF l[a]! := fun a ha => by
      rw [getElem!_pos (l.map sumF) a (by simpa using ha), getElem!_pos l a ha, List.getElem_map]
    have key : ∀ c a, c < l.length → a < c → sumF l[c]! = sumF l[a]! → l[c]! = l[a]! := fun c a hc ha e => h hb c (Nat.zero_le _) hc a ha (by rw [hm c hc, hm a (by omega)]; exact e)
    have gi := getElem!_pos l i hi
    have gj := getElem!_pos l j hj
    rcases Nat.lt_trichotomy i j with hij | hij | hij
    · have := key j i hj hij (by rw [gi, gj]; exact hxy.symm)
      rw [gi, gj] at this; exact this.symm
    · subst hij; rfl
    · have := key i j hi hij (by rw [gi, gj]; exact hxy)
      rw [gi, gj] at this; exact this
theorem texts_nil' : texts sumF [] = [emptyT] := by rw [texts]; simp
theorem Texts_ref : ∀ (d k : Nat) (l : List ByteArray), l.length ≤ d → okB l = true → 2 * d + 300002 ≤ k → observatoryref02_Texts.f k l = some (texts sumF l) ∧ (1 ≤ l.length → (texts sumF l).length + 1 ≤ l.length) := by
  intro d
  induction d with
  | zero =>
    intro k l h1 h2 hk
    obtain ⟨k, rfl⟩ : ∃ q, k = q + 1 := ⟨k - 1, by omega⟩
    obtain rfl : l = [] := List.eq_nil_of_length_eq_zero (by omega)
    simp only [observatoryref02_Texts.f]
    rw [if_pos (by simp), Joined_ok (by simp [jn]; have : (⟨#[101, 109, 112, 116, 121]⟩ : ByteArray).size = 5 := rfl; omega), Option.bind_some, texts_nil']
    exact ⟨rfl, fun h => absurd h (by simp)⟩
  | succ d ih =>
    intro k l h1 h2 hk
    obtain ⟨k, rfl⟩ : ∃ q, k = q + 1 := ⟨k - 1, by omega⟩
    simp only [observatoryref02_Texts.f]
    by_cases h0 : l.length = 0
    · obtain rfl : l = [] := List.eq_nil_of_length_eq_zero h0
      rw [if_pos (by simp), Joined_ok (by simp [jn]; have : (⟨#[101, 109, 112, 116, 121]⟩ : ByteArray).size = 5 := rfl; omega), Option.bind_some, texts_nil']
      exact ⟨rfl, fun h => absurd h (by simp)⟩
    · rw [if_neg (by omega)]
      by_cases h3 : l.length = 1
      · rw [if_pos (by omega), ObsMer.texts_one sumF h3]
        exact ⟨rfl, fun _ => by simp; omega⟩
      · have hl := ObsMer.half_lt (n := l.length) (by omega)
        have hp := ObsMer.half_pos l.length
        have hlen := okB_len h2
        have ht : (l.take (half l.length)).length = half l.length := by rw [List.length_take]; omega
        have hd : (l.drop (half l.length)).length = l.length - half l.length := by rw [List.length_drop]
        obtain ⟨g1, g2⟩ := ih k (l.take (half l.length)) (by omega) (okB_take h2 _) (by omega)
        obtain ⟨g3, g4⟩ := ih k (l.drop (half l.length)) (by omega) (okB_drop h2 _) (by omega)
        rw [ht] at g2
        rw [hd] at g4
        replace g2 := g2 hp
        replace g4 := g4 (by omega)
        have g5 : (texts sumF (l.take (half l.length))).length + (texts sumF (l.drop (half l.length))).length < 8796093022208 := by omega
        have r1 := root_size (okB_take h2 (half l.length)) (by omega)
        have r2 := root_size (okB_drop h2 (half l.length)) (by omega)
        rw [if_neg (by omega), Half_eq (by omega) (by omega), Option.bind_some, if_pos (by omega), if_pos (by omega), Int.toNat_natCast, root_ref d k _ (by omega) (okB_take h2 _) (by omega), Option.bind_some, root_ref d k _ (by omega) (okB_drop h2 _) (by omega), Option.bind_some, nodeJ r1 r2, Option.bind_some, g1, Option.bind_some, g3, Option.bind_some, if_pos g5, Option.bind_some, Option.bind_some, if_pos (by rw [List.length_append]; simp; omega), ObsMer.texts_two sumF (l := l) (by omega)]
        refine ⟨rfl, fun _ => ?_⟩
        rw [List.length_append, List.length_append]
        simp only [List.length_cons, List.length_nil]
        omega
end Go.Proofs.YtddikdpbhjgihaaGreatDoor.X
end
