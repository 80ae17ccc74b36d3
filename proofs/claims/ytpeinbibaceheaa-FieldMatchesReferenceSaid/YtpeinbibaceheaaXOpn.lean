/- Written by a program of this work out of the translation; Lean checks it. -/
import Derived.Test.YtpeinbibaceheaaX0
import Derived.Test.YtpeinbibaceheaaOpen
namespace Go.Proofs.Ytpeinbibaceheaa.X
open Go.RowKit Go.Proofs.YtpeinbibaceheaaW.PrintWords
def ok41 (x : S41) : Prop := (fun n => (Lit.int .i64 n).wf = true) x.f0 ∧ (fun n => (Lit.int .i64 n).wf = true) x.f1
theorem opens41 : Opens Try.prog 41 k41 ok41 := by
  intro H enc w base spare held fuel cs x hx
  obtain ⟨xs, m, _, _, hlen, hxl, hf⟩ := DataW.trod_array Try.underlying41 hx
  have hN : cs.length = 2 := hlen.trans (by kernel_rfl)
  have c0 : Try.prog.cellsOf 3 = 1 := by kernel_rfl
  have e0 : DataW.trod enc Try.prog w base spare held m 3 ((cs.drop 0).take (Try.prog.cellsOf 3)) = xs[0]? := by have := hf 0 (by decide); rw [c0] at this ⊢; exact this
  rw [c0, List.getElem?_eq_getElem (by rw [hxl]; decide)] at e0
  obtain ⟨a0, K0, w0⟩ := (opens_int Try.underlying3) enc w base spare held m _ _ e0
  have c1 : Try.prog.cellsOf 3 = 1 := by kernel_rfl
  have e1 : DataW.trod enc Try.prog w base spare held m 3 ((cs.drop 1).take (Try.prog.cellsOf 3)) = xs[1]? := by have := hf 1 (by decide); rw [c1] at this ⊢; exact this
  rw [c1, List.getElem?_eq_getElem (by rw [hxl]; decide)] at e1
  obtain ⟨a1, K1, w1⟩ := (opens_int Try.underlying3) enc w base spare held m _ _ e1
  have K := (pair_at 0 1 1 K0 K1)
  rw [List.drop_zero, List.take_of_length_le (by rw [hN]; exact Nat.le_refl _)] at K
  exact ⟨⟨a0, a1⟩, K, ⟨w0, w1⟩⟩
end Go.Proofs.Ytpeinbibaceheaa.X
