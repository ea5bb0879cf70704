/-
  A slice among the arguments: what its cells hold, as a list.
-/
import Derived.Test.YtcpbfckmngbgdaaDoorShape
import Derived.ChangeSlices
import Derived.Test.YtcpbfckmngbgdaaDoorWWords
namespace Go.Proofs.YtcpbfckmngbgdaaDoor
open Go.RowKit Go.ChangeShapes Go.WideShapes Go.Deep Go.Proofs.YtcpbfckmngbgdaaDoorW.PrintWords
set_option linter.unusedVariables false
set_option linter.unusedSimpArgs false

theorem pick_list {α : Type} {Q : Nat → α → Prop} : ∀ (n : Nat), (∀ i, i < n → ∃ x, Q i x) → ∃ l : List α, l.length = n ∧ ∀ i x, l[i]? = some x → Q i x
  | 0, _ => ⟨[], rfl, by simp⟩
  | n + 1, h => by
    obtain ⟨l, h1, h2⟩ := pick_list n (fun i hi => h i (by omega))
    obtain ⟨x, hx⟩ := h n (by omega)
    refine ⟨l ++ [x], by simp [h1], fun i y hy => ?_⟩
    by_cases e : i < n
    · rw [List.getElem?_append_left (by omega)] at hy; exact h2 i y hy
    · rw [List.getElem?_append_right (by omega)] at hy
      have : i = n := by
        have := (List.getElem?_eq_some_iff.1 hy).1; simp at this; omega
      subst this
      simp [h1] at hy; subst hy; exact hx
/-- a row of whole elements (d), each of n cells -/
theorem rows_of {α : Type} (d : Kd α) (n : Nat) (s : Sh) {w : World} {P : α → Prop} (hd : ∀ es, Fits w s es → ∃ x, d.K w x es ∧ P x) (hn : d.sz = n) {cs : List Value} (h : Fits w (.slice n s) cs) :
    ∃ (A : Option Addr) (l : List α) (c : Nat), cs = [.slice A l.length c] ∧ l.length ≤ c ∧ l.length ≤ maxLen ∧ d.C w A l.length l ∧ ∀ x ∈ l, P x := by
  rcases h with h | ⟨a, len, cap, h, h1, h2, h3⟩
  · refine ⟨none, [], 0, by simpa using h, Nat.le_refl _, Nat.zero_le _, ⟨rfl, Nat.zero_le _, fun h => absurd h (by simp)⟩, by simp⟩
  · obtain ⟨l, e1, e2⟩ := pick_list (Q := fun i (x : α) => ∃ es, w.cells? 0 (a.add (i * n)) n = some es ∧ d.K w x es ∧ P x) len (fun i hi => by
      obtain ⟨es, g1, g2⟩ := h3 i (by omega)
      obtain ⟨x, g3, g4⟩ := hd es g2
      exact ⟨x, es, g1, g3, g4⟩)
    subst e1
    refine ⟨some a, l, cap, by simpa using h, h1, Nat.le_trans h1 h2, ⟨rfl, Nat.le_trans h1 h2, fun _ => ⟨a, rfl, fun j p hj => ?_⟩⟩, fun x hx => ?_⟩
    · obtain ⟨es, g1, g2, g3⟩ := e2 j p hj
      refine ⟨es, (d.K_len g2), g2, fun i u hu => ?_⟩
      rw [hn]
      obtain ⟨_, gl, g4⟩ := World.cells?_some g1
      have h7 := g4 i (by rw [← gl]; exact (List.getElem?_eq_some_iff.1 hu).1)
      rw [hu] at h7
      rw [← h7]; congr 1
      unfold Addr.add
      by_cases c1 : i = 0 <;> by_cases c2 : j * n = 0 <;> simp [c1, c2, Nat.add_assoc]
    · obtain ⟨j, hj, e⟩ := List.getElem_of_mem hx
      obtain ⟨es, g1, g2, g3⟩ := e2 j x (by rw [List.getElem?_eq_getElem hj, e])
      exact g3
theorem ints_of {k : IntKind} {w : World} {cs : List Value} (h : Fits w (.slice 1 (.int k)) cs) :
    ∃ (A : Option Addr) (l : List Int) (c : Nat), cs = [.slice A l.length c] ∧ l.length ≤ c ∧ l.length ≤ maxLen ∧ (Kd.int k).C w A l.length l ∧ ∀ x ∈ l, (Lit.int k x).wf = true :=
  rows_of (Kd.int k) 1 (.int k) (P := fun x => (Lit.int k x).wf = true) (fun es h => by obtain ⟨n, rfl, hn⟩ := h; exact ⟨n, rfl, hn⟩) rfl h
end Go.Proofs.YtcpbfckmngbgdaaDoor
