/-
  Both readers side by side.
-/
import Derived.Test.YtiljnlhmeolhfaaDoorF5W
namespace Go.Proofs.YtiljnlhmeolhfaaDoor.MFd
open Go.RowKit Go.Proofs.YtiljnlhmeolhfaaDoorW.PrintWords Go.Proofs.YtiljnlhmeolhfaaDoorW.PrintLast Go.Proofs.YtiljnlhmeolhfaaDoorW.PrintMore
set_option linter.unusedVariables false
set_option linter.unusedSimpArgs false

theorem rdNum_lt (l : List Int) (bad : Bool) (n : Nat) (hn : n ≤ 8) (hby : ∀ x ∈ l, 0 ≤ x ∧ x < 256) : 0 ≤ rdNum l bad n ∧ rdNum l bad n < 256 ^ n := by
  unfold rdNum
  split
  · refine ⟨Int.le_refl _, ?_⟩
    have : n = 0 ∨ n = 1 ∨ n = 2 ∨ n = 3 ∨ n = 4 ∨ n = 5 ∨ n = 6 ∨ n = 7 ∨ n = 8 := by omega
    rcases this with e | e | e | e | e | e | e | e | e <;> rw [e] <;> decide
  · rw [numV_leV _ (by rw [List.length_take]; omega) (fun x hx => hby x (List.mem_of_mem_take hx))]
    have := leV_range (l.take n) (fun x hx => hby x (List.mem_of_mem_take hx))
    rw [show (l.take n).length = n by rw [List.length_take]; omega] at this
    exact this
theorem rdLeft_len (l : List Int) (bad : Bool) (n : Nat) : (rdLeft l bad n).length ≤ l.length := by
  unfold rdLeft; split <;> simp
/-- the reference's reader, and what stays -/
structure TX (w0 : World) (gx : Nat) (Ak : Option Addr) (nk ck : Nat) (kk : List Int) (w : World) (L : List Int) (bad : Bool) (A : Option Addr) (m c : Nat) : Prop where
  blk : w.heap[gx]? = some (.cells #[.slice A m c, .bool bad] 60 (0, 0))
  sl : Sl w A m c L
  far : ∀ a, A = some a → 0 < m → a.block < w0.heap.size
  by_ : ∀ x ∈ L, 0 ≤ x ∧ x < 256
  len : m ≤ 600
  below : Below w0.heap.size w0 w
  kinds : Sl w Ak nk ck kk
  farK : ∀ a, Ak = some a → 0 < nk → a.block < w0.heap.size
  gx0 : w0.heap.size ≤ gx
theorem TX.lt {w0 w : World} {gx nk ck m c : Nat} {Ak A : Option Addr} {kk L : List Int} {bad : Bool} (h : TX w0 gx Ak nk ck kk w L bad A m c) : gx < w.heap.size := (Array.getElem?_eq_some_iff.1 h.blk).1
theorem TX.below' {w0 w w' : World} {gx nk ck m c : Nat} {Ak A : Option Addr} {kk L : List Int} {bad : Bool} (h : TX w0 gx Ak nk ck kk w L bad A m c) (hb : Below w.heap.size w w') : TX w0 gx Ak nk ck kk w' L bad A m c :=
  ⟨(hb.block _ h.lt).trans h.blk, h.sl.below hb, h.far, h.by_, h.len, h.below.trans (hb.mono h.below.size), h.kinds.below hb, h.farK, h.gx0⟩
theorem TX.but {w0 w w' : World} {g gx nk ck m c : Nat} {Ak A : Option Addr} {kk L : List Int} {bad : Bool} (h : TX w0 gx Ak nk ck kk w L bad A m c) (hb : But g w w') (hg : w0.heap.size ≤ g) (hne : gx ≠ g) : TX w0 gx Ak nk ck kk w' L bad A m c :=
  ⟨(hb.block _ h.lt hne).trans h.blk, h.sl.but hb (fun a e hp => by have := h.far a e hp; omega), h.far, h.by_, h.len, but_below hb h.below hg h.below.size, h.kinds.but hb (fun a e hp => by have := h.farK a e hp; omega), h.farK, h.gx0⟩
theorem TX.put {w0 w w' : World} {gx nk ck m c m' c' : Nat} {Ak A A' : Option Addr} {kk L L' : List Int} {bad bad' : Bool} (h : TX w0 gx Ak nk ck kk w L bad A m c) (hb : Below w.heap.size w w') (hS : Sl w' A' m' c' L') (hA : ∀ a, A' = some a → ∃ a0, A = some a0 ∧ a.block = a0.block) (hl : L'.length ≤ L.length) (hby : ∀ x ∈ L', 0 ≤ x ∧ x < 256) :
    TX w0 gx Ak nk ck kk ((w'.setCell ⟨gx, 0, none⟩ (.slice A' m' c')).setCell ⟨gx, 1, none⟩ (.bool bad')) L' bad' A' m' c' := by
  have hB : But gx w' ((w'.setCell ⟨gx, 0, none⟩ (.slice A' m' c')).setCell ⟨gx, 1, none⟩ (.bool bad')) := ((But.refl _ w').setCell 0 _).setCell 1 _
  have h1 := h.below' hb
  have hml : m' ≤ m := by have := hS.len; have := h.sl.len; omega
  have hf : ∀ a, A' = some a → 0 < m' → a.block < w0.heap.size := fun a e hp => by
    obtain ⟨a0, e0, e1⟩ := hA a e
    have := h.far a0 e0 (by omega)
    omega
  exact ⟨blk_put (cs := #[.slice A' m' c', .bool bad]) (blk_put (cs := #[.slice A m c, .bool bad]) h1.blk 0 _ rfl) 1 _ rfl, hS.but hB (fun a e hp => by have := hf a e hp; have := h.gx0; omega), hf, hby, by have := h.len; omega, but_below hB h1.below h.gx0 h1.below.size, h1.kinds.but hB (fun a e hp => by have := h.farK a e hp; have := h.gx0; omega), h.farK, h.gx0⟩
/-- the program's reader stays where only the other's row is written -/
theorem Rdr.far {w w' : World} {g gx : Nat} {l : List Int} {bad b2 : Bool} {A2 : Option Addr} {m2 c2 : Nat} {t : TypeId} (h : Rdr w g l bad) (hx : w.heap[gx]? = some (.cells #[.slice A2 m2 c2, .bool b2] t (0, 0))) (hne : g ≠ gx) (hb : But gx w w') : Rdr w' g l bad := by
  have hlt := h.lt
  obtain ⟨A, c, h1, h2, h3, h4, h5⟩ := h
  refine ⟨A, c, (hb.block g hlt hne).trans h1, h2, h3, h4, ?_⟩
  rcases h5 with e | ⟨a, e, k1, k2, k3⟩
  · exact .inl e
  · by_cases hz : l = []
    · exact .inl hz
    · have hne2 : a.block ≠ gx := by
        intro e2
        have hp : 0 < l.length := by cases l with | nil => exact absurd rfl hz | cons _ _ => simp
        have h0 := k3 0 hp
        have hq : (a.add 0).block = gx := by rw [add_block]; exact e2
        unfold World.cell? at h0
        rw [hq, hx] at h0
        simp only at h0
        split at h0
        · exact absurd h0 (by simp)
        · revert h0
          generalize (a.add 0).off = o
          intro h0
          match o, h0 with
          | 0, h0 => simp at h0
          | 1, h0 => simp at h0
          | o + 2, h0 => simp at h0
      refine .inr ⟨a, e, Nat.lt_of_lt_of_le k1 hb.size, k2, fun j hj => ?_⟩
      rw [← k3 j hj]
      unfold World.cell?
      rw [hb.block _ (by rw [add_block]; exact k1) (by rw [add_block]; exact hne2)]
end Go.Proofs.YtiljnlhmeolhfaaDoor.MFd
