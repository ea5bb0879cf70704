/-
  fuseeref23.number walked: a number of eight bytes, by the reference.
-/
import Derived.Test.YtiljnlhmeolhfaaPrs
namespace Go.Proofs.Ytiljnlhmeolhfaa.MPf
open Go.RowKit Go.Proofs.YtiljnlhmeolhfaaW.PrintWords Go.Proofs.YtiljnlhmeolhfaaW.PrintLast Go.Proofs.YtiljnlhmeolhfaaW.PrintMore
set_option linter.unusedVariables false
set_option linter.unusedSimpArgs false

/-- one more byte, above -/
def refStep (v c : Int) : Int := IntKind.u64.wrap (IntKind.u64.wrap (256 * v) + IntKind.u64.wrap c)
/-- the number of the bytes from a place on -/
def refFrom (l : List Int) (j : Nat) : Int := (l.drop j).reverse.foldl refStep 0
def refW (l : List Int) : Int := refFrom l 0
theorem refFrom_step (l : List Int) (j : Nat) (c : Int) (h : l[j]? = some c) : refFrom l j = refStep (refFrom l (j + 1)) c := by
  unfold refFrom
  obtain ⟨hj, hc⟩ := List.getElem?_eq_some_iff.1 h
  rw [List.drop_eq_getElem_cons hj, hc, List.reverse_cons, List.foldl_append]
  rfl
theorem refFrom_end (l : List Int) : refFrom l l.length = 0 := by unfold refFrom; simp
set_option maxRecDepth 100000 in
theorem take8_calls (A : Option Addr) (c : Nat) (l : List Int) (w : World) (hC : (Kd.int .u8).C w A l.length l) (hc : l.length ≤ c) (hL : l.length = 8) :
    Calls Try.prog 54 #[.agg #[.slice A l.length c, .bool false], .int .i64 8] w fun e w' => ∃ A3 c3, e = .returned (.tuple #[.agg #[.slice A3 0 c3, .bool false], .int .u64 (refW l)]) ∧ Below w.heap.size w w' := by
  rw [hL]
  rw [hL] at hC hc
  obtain ⟨w1, hw1⟩ : ∃ w1, w1 = w.alloc (.cells #[.slice A 8 c, .bool false] 85) := ⟨_, rfl⟩
  obtain ⟨w2, hw2⟩ : ∃ w2, w2 = w1.alloc (.cells #[.slice none 0 0, .bool false] 85) := ⟨_, rfl⟩
  have hb1 : Below w.heap.size w w1 := by rw [hw1]; exact (Below.refl _ w).alloc (Nat.le_refl _) _
  have hb2 : Below w.heap.size w w2 := by rw [hw2]; exact hb1.alloc hb1.size _
  have h1 : w1.heap[w.heap.size]? = some (.cells #[.slice A 8 c, .bool false] 85 (0, 0)) := by rw [hw1]; exact heap_alloc_new w _
  have hlt : w.heap.size < w1.heap.size := (Array.getElem?_eq_some_iff.1 h1).1
  have h2 : w2.heap[w.heap.size]? = some (.cells #[.slice A 8 c, .bool false] 85 (0, 0)) := by rw [hw2]; exact (heap_alloc_old w1 _ _ hlt).trans h1
  have h3 : w2.heap[w1.heap.size]? = some (.cells #[.slice none 0 0, .bool false] 85 (0, 0)) := by rw [hw2]; exact heap_alloc_new w1 _
  have hsz : w1.heap.size = w.heap.size + 1 := by rw [hw1]; simp
  have hC2 := Kd.C_below hC hb2
  have HX := Lib.hid (And.intro h2 (And.intro h3 (And.intro hb2 (And.intro hC2 hsz))))
  have HW1 := Lib.hid hw1
  have HW2 := Lib.hid hw2
  clear h1 h2 h3 hb1 hb2 hC2 hw1 hw2 hlt hsz
  go_enter Try.func54, Try.ntmps54
  go_wp2_with (fail)
  rw [← HW1.out, ← HW2.out]
  go_loopw [6, 7] (fun v6 v7 wr => wr = w2 ∧ ∃ (j : Nat) (x : Int), Aside0 (j ≤ 8 ∧ x = (j : Int) - 1) ∧ v7 = .int .i64 x ∧ v6 = .int .u64 (refFrom l j))
    (fun _ v7 _ => match v7 with | .int _ n => (n + 1).toNat | _ => 0)
  case atStart => exact ⟨rfl, 8, 7, ⟨by omega⟩, rfl, by rw [← hL, refFrom_end]⟩
  case round =>
    obtain ⟨rfl, j, x, hj, rfl, rfl⟩ := hrel
    by_cases h0 : 0 ≤ x
    · have hq : x < (l.length : Int) := by have := hj.out; omega
      have hC8 : (Kd.int .u8).C wr A l.length l := by rw [hL]; exact HX.out.2.2.2.1
      obtain ⟨ad, e_, hx0⟩ := Kd.at_int hC8 x h0 hq
      subst e_
      have hc0 : wr.cell? ⟨w.heap.size, 0, none⟩ = some (.slice (some ad) 8 c) := (blk_cell HX.out.1 0).trans rfl
      have hf0 := blk_frozen HX.out.1 0
      have hstep : Aside0 (refFrom l (j - 1) = refStep (refFrom l j) (rd l x)) := ⟨by
        have hjj := hj.out
        have e1 : l[j - 1]? = some (rd l x) := by
          have : x.toNat = j - 1 := by omega
          rw [rd, this, List.getD, List.getElem?_eq_getElem (by omega)]; rfl
        have := refFrom_step l (j - 1) _ e1
        rw [show j - 1 + 1 = j by omega] at this
        exact this⟩
      have hq8 : x < 8 := by rw [hL] at hq; exact hq
      have p_ := eq_true h0
      have q_ := eq_true hq8
      clear hC8 hq
      go_wp2
      refine ⟨⟨trivial, j - 1, x - 1, ⟨by have := hj.out; omega⟩, rfl, by rw [hstep.out]; rfl⟩, ?_⟩
      show (x - 1 + 1).toNat < (x + 1).toNat
      omega
    · have hj0 : j = 0 := by have := hj.out; omega
      subst hj0
      have hx : x = -1 := by have := hj.out; omega
      subst hx
      obtain ⟨i0, hi0, _, hsz, _⟩ := info_parts info5
      have cut2 := cut_from (P := Try.prog) 23 5 .i64 Try.underlying23 hi0 1 hsz A 8 c 8 (by omega) (by omega)
      have hc0 : wr.cell? ⟨w.heap.size, 0, none⟩ = some (.slice A 8 c) := (blk_cell HX.out.1 0).trans rfl
      have hf0 := blk_frozen HX.out.1 0
      have hsz1 := HX.out.2.2.2.2
      have h3 := HX.out.2.1
      rw [hsz1] at h3
      have hd0 : wr.cell? ⟨w.heap.size + 1, 0, none⟩ = some (.slice none 0 0) := (blk_cell h3 0).trans rfl
      have hd1 : wr.cell? ⟨w.heap.size + 1, 1, none⟩ = some (.bool false) := (blk_cell h3 1).trans rfl
      have hg0 := blk_frozen h3 0
      have hg1 := blk_frozen h3 1
      simp only [show (8 : Int).toNat = 8 from rfl] at cut2
      obtain ⟨A3, hA3⟩ : ∃ A3, A3 = (if c = 8 then A else A.map (·.add (8 * 1))) := ⟨_, rfl⟩
      rw [← hA3] at cut2
      clear hi0 hsz hA3
      have H3 := Lib.hid h3
      clear h3 hsz1
      go_wp2_with (fail)
      obtain ⟨wz, hwz⟩ : ∃ wz, wz = (wr.setCell ⟨w.heap.size + 1, 0, none⟩ (.slice A3 0 (c - 8))).setCell ⟨w.heap.size + 1, 1, none⟩ (.bool false) := ⟨_, rfl⟩
      have hz3 : wz.heap[w.heap.size + 1]? = some (.cells #[.slice A3 0 (c - 8), .bool false] 85 (0, 0)) := by
        rw [hwz]
        exact blk_put (blk_put H3.out 0 _ rfl) 1 _ rfl
      have hzb : Below w.heap.size w wz := by
        rw [hwz]
        exact (HX.out.2.2.1.setCell (Nat.le_succ _) _).setCell (Nat.le_succ _) _
      rw [← hwz]
      refine bodyPost_ret (results_ct rfl _ wz (w.heap.size + 1) 85 #[.slice A3 0 (c - 8), .bool false] (0, 0) _ rfl hz3 Try.underlying85 rfl (by kernel_rfl)) rfl ?_
      exact ⟨⟨A3, c - 8, rfl⟩, hzb⟩
set_option maxRecDepth 100000 in
theorem refnum_calls (A : Option Addr) (c : Nat) (l : List Int) (w : World) (hC : (Kd.int .u8).C w A l.length l) (hc : l.length ≤ c) (hL : l.length = 8) :
    Calls Try.prog 32 #[.slice A l.length c] w fun e w' => e = .returned (.int .u64 (refW l)) ∧ Below w.heap.size w w' := by
  have ht := take8_calls A c l w hC hc hL
  rw [hL] at ht ⊢
  go_enter Try.func32, Try.ntmps32
  go_wp2_with (go_at_call 54; (with_reducible refine ht.mono ?_); rintro e w2 ⟨A3, c3, rfl, hb⟩)
  go_ret
  exact ⟨rfl, hb.alloc hb.size _⟩
end Go.Proofs.Ytiljnlhmeolhfaa.MPf
