/-
  Package fields' reader: New, its methods, walked.
-/
import Derived.Test.YtiljnlhmeolhfaaDoorRd
import Derived.Test.YtiljnlhmeolhfaaDoorK
import Derived.Test.YtiljnlhmeolhfaaDoorRow
import Derived.Test.YtiljnlhmeolhfaaDoorMFdx
import Derived.Lib.SliceRun
namespace Go.Proofs.YtiljnlhmeolhfaaDoor.MFd
open Go.RowKit Go.Proofs.YtiljnlhmeolhfaaDoorW.PrintWords Go.Proofs.YtiljnlhmeolhfaaDoorW.PrintLast Go.Proofs.YtiljnlhmeolhfaaDoorW.PrintMore
set_option linter.unusedVariables false
set_option linter.unusedSimpArgs false

set_option maxRecDepth 100000 in
theorem new_calls (A : Option Addr) (c : Nat) (l : List Int) (w : World) (hC : (Kd.int .u8).C w A l.length l) (hc : l.length ≤ c) (hL : l.length ≤ 140737488351232) :
    Calls Tryd.prog 30 #[.slice A l.length c] w fun e w' => ∃ g, e = .returned (.pointer (some ⟨g, 0, none⟩)) ∧ w.heap.size ≤ g ∧ Rdr w' g l false ∧ Below w.heap.size w w' := by
  have hclone : slices_Clone_byte_byte.f l = some l := by
    unfold slices_Clone_byte_byte.f
    simp only [Option.bind_some]
    rw [if_pos (by simp; omega)]; simp
  go_enter Tryd.func30, Tryd.ntmps30
  go_wp2_with (go_at_call 60; (with_reducible refine (slices_Clone_byte_byte.calls A c l l _ hC hc hclone).mono ?_); rintro e w2 ⟨v, rfl, hv, hb⟩; obtain ⟨A2, c2, rfl⟩ := Kd.R_slice hv)
  go_ret
  have hr := Kd.R_reads' hv
  have hm : c2 ≤ maxLen := by
    rcases (Kd.own_of_R hv).2 with ⟨h1, _⟩ | ⟨g, cap, cur, h1, _, _, _, h2, _⟩
    · injection h1 with _ _ h1; omega
    · injection h1 with _ _ h1; omega
  have hA : Below w2.heap.size w2 (w2.alloc (.cells #[.slice A2 l.length c2, .bool false] 80)) := (Below.refl _ w2).alloc (Nat.le_refl _) _
  refine ⟨w2.heap.size, rfl, hb.size, Rdr.of_C (heap_alloc_new w2 _) hr.2.1 hm hL (Kd.C_below hr.2.2 hA) (fun a e he => ?_), hb.trans (hA.mono hb.size)⟩
  have := Kd.R_lt hv a.block (by subst e; rfl)
  omega
set_option maxRecDepth 100000 in
theorem i64_calls (g : Nat) (l : List Int) (bad : Bool) (w : World) (h : Rdr w g l bad) :
    Calls Tryd.prog 33 #[.pointer (some ⟨g, 0, none⟩)] w fun e w' => e = .returned (.int .i64 (wrap64 (rdNum l bad 8))) ∧ Rdr w' g (rdLeft l bad 8) (rdBad l bad 8) ∧ But g w w' := by
  have hN : Calls Tryd.prog 61 #[.pointer (some ⟨g, 0, none⟩), .int .i64 8] w fun e w' => e = .returned (.int .u64 (rdNum l bad 8)) ∧ Rdr w' g (rdLeft l bad 8) (rdBad l bad 8) ∧ But g w w' := number_calls g 8 l bad w h
  go_enter Tryd.func33, Tryd.ntmps33
  go_wp2_with (go_at_call 61; (with_reducible refine hN.mono ?_); rintro e w2 ⟨rfl, hr, hb⟩)
  go_ret
  exact ⟨rfl, hr, hb⟩
set_option maxRecDepth 100000 in
theorem u32_calls (g : Nat) (l : List Int) (bad : Bool) (w : World) (h : Rdr w g l bad) :
    Calls Tryd.prog 32 #[.pointer (some ⟨g, 0, none⟩)] w fun e w' => e = .returned (.int .u32 (IntKind.u32.wrap (rdNum l bad 4))) ∧ Rdr w' g (rdLeft l bad 4) (rdBad l bad 4) ∧ But g w w' := by
  have hN : Calls Tryd.prog 61 #[.pointer (some ⟨g, 0, none⟩), .int .i64 4] w fun e w' => e = .returned (.int .u64 (rdNum l bad 4)) ∧ Rdr w' g (rdLeft l bad 4) (rdBad l bad 4) ∧ But g w w' := number_calls g 4 l bad w h
  go_enter Tryd.func32, Tryd.ntmps32
  go_wp2_with (go_at_call 61; (with_reducible refine hN.mono ?_); rintro e w2 ⟨rfl, hr, hb⟩)
  go_ret
  exact ⟨rfl, hr, hb⟩
set_option maxRecDepth 100000 in
theorem u16_calls (g : Nat) (l : List Int) (bad : Bool) (w : World) (h : Rdr w g l bad) :
    Calls Tryd.prog 31 #[.pointer (some ⟨g, 0, none⟩)] w fun e w' => e = .returned (.int .u16 (IntKind.u16.wrap (rdNum l bad 2))) ∧ Rdr w' g (rdLeft l bad 2) (rdBad l bad 2) ∧ But g w w' := by
  have hN : Calls Tryd.prog 61 #[.pointer (some ⟨g, 0, none⟩), .int .i64 2] w fun e w' => e = .returned (.int .u64 (rdNum l bad 2)) ∧ Rdr w' g (rdLeft l bad 2) (rdBad l bad 2) ∧ But g w w' := number_calls g 2 l bad w h
  go_enter Tryd.func31, Tryd.ntmps31
  go_wp2_with (go_at_call 61; (with_reducible refine hN.mono ?_); rintro e w2 ⟨rfl, hr, hb⟩)
  go_ret
  exact ⟨rfl, hr, hb⟩
set_option maxRecDepth 100000 in
theorem u8_calls (g : Nat) (l : List Int) (bad : Bool) (w : World) (h : Rdr w g l bad) :
    Calls Tryd.prog 36 #[.pointer (some ⟨g, 0, none⟩)] w fun e w' => e = .returned (.int .u8 (IntKind.u8.wrap (rdNum l bad 1))) ∧ Rdr w' g (rdLeft l bad 1) (rdBad l bad 1) ∧ But g w w' := by
  have hN : Calls Tryd.prog 61 #[.pointer (some ⟨g, 0, none⟩), .int .i64 1] w fun e w' => e = .returned (.int .u64 (rdNum l bad 1)) ∧ Rdr w' g (rdLeft l bad 1) (rdBad l bad 1) ∧ But g w w' := number_calls g 1 l bad w h
  go_enter Tryd.func36, Tryd.ntmps36
  go_wp2_with (go_at_call 61; (with_reducible refine hN.mono ?_); rintro e w2 ⟨rfl, hr, hb⟩)
  go_ret
  exact ⟨rfl, hr, hb⟩
set_option maxRecDepth 100000 in
theorem left_calls (g : Nat) (l : List Int) (bad : Bool) (w : World) (h : Rdr w g l bad) :
    Calls Tryd.prog 37 #[.pointer (some ⟨g, 0, none⟩)] w fun e w' => e = .returned (.int .i64 l.length) ∧ w = w' := by
  obtain ⟨A, c, hb, h2, h3, h5, h4⟩ := h
  have c0 : w.cell? ⟨g, 0, none⟩ = some (.slice A l.length c) := (blk_cell hb 0).trans rfl
  have f0 := blk_frozen hb 0
  clear hb h4
  go_enter Tryd.func37, Tryd.ntmps37
  go_wp2
  go_ret
  exact ⟨rfl, rfl⟩
/-- whether a reader is done -/
def rdDone (l : List Int) (bad : Bool) : Option Int := if bad = true ∨ 0 < l.length then some 3 else none
set_option maxRecDepth 100000 in
theorem done_calls (g : Nat) (l : List Int) (bad : Bool) (w : World) (h : Rdr w g l bad) :
    Calls Tryd.prog 35 #[.pointer (some ⟨g, 0, none⟩)] w fun e w' => e = .returned (errV (rdDone l bad)) ∧ w = w' := by
  obtain ⟨A, c, hb, h2, h3, h5, h4⟩ := h
  have c0 : w.cell? ⟨g, 0, none⟩ = some (.slice A l.length c) := (blk_cell hb 0).trans rfl
  have c1 : w.cell? ⟨g, 1, none⟩ = some (.bool bad) := (blk_cell hb 1).trans rfl
  have f0 := blk_frozen hb 0
  have f1 := blk_frozen hb 1
  clear hb h4
  cases bad with
  | true =>
    have e : rdDone l true = some 3 := by simp [rdDone]
    rw [e]
    go_enter Tryd.func35, Tryd.ntmps35
    go_wp2
    go_ret
    exact ⟨rfl, rfl⟩
  | false =>
    by_cases hl : 0 < l.length
    · have e : rdDone l false = some 3 := by simp [rdDone, hl]
      rw [e]
      have d1 : decide ((0 : Int) < (l.length : Int)) = true := decide_eq_true (by omega)
      go_enter Tryd.func35, Tryd.ntmps35
      go_wp2
      go_ret
      exact ⟨rfl, rfl⟩
    · have e : rdDone l false = none := by simp [rdDone, hl]
      rw [e]
      have h0 : l.length = 0 := by omega
      rw [h0] at c0
      clear h0 h2 h5 hl
      go_enter Tryd.func35, Tryd.ntmps35
      go_wp2
      go_ret
      exact ⟨rfl, rfl⟩
/-- so many bytes of a reader -/
def rdTake (l : List Int) (bad : Bool) (n : Nat) : List Int := if bad = true ∨ l.length < n then [] else l.take n
theorem C_of_bytes {w : World} {A : Option Addr} {l : List Int} {n1 bv : Nat} (h : Bytes n1 bv w A l) (hL : l.length ≤ maxLen) : (Kd.int .u8).C w A l.length l := by
  refine Kd.C_of_reads (enc := Value.int .u8) (d := (0 : Int)) (h1 := fun _ => rfl) ⟨rfl, hL, fun hp => ?_⟩
  rcases h with rfl | ⟨a, rfl, _, _, hc⟩
  · simp at hp
  · exact ⟨a, rfl, fun j hj => by rw [hc j hj]; simp [List.getD_eq_getElem?_getD]⟩
set_option maxRecDepth 100000 in
theorem take_calls (g n : Nat) (l : List Int) (bad : Bool) (w : World) (h : Rdr w g l bad) :
    Calls Tryd.prog 62 #[.pointer (some ⟨g, 0, none⟩), .int .i64 n] w fun e w' => ∃ A c, e = .returned (.slice A (rdTake l bad n).length c) ∧ (Kd.int .u8).C w' A (rdTake l bad n).length (rdTake l bad n) ∧ Rdr w' g (rdLeft l bad n) (rdBad l bad n) ∧ But g w w' := by
  have hg := h.lt
  obtain ⟨A, c, hb, hl, hc, hL, hB⟩ := h
  by_cases hs : bad = true ∨ l.length < n
  · have hT : Calls Tryd.prog 62 #[.pointer (some ⟨g, 0, none⟩), .int .i64 n] w fun e w' => e = .returned (.slice none 0 0) ∧ w'.heap[g]? = some (.cells #[.slice none 0 0, .bool true] 80 (0, 0)) ∧ But g w w' := by
      cases bad with
      | true => exact take_bad g _ n _ hb rfl
      | false => exact take_short g A l.length c n _ hb (by have : l.length < n := hs.resolve_left (by simp); omega)
    refine hT.mono ?_
    rintro e w' ⟨he, h1, h2⟩
    have e1 : rdTake l bad n = [] := by unfold rdTake; rw [if_pos hs]
    have e2 : rdLeft l bad n = [] := by unfold rdLeft; rw [if_pos hs]
    have e3 : rdBad l bad n = true := by unfold rdBad; rcases hs with h | h <;> simp [h]
    rw [e1, e2, e3]
    exact ⟨none, 0, he, ⟨rfl, Nat.zero_le _, fun h => absurd h (by simp)⟩, ⟨none, 0, h1, Nat.zero_le _, Nat.zero_le _, by simp, .inl rfl⟩, h2⟩
  · obtain ⟨hbad, hn⟩ : bad = false ∧ n ≤ l.length := by
      cases bad
      · exact ⟨rfl, by omega⟩
      · exact absurd (Or.inl rfl) hs
    subst hbad
    refine (take_ok g A l.length c n w hb hn hl hc).mono ?_
    rintro e w' ⟨he, h1, h2⟩
    have hlt : (l.take n).length = n := by rw [List.length_take]; omega
    have e1 : rdTake l false n = l.take n := by unfold rdTake; rw [if_neg hs]
    have e2 : rdLeft l false n = l.drop n := by unfold rdLeft; rw [if_neg hs]
    have e3 : rdBad l false n = false := by unfold rdBad; simp; omega
    have hBw : Bytes w.heap.size g w' A l := hB.kept (fun k h1 h3 => h2.block k h1 h3)
    rw [e1, e2, e3]
    have hT : Bytes w.heap.size g w' A (l.take n) := by
      rcases hBw with e | ⟨a, e, k1, k2, k3⟩
      · exact .inl (by rw [e]; simp)
      · exact .inr ⟨a, e, k1, k2, fun j hj => by rw [k3 j (by omega)]; rw [List.getElem?_take_of_lt (by omega)]⟩
    refine ⟨A, c, by rw [hlt]; exact he, C_of_bytes hT (by omega), ⟨_, _, by rw [List.length_drop]; exact h1, by rw [List.length_drop]; omega, by omega, by rw [List.length_drop]; omega, ?_⟩, h2⟩
    by_cases hz : l.length = n
    · exact .inl (by rw [List.drop_eq_nil_iff]; omega)
    · rcases hBw with e | ⟨a, rfl, k1, k2, k3⟩
      · subst e; simp at hn; simp at hz; omega
      · rw [if_neg (by omega)]
        refine .inr ⟨a.add (n * 1), rfl, by rw [add_block]; exact Nat.lt_of_lt_of_le k1 h2.size, by rw [add_block]; exact k2, fun j hj => ?_⟩
        rw [List.length_drop] at hj
        rw [add_add, Nat.mul_one, k3 (n + j) (by omega), List.getElem?_drop]
/-- a byte's own number -/
def rdByte (l : List Int) (bad : Bool) : Nat := (IntKind.u8.wrap (rdNum l bad 1)).toNat
theorem rdByte_eq (l : List Int) (bad : Bool) : ((rdByte l bad : Nat) : Int) = IntKind.u8.wrap (rdNum l bad 1) := by
  unfold rdByte
  have : 0 ≤ IntKind.u8.wrap (rdNum l bad 1) := by
    show 0 ≤ (rdNum l bad 1) % 256
    omega
  omega
set_option maxRecDepth 100000 in
theorem text_calls (g : Nat) (l : List Int) (bad : Bool) (w : World) (h : Rdr w g l bad) :
    Calls Tryd.prog 34 #[.pointer (some ⟨g, 0, none⟩)] w fun e w' => e = .returned (.string (strOfNums (rdTake (rdLeft l bad 1) (rdBad l bad 1) (rdByte l bad)))) ∧ Rdr w' g (rdLeft (rdLeft l bad 1) (rdBad l bad 1) (rdByte l bad)) (rdBad (rdLeft l bad 1) (rdBad l bad 1) (rdByte l bad)) ∧ But g w w' := by
  have hU := u8_calls g l bad w h
  have hT := fun W h => take_calls g (rdByte l bad) (rdLeft l bad 1) (rdBad l bad 1) W h
  obtain ⟨x, hx⟩ : ∃ x : Int, x = IntKind.u8.wrap (rdNum l bad 1) := ⟨_, rfl⟩
  rw [← hx] at hU
  simp only [rdByte_eq, ← hx] at hT
  have x0 : 0 ≤ x := by rw [hx]; show 0 ≤ (rdNum l bad 1) % 256; omega
  have x1 : x ≤ 255 := by rw [hx]; show (rdNum l bad 1) % 256 ≤ 255; omega
  have HX := Lib.hid hx
  clear hx
  go_enter Tryd.func34, Tryd.ntmps34
  go_wp2_with (first | (go_at_call 36; (with_reducible refine hU.mono ?_); rintro e w2 ⟨rfl, hr, hb⟩) | (go_at_call 62; (with_reducible refine (hT _ hr).mono ?_); rintro e w3 ⟨A3, c3, rfl, hC3, hr3, hb3⟩; have hcv := Kd.C_string (P := Tryd.prog) (A := A3) (c := c3) Tryd.underlying36 Tryd.underlying5 Tryd.underlying9 hC3))
  go_ret
  exact ⟨rfl, hr3, hb.trans hb3⟩
end Go.Proofs.YtiljnlhmeolhfaaDoor.MFd
