/-
  Package prf: a word of eight bytes, the sum, the number of a place, another key.
-/
import Derived.Test.YtiljnlhmeolhfaaRd
import Derived.Test.YtiljnlhmeolhfaaK
import Derived.Test.YtiljnlhmeolhfaaRow
import Derived.Test.YtiljnlhmeolhfaaMPfx
import Derived.Lib.SliceRun
namespace Go.Proofs.Ytiljnlhmeolhfaa.MPf
open Go.RowKit Go.Proofs.YtiljnlhmeolhfaaW.PrintWords Go.Proofs.YtiljnlhmeolhfaaW.PrintLast Go.Proofs.YtiljnlhmeolhfaaW.PrintMore
set_option linter.unusedVariables false
set_option linter.unusedSimpArgs false

set_option maxRecDepth 100000 in
theorem new_calls (A : Option Addr) (c : Nat) (l : List Int) (w : World) (hC : (Kd.int .u8).C w A l.length l) (hc : l.length ≤ c) (hL : l.length ≤ 140737488351232) :
    Calls Try.prog 51 #[.slice A l.length c] w fun e w' => ∃ g, e = .returned (.pointer (some ⟨g, 0, none⟩)) ∧ w.heap.size ≤ g ∧ Rdr w' g l false ∧ Below w.heap.size w w' := by
  have hclone : slices_Clone_byte_byte.f l = some l := by
    unfold slices_Clone_byte_byte.f
    simp only [Option.bind_some]
    rw [if_pos (by simp; omega)]; simp
  go_enter Try.func51, Try.ntmps51
  go_wp2_with (go_at_call 61; (with_reducible refine (slices_Clone_byte_byte.calls A c l l _ hC hc hclone).mono ?_); rintro e w2 ⟨v, rfl, hv, hb⟩; obtain ⟨A2, c2, rfl⟩ := Kd.R_slice hv)
  go_ret
  have hr := Kd.R_reads' hv
  have hm : c2 ≤ maxLen := by
    rcases (Kd.own_of_R hv).2 with ⟨h1, _⟩ | ⟨g, cap, cur, h1, _, _, _, h2, _⟩
    · injection h1 with _ _ h1; omega
    · injection h1 with _ _ h1; omega
  have hA : Below w2.heap.size w2 (w2.alloc (.cells #[.slice A2 l.length c2, .bool false] 98)) := (Below.refl _ w2).alloc (Nat.le_refl _) _
  refine ⟨w2.heap.size, rfl, hb.size, Rdr.of_C (heap_alloc_new w2 _) hr.2.1 hm hL (Kd.C_below hr.2.2 hA) (fun a e he => ?_), hb.trans (hA.mono hb.size)⟩
  have := Kd.R_lt hv a.block (by subst e; rfl)
  omega
set_option maxRecDepth 100000 in
theorem i64_calls (g : Nat) (l : List Int) (bad : Bool) (w : World) (h : Rdr w g l bad) :
    Calls Try.prog 52 #[.pointer (some ⟨g, 0, none⟩)] w fun e w' => e = .returned (.int .i64 (wrap64 (rdNum l bad 8))) ∧ Rdr w' g (rdLeft l bad 8) (rdBad l bad 8) ∧ But g w w' := by
  have hN : Calls Try.prog 62 #[.pointer (some ⟨g, 0, none⟩), .int .i64 8] w fun e w' => e = .returned (.int .u64 (rdNum l bad 8)) ∧ Rdr w' g (rdLeft l bad 8) (rdBad l bad 8) ∧ But g w w' := number_calls g 8 l bad w h
  go_enter Try.func52, Try.ntmps52
  go_wp2_with (go_at_call 62; (with_reducible refine hN.mono ?_); rintro e w2 ⟨rfl, hr, hb⟩)
  go_ret
  exact ⟨rfl, hr, hb⟩
/-- the word of eight bytes -/
def wordV (l : List Int) : Int := IntKind.u64.wrap (wrap64 (rdNum l false 8))
set_option maxRecDepth 100000 in
theorem word_calls (A : Option Addr) (c : Nat) (l : List Int) (w : World) (hC : (Kd.int .u8).C w A l.length l) (hc : l.length ≤ c) (hL : l.length ≤ 140737488351232) :
    Calls Try.prog 29 #[.slice A l.length c] w fun e w' => e = .returned (.int .u64 (wordV l)) ∧ Below w.heap.size w w' := by
  go_enter Try.func29, Try.ntmps29
  go_wp2_with (first | (go_at_call 51; (with_reducible refine (new_calls A c l _ hC hc hL).mono ?_); rintro e w2 ⟨g, rfl, hg, hr, hb⟩) | (go_at_call 52; (with_reducible refine (i64_calls g l false _ hr).mono ?_); rintro e w3 ⟨rfl, _, hb3⟩))
  go_ret
  exact ⟨rfl, hb3.os.trans hb.os, hb3.tape.trans hb.tape, hb3.output.trans hb.output, Nat.le_trans hb.size hb3.size, fun k hk => (hb3.block k (Nat.lt_of_lt_of_le hk hb.size) (by omega)).trans (hb.block k hk)⟩
end Go.Proofs.Ytiljnlhmeolhfaa.MPf
