/- Printed by wip/gen/mp.py: Go functions as plain Lean functions, and that the calls do what these say. -/
import Derived.Test.YtfipgpfmlkfkfaaDoorMCrcFindsx0
import Derived.Test.YtfipgpfmlkfkfaaDoorMCrcFindsx1
namespace Go.Proofs.YtfipgpfmlkfkfaaDoor.MCrcFinds
open Go.RowKit Go.Proofs.YtfipgpfmlkfkfaaDoorW.PrintWords Go.Proofs.YtfipgpfmlkfkfaaDoorW.PrintLast Go.Proofs.YtfipgpfmlkfkfaaDoorW.PrintMore
attribute [local go_sem] max2_int min2_int max_two min_two max_three min_three max_four min_four   -- for this text's walks alone
set_option linter.unusedVariables false
set_option linter.unusedSimpArgs false

/-! ### fuseelaw04_CrcFinds: function 7 -/
def fuseelaw04_CrcFinds.j0 : Nat → Int → List Int → Bool → Option (Bool)
 | 0, _, _, _ => none
 | k + 1, x2, x8, x58 => if x58 = true then (none) else (if (IntKind.u64.wrap (wrap64 (8 * (x8.length : Int)))) = 0 then (none) else (if 0 ≤ (wrap64 (Int.tdiv (wrap64 (Int.tmod (IntKind.u64.wrap (x2)) (IntKind.u64.wrap (wrap64 (8 * (x8.length : Int)))))) 8)) then (if (wrap64 (Int.tdiv (wrap64 (Int.tmod (IntKind.u64.wrap (x2)) (IntKind.u64.wrap (wrap64 (8 * (x8.length : Int)))))) 8)) < (x8.length : Int) then (if 0 ≤ (IntKind.u64.wrap (Int.tmod (wrap64 (Int.tmod (IntKind.u64.wrap (x2)) (IntKind.u64.wrap (wrap64 (8 * (x8.length : Int)))))) 8)) then ((crc_Opened.f k (x8.set ((wrap64 (Int.tdiv (wrap64 (Int.tmod (IntKind.u64.wrap (x2)) (IntKind.u64.wrap (wrap64 (8 * (x8.length : Int)))))) 8)) : Int).toNat (Go.bits .xor .u8 (rd x8 (wrap64 (Int.tdiv (wrap64 (Int.tmod (IntKind.u64.wrap (x2)) (IntKind.u64.wrap (wrap64 (8 * (x8.length : Int)))))) 8))) (shl .u8 1 (IntKind.u64.wrap (Int.tmod (wrap64 (Int.tmod (IntKind.u64.wrap (x2)) (IntKind.u64.wrap (wrap64 (8 * (x8.length : Int)))))) 8)))))).bind fun bt159 => ((fuseelaw04_num.f bt159.2).bind fun t163 => (if t163 = 4 then ((fuseelaw04_sure.f).bind fun t164 => (some t164)) else (none)))) else (none)) else (none)) else (none)))
def fuseelaw04_CrcFinds.f (k : Nat) (l0 : List Int) (l1 : List Int) (a2 : Int) : Option (Bool) := if (wrap64 ((l0.length : Int) + (l1.length : Int))) > 400 then ((fuseelaw04_sure.f).bind fun t139 => (some t139)) else (if ([] : List Int).length + l0.length < 140737488355328 then ((some (([] : List Int) ++ l0 : List Int)).bind fun y140 => (if y140.length + l1.length < 140737488355328 then ((some (y140 ++ l1 : List Int)).bind fun y143 => ((crc_Sealed.f k y143).bind fun t146 => ((crc_Opened.f k t146).bind fun bt149 => (if bt149.2.isNone = true then (if (strOfNums bt149.1).toList = (strOfNums y143).toList then ((crc_Sum.f k y143).bind fun t154 => ((crc_More.f k 0 l0).bind fun t155 => ((crc_More.f k t155 l1).bind fun t156 => (if t154 = t156 then (fuseelaw04_CrcFinds.j0 k a2 t146 ((t146.length : Int) != (wrap64 ((y143.length : Int) + 4)))) else (fuseelaw04_CrcFinds.j0 k a2 t146 true))))) else (fuseelaw04_CrcFinds.j0 k a2 t146 true)) else (fuseelaw04_CrcFinds.j0 k a2 t146 true))))) else (none))) else (none))
theorem fuseelaw04_CrcFinds.mono_l : ∀ k, (∀ y0 y1 y2, LeO (fuseelaw04_CrcFinds.j0 k y0 y1 y2) (fuseelaw04_CrcFinds.j0 (k + 1) y0 y1 y2))
 | 0 => fun _ _ _ r h => by simp [fuseelaw04_CrcFinds.j0] at h
 | k + 1 => by
  have ih0 := fuseelaw04_CrcFinds.mono_l k
  ·intro y0 y1 y2
   unfold fuseelaw04_CrcFinds.j0
   repeat' first
   | (with_reducible exact ih0 _ _ _)
   | (with_reducible exact crc_More.mono _ _ _)
   | (with_reducible exact crc_Opened.mono _ _)
   | (with_reducible exact crc_Sealed.mono _ _)
   | (with_reducible exact crc_Sum.mono _ _)
   | (with_reducible exact LeO.refl _)
   | (with_reducible exact LeO.none _)
   | (with_reducible refine LeO.ite ?_ ?_)
   | (with_reducible refine LeO.bind ?_ (fun _ => ?_))
   | exact ih0 _ _ _
   | exact crc_More.mono _ _ _
   | exact crc_Opened.mono _ _
   | exact crc_Sealed.mono _ _
   | exact crc_Sum.mono _ _
   | exact LeO.none _
   | refine LeO.ite ?_ ?_
   | refine LeO.bind ?_ (fun _ => ?_)
theorem fuseelaw04_CrcFinds.mono : ∀ a0 a1 a2 k, LeO (fuseelaw04_CrcFinds.f k a0 a1 a2) (fuseelaw04_CrcFinds.f (k + 1) a0 a1 a2) := by
 intro a0 a1 a2 k
 have ih0 := fuseelaw04_CrcFinds.mono_l k
 unfold fuseelaw04_CrcFinds.f
 repeat' first
   | (with_reducible exact ih0 _ _ _)
   | (with_reducible exact crc_More.mono _ _ _)
   | (with_reducible exact crc_Opened.mono _ _)
   | (with_reducible exact crc_Sealed.mono _ _)
   | (with_reducible exact crc_Sum.mono _ _)
   | (with_reducible exact LeO.refl _)
   | (with_reducible exact LeO.none _)
   | (with_reducible refine LeO.ite ?_ ?_)
   | (with_reducible refine LeO.bind ?_ (fun _ => ?_))
   | exact ih0 _ _ _
   | exact crc_More.mono _ _ _
   | exact crc_Opened.mono _ _
   | exact crc_Sealed.mono _ _
   | exact crc_Sum.mono _ _
   | exact LeO.none _
   | refine LeO.ite ?_ ?_
   | refine LeO.bind ?_ (fun _ => ?_)
set_option maxHeartbeats 8000000 in
set_option maxRecDepth 100000 in
theorem fuseelaw04_CrcFinds.calls (k : Nat) (A0 : Option Addr) (c0 : Nat) (l0 : List Int) (A1 : Option Addr) (c1 : Nat) (l1 : List Int) (a2 : Int) (r : Bool) (w : World) (hgL : HG w) (hr0 : Kd.C (Kd.int .u8) w A0 l0.length l0) (hc0 : l0.length ≤ c0) (hr1 : Kd.C (Kd.int .u8) w A1 l1.length l1) (hc1 : l1.length ≤ c1) (h : fuseelaw04_CrcFinds.f k l0 l1 a2 = some r) :
  Calls Tryd.prog 7 #[.slice A0 l0.length c0, .slice A1 l1.length c1, .int .i64 a2] w fun e w' => e = .returned (.bool r) ∧ Below w.heap.size w w' := by
 have hu29 := Tryd.underlying29
 have hu115 := Tryd.underlying115
 have HR0 := qS hr0
 have HC0 := qS hc0
 clear hr0 hc0
 have HR1 := qS hr1
 have HC1 := qS hc1
 clear hr1 hc1
 have HB := qS (Below.refl w.heap.size w)
 have H : (if (wrap64 ((l0.length : Int) + (l1.length : Int))) > 400 then ((fuseelaw04_sure.f).bind fun t139 => (some t139)) else (if ([] : List Int).length + l0.length < 140737488355328 then ((some (([] : List Int) ++ l0 : List Int)).bind fun y140 => (if y140.length + l1.length < 140737488355328 then ((some (y140 ++ l1 : List Int)).bind fun y143 => ((crc_Sealed.f k y143).bind fun t146 => ((crc_Opened.f k t146).bind fun bt149 => (if bt149.2.isNone = true then (if (strOfNums bt149.1).toList = (strOfNums y143).toList then ((crc_Sum.f k y143).bind fun t154 => ((crc_More.f k 0 l0).bind fun t155 => ((crc_More.f k t155 l1).bind fun t156 => (if t154 = t156 then (fuseelaw04_CrcFinds.j0 k a2 t146 ((t146.length : Int) != (wrap64 ((y143.length : Int) + 4)))) else (fuseelaw04_CrcFinds.j0 k a2 t146 true))))) else (fuseelaw04_CrcFinds.j0 k a2 t146 true)) else (fuseelaw04_CrcFinds.j0 k a2 t146 true))))) else (none))) else (none))) = some r := h
 clear h
 by_cases c4 : (wrap64 ((l0.length : Int) + (l1.length : Int))) > 400
 ·rw [if_pos c4] at H
  have c4b0 : decide (400 < (wrap64 ((l0.length : Int) + (l1.length : Int)))) = true := decide_eq_true c4
  clear c4
  replace H := Option.bind_eq_some_iff.mp H
  obtain ⟨t139, A50, H⟩ := H
  replace H : (some t139) = some r := H
  have A5 := qS A50
  clear A50
  as_aux_lemma =>
   obtain rfl := Option.some.inj H
   go_enter Tryd.func7, Tryd.ntmps7
   go_wp2_with (first | ((with_reducible refine gate_callee (f := 25) rfl ?_); refine goesL_ (some 20) rfl rfl Tryd.func25 (by kernel_rfl) rfl #[] rfl (by (try simp only [List.map_toArray, List.map_cons, List.map_nil]); first | done | rfl | (simp only [*]; done) | (simp only [List.length_drop, List.length_take]; rfl) | (simp only [Act.eval, Array.getD_eq_getD_getElem?, Option.getD_some, *])) ?_; (with_reducible refine (fuseelaw04_sure.calls  t139 _ ?side1 A5.out).mono ?_); (case side1 => exact HG.below hgL (Nat.le_refl _) (by repeat (first | (with_reducible first | exact HB.out | apply qpA | apply qpN | apply qp1) | exact HB.out))); rintro e w6 ⟨rfl, hb⟩; refine ⟨_, rfl, ?_⟩; have n0_ := qS (below_step (by repeat (first | (with_reducible first | exact HB.out | apply qpA | apply qpN | apply qp1) | exact HB.out)) hb); clear HB; have HB := n0_; clear n0_; (try clear hb); (try clear hb2); (try clear hk); (try clear hi)))
   go_ret
   exact ⟨by first | rfl | (simp [errW_none, errW_some] <;> rfl) | (simp [*, errW_none, errW_some] <;> rfl), by repeat (first | (with_reducible first | exact HB.out | apply qpA | apply qpN | apply qp1) | exact HB.out)⟩
 ·rw [if_neg c4] at H
  have c4b0 : decide (400 < (wrap64 ((l0.length : Int) + (l1.length : Int)))) = false := decide_eq_false c4
  clear c4
  by_cases c7 : ([] : List Int).length + l0.length < 140737488355328
  ·rw [if_pos c7] at H
   have LMc7 := qS c7
   clear c7
   obtain ⟨y140, hy140⟩ : ∃ y_ : List Int, y_ = (([] : List Int) ++ l0) := ⟨_, rfl⟩
   replace H : (if y140.length + l1.length < 140737488355328 then ((some (y140 ++ l1 : List Int)).bind fun y143 => ((crc_Sealed.f k y143).bind fun t146 => ((crc_Opened.f k t146).bind fun bt149 => (if bt149.2.isNone = true then (if (strOfNums bt149.1).toList = (strOfNums y143).toList then ((crc_Sum.f k y143).bind fun t154 => ((crc_More.f k 0 l0).bind fun t155 => ((crc_More.f k t155 l1).bind fun t156 => (if t154 = t156 then (fuseelaw04_CrcFinds.j0 k a2 t146 ((t146.length : Int) != (wrap64 ((y143.length : Int) + 4)))) else (fuseelaw04_CrcFinds.j0 k a2 t146 true))))) else (fuseelaw04_CrcFinds.j0 k a2 t146 true)) else (fuseelaw04_CrcFinds.j0 k a2 t146 true))))) else (none)) = some r := by first | (rw [hy140]; with_reducible exact H) | (have H2_ := (Option.bind_some _ _).symm.trans H; rw [hy140]; with_reducible exact H2_) | (have H2_ := (Option.bind_some _ _).symm.trans H; with_reducible exact H2_) | with_reducible exact H | (rw [hy140]; exact H) | exact H
   have Ny140 := qS hy140
   clear hy140
   by_cases c8 : y140.length + l1.length < 140737488355328
   ·rw [if_pos c8] at H
    have LMc8 := qS c8
    clear c8
    obtain ⟨y143, hy143⟩ : ∃ y_ : List Int, y_ = (y140 ++ l1) := ⟨_, rfl⟩
    replace H : ((crc_Sealed.f k y143).bind fun t146 => ((crc_Opened.f k t146).bind fun bt149 => (if bt149.2.isNone = true then (if (strOfNums bt149.1).toList = (strOfNums y143).toList then ((crc_Sum.f k y143).bind fun t154 => ((crc_More.f k 0 l0).bind fun t155 => ((crc_More.f k t155 l1).bind fun t156 => (if t154 = t156 then (fuseelaw04_CrcFinds.j0 k a2 t146 ((t146.length : Int) != (wrap64 ((y143.length : Int) + 4)))) else (fuseelaw04_CrcFinds.j0 k a2 t146 true))))) else (fuseelaw04_CrcFinds.j0 k a2 t146 true)) else (fuseelaw04_CrcFinds.j0 k a2 t146 true)))) = some r := by first | (rw [hy143]; with_reducible exact H) | (have H2_ := (Option.bind_some _ _).symm.trans H; rw [hy143]; with_reducible exact H2_) | (have H2_ := (Option.bind_some _ _).symm.trans H; with_reducible exact H2_) | with_reducible exact H | (rw [hy143]; exact H) | exact H
    have Ny143 := qS hy143
    clear hy143
    replace H := Option.bind_eq_some_iff.mp H
    obtain ⟨t146, A90, H⟩ := H
    replace H : ((crc_Opened.f k t146).bind fun bt149 => (if bt149.2.isNone = true then (if (strOfNums bt149.1).toList = (strOfNums y143).toList then ((crc_Sum.f k y143).bind fun t154 => ((crc_More.f k 0 l0).bind fun t155 => ((crc_More.f k t155 l1).bind fun t156 => (if t154 = t156 then (fuseelaw04_CrcFinds.j0 k a2 t146 ((t146.length : Int) != (wrap64 ((y143.length : Int) + 4)))) else (fuseelaw04_CrcFinds.j0 k a2 t146 true))))) else (fuseelaw04_CrcFinds.j0 k a2 t146 true)) else (fuseelaw04_CrcFinds.j0 k a2 t146 true))) = some r := H
    have A9 := qS A90
    clear A90
    replace H := Option.bind_eq_some_iff.mp H
    obtain ⟨⟨t149, t150⟩, A100, H⟩ := H
    replace H : (if t150.isNone = true then (if (strOfNums t149).toList = (strOfNums y143).toList then ((crc_Sum.f k y143).bind fun t154 => ((crc_More.f k 0 l0).bind fun t155 => ((crc_More.f k t155 l1).bind fun t156 => (if t154 = t156 then (fuseelaw04_CrcFinds.j0 k a2 t146 ((t146.length : Int) != (wrap64 ((y143.length : Int) + 4)))) else (fuseelaw04_CrcFinds.j0 k a2 t146 true))))) else (fuseelaw04_CrcFinds.j0 k a2 t146 true)) else (fuseelaw04_CrcFinds.j0 k a2 t146 true)) = some r := H
    have A10 := qS A100
    clear A100
    have HC11 := qS H
    clear H
    go_enter Tryd.func7, Tryd.ntmps7
    go_upto_region 7 with (first | ((with_reducible refine gate_builtin (b := .append) (xs := #[.tmp 21, .tmp 22]) rfl ?_); (try (refine gate_guard (by rfl) ?_; dsimp only)); at_builtin; refine Kd.R_append_rows (Kd.int .u8) (w0 := w) w.heap.size rfl (.tmp 21) (.tmp 22) 54 5 (.int .u8 0) 1 rfl Tryd.underlying54 info5 rfl (by decide) (by omega) (.slice none 0 0) ([] : List Int) l0 _ _ _ (fun _ => True) (fun _ => False) rfl rfl ?aO ?aR (fun _ _ h => h) (fun _ h => h.elim) ?aF ?aB ?aS ?aL ?_; (case aR => repeat (first | exact HR0.out | (with_reducible refine Kd.C_alloc ?_ _) | (with_reducible refine Kd.C_drewN ?_ _) | (with_reducible refine Kd.C_drew ?_))); (case aB => exact (by repeat (first | (with_reducible first | exact HB.out | apply qpA | apply qpN | apply qp1) | exact HB.out))); (case aF => exact (fun _ _ => trivial)); (case aO => exact ((Kd.R_nil _ _ _ _ (fun _ => True)))); (case aS => exact (below_size (by repeat (first | (with_reducible first | exact HB.out | apply qpA | apply qpN | apply qp1) | exact HB.out)))); (case aL => have := LMc7.out; omega); intro v141 w12 ho hb hg hat; rw [← Ny140.out] at ho; have n0_ := qS (hb); have n1_ := qS (ho); clear HB; have HB := n0_; have HO142 := n1_; clear n0_ n1_; clear ho hb hg hat) | ((with_reducible refine gate_builtin (b := .append) (xs := #[.tmp 23, .tmp 24]) rfl ?_); (try (refine gate_guard (by rfl) ?_; dsimp only)); at_builtin; refine Kd.R_append_rows (Kd.int .u8) (w0 := w) w.heap.size rfl (.tmp 23) (.tmp 24) 54 5 (.int .u8 0) 1 rfl Tryd.underlying54 info5 rfl (by decide) (by omega) v141 y140 l1 _ _ _ (fun _ => True) (fun _ => False) rfl rfl ?aO ?aR (fun _ _ h => h) (fun _ h => h.elim) ?aF ?aB ?aS ?aL ?_; (case aR => repeat (first | exact (Kd.C_below HR1.out HB.out) | (with_reducible refine Kd.C_alloc ?_ _) | (with_reducible refine Kd.C_drewN ?_ _) | (with_reducible refine Kd.C_drew ?_))); (case aB => exact (by repeat (first | (with_reducible first | exact HB.out | apply qpA | apply qpN | apply qp1) | exact HB.out))); (case aF => exact (fun _ _ => trivial)); (case aO => exact (by (with_reducible repeat (first | apply Kd.R_alloc | apply Kd.R_drewN | apply Kd.R_drew)); exact HO142.out)); (case aS => exact (below_size (by repeat (first | (with_reducible first | exact HB.out | apply qpA | apply qpN | apply qp1) | exact HB.out)))); (case aL => have := LMc8.out; omega); intro v144 w13 ho hb hg hat; rw [← Ny143.out] at ho; have n0_ := qS (hb); have n1_ := qS (ho); clear HB; clear HO142; have HB := n0_; have HO145 := n1_; clear n0_ n1_; clear ho hb hg hat; obtain ⟨Ao14, co14, eo14⟩ := Kd.R_slice HO145.out; subst eo14) | ((with_reducible refine gate_callee (f := 31) rfl ?_); refine goesL_ (some 27) rfl rfl Tryd.func31 (by kernel_rfl) rfl #[.slice Ao14 y143.length co14] rfl (by (try simp only [List.map_toArray, List.map_cons, List.map_nil]); first | done | rfl | (simp only [*]; done) | (simp only [List.length_drop, List.length_take]; rfl) | (simp only [Act.eval, Array.getD_eq_getD_getElem?, Option.getD_some, *])) ?_; (with_reducible refine (crc_Sealed.calls k (fun k_ => some k_ = (.slice Ao14 y143.length co14 : Value).ownBlock) _ _ y143 t146 _ ?side1 A9.out).mono ?_); (case side1 => exact Kd.R_V (Kd.R_tight rfl (HO145.out))); rintro e w15 ⟨v147, rfl, ho0, hb⟩; refine ⟨_, rfl, ?_⟩; have n0_ := qS (Kd.R_elder' (by (with_reducible repeat (first | apply Kd.R_alloc | apply Kd.R_drewN | apply Kd.R_drew)); exact HO145.out) (Kd.R_base ho0) hb); have n1_ := qS (Kd.R_lower (Kd.R_new' (Kd.R_mono (ok' := fun k_ => True) ho0 (fun _ hk_ => trivial)) (Kd.R_lt (by (with_reducible repeat (first | apply Kd.R_alloc | apply Kd.R_drewN | apply Kd.R_drew)); exact HO145.out))) (below_size (by repeat (first | (with_reducible first | exact HB.out | apply qpA | apply qpN | apply qp1) | exact HB.out)))); have n2_ := qS (below_step (by repeat (first | (with_reducible first | exact HB.out | apply qpA | apply qpN | apply qp1) | exact HB.out)) hb); clear HO145; clear HB; have HO145 := n0_; have HO148 := n1_; have HB := n2_; clear n0_ n1_ n2_; (try clear hb); (try clear hb2); (try clear hk); (try clear hi); (try clear ho0); obtain ⟨Ao16, co16, eo16⟩ := Kd.R_slice HO148.out; subst eo16) | ((with_reducible refine gate_callee (f := 26) rfl ?_); refine goesL_ (some 30) rfl rfl Tryd.func26 (by kernel_rfl) rfl #[.slice Ao16 t146.length co16] rfl (by (try simp only [List.map_toArray, List.map_cons, List.map_nil]); first | done | rfl | (simp only [*]; done) | (simp only [List.length_drop, List.length_take]; rfl) | (simp only [Act.eval, Array.getD_eq_getD_getElem?, Option.getD_some, *])) ?_; (with_reducible refine (crc_Opened.calls k _ _ t146 t149 t150 _ ?side1 ?side2 A10.out).mono ?_); (case side1 => repeat (first | exact (Kd.R_reads' HO148.out).2.2 | (with_reducible refine Kd.C_alloc ?_ _) | (with_reducible refine Kd.C_drewN ?_ _) | (with_reducible refine Kd.C_drew ?_))); (case side2 => exact (Kd.R_reads' HO148.out).2.1); rintro e w17 ⟨v151, rfl, ho0, hb⟩; refine ⟨_, rfl, ?_⟩; have n0_ := qS (Kd.R_elder' (by (with_reducible repeat (first | apply Kd.R_alloc | apply Kd.R_drewN | apply Kd.R_drew)); exact HO145.out) (Kd.R_base ho0) hb); have n1_ := qS (Kd.R_elder' (by (with_reducible repeat (first | apply Kd.R_alloc | apply Kd.R_drewN | apply Kd.R_drew)); exact HO148.out) (Kd.R_base ho0) hb); have n2_ := qS (Kd.R_lower (Kd.R_new' (Kd.R_new' ho0 (Kd.R_lt (by (with_reducible repeat (first | apply Kd.R_alloc | apply Kd.R_drewN | apply Kd.R_drew)); exact HO145.out))) (Kd.R_lt (by (with_reducible repeat (first | apply Kd.R_alloc | apply Kd.R_drewN | apply Kd.R_drew)); exact HO148.out))) (below_size (by repeat (first | (with_reducible first | exact HB.out | apply qpA | apply qpN | apply qp1) | exact HB.out)))); have n3_ := qS (below_step (by repeat (first | (with_reducible first | exact HB.out | apply qpA | apply qpN | apply qp1) | exact HB.out)) hb); clear HO145; clear HO148; clear HB; have HO145 := n0_; have HO148 := n1_; have HO152 := n2_; have HB := n3_; clear n0_ n1_ n2_ n3_; (try clear hb); (try clear hb2); (try clear hk); (try clear hi); (try clear ho0); (try simp only [errW_none, errW_some])))
    (try simp only [Act.put, List.setIfInBounds_toArray, List.set_cons_zero, List.set_cons_succ])
    go_cut [58] (fun v58 wc => ∃ (kq : Nat) (x58_10 : Bool), v58 = .bool x58_10 ∧ Aside0 (fuseelaw04_CrcFinds.j0 kq a2 t146 x58_10 = some r) ∧ Aside0 (kq ≤ k) ∧ Aside0 (Kd.R (Kd.int .u8) 5 wc w.heap.size (fun _ => True) (.slice Ao16 t146.length co16) t146) ∧ Aside0 (Below w.heap.size w wc))
    case first =>
     have H := HC11.out
     clear HC11
     rcases t150 with _ | q153
     ·have H1 : (if (strOfNums t149).toList = (strOfNums y143).toList then ((crc_Sum.f k y143).bind fun t154 => ((crc_More.f k 0 l0).bind fun t155 => ((crc_More.f k t155 l1).bind fun t156 => (if t154 = t156 then (fuseelaw04_CrcFinds.j0 k a2 t146 ((t146.length : Int) != (wrap64 ((y143.length : Int) + 4)))) else (fuseelaw04_CrcFinds.j0 k a2 t146 true))))) else (fuseelaw04_CrcFinds.j0 k a2 t146 true)) = some r := by rw [if_pos (show (none : Option Int).isNone = true by rfl)] at H; exact H
      clear H
      have H := H1
      clear H1
      try simp only [errW_none, errW_some]
      by_cases c18 : (strOfNums t149).toList = (strOfNums y143).toList
      ·rw [if_pos c18] at H
       have c18b0 : ((strOfNums t149).toList == (strOfNums y143).toList) = true := beq_iff_eq.mpr c18
       have c18b1 : ((strOfNums t149).toList != (strOfNums y143).toList) = false := bne_eq_false_iff_eq.mpr c18
       clear c18
       (first | rw [c18b0] | (simp only [i64_w, i32_w]; rw [c18b0]) | skip)
       replace H := Option.bind_eq_some_iff.mp H
       obtain ⟨t154, A190, H⟩ := H
       replace H : ((crc_More.f k 0 l0).bind fun t155 => ((crc_More.f k t155 l1).bind fun t156 => (if t154 = t156 then (fuseelaw04_CrcFinds.j0 k a2 t146 ((t146.length : Int) != (wrap64 ((y143.length : Int) + 4)))) else (fuseelaw04_CrcFinds.j0 k a2 t146 true)))) = some r := H
       have A19 := qS A190
       clear A190
       replace H := Option.bind_eq_some_iff.mp H
       obtain ⟨t155, A200, H⟩ := H
       replace H : ((crc_More.f k t155 l1).bind fun t156 => (if t154 = t156 then (fuseelaw04_CrcFinds.j0 k a2 t146 ((t146.length : Int) != (wrap64 ((y143.length : Int) + 4)))) else (fuseelaw04_CrcFinds.j0 k a2 t146 true))) = some r := H
       have A20 := qS A200
       clear A200
       replace H := Option.bind_eq_some_iff.mp H
       obtain ⟨t156, A210, H⟩ := H
       replace H : (if t154 = t156 then (fuseelaw04_CrcFinds.j0 k a2 t146 ((t146.length : Int) != (wrap64 ((y143.length : Int) + 4)))) else (fuseelaw04_CrcFinds.j0 k a2 t146 true)) = some r := H
       have A21 := qS A210
       clear A210
       by_cases c22 : t154 = t156
       ·rw [if_pos c22] at H
        have c22b0 : (t154 == t156) = true := beq_iff_eq.mpr c22
        have c22b1 : (t154 != t156) = false := bne_eq_false_iff_eq.mpr c22
        clear c22
        as_aux_lemma =>
         have H' := qS H
         clear H
         have hcv23 := own_string (P := Tryd.prog) Tryd.underlying54 Tryd.underlying5 Tryd.underlying9 (Kd.own_of_R HO152.out)
         have hcv24 := own_string (P := Tryd.prog) Tryd.underlying54 Tryd.underlying5 Tryd.underlying9 (Kd.own_of_R HO145.out)
         go_wp2_with (first | (go_at_call 28; (with_reducible refine (crc_Sum.calls k _ _ y143 t154 _ ?side1 ?side2 A19.out).mono ?_); (case side1 => repeat (first | exact (Kd.R_reads' HO145.out).2.2 | (with_reducible refine Kd.C_alloc ?_ _) | (with_reducible refine Kd.C_drewN ?_ _) | (with_reducible refine Kd.C_drew ?_))); (case side2 => exact (Kd.R_reads' HO145.out).2.1); rintro e w' ⟨rfl, ⟨nd, rfl⟩⟩) | (go_at_call 30; (with_reducible refine (crc_More.calls k 0 _ _ l0 t155 _ ?side1 ?side2 A20.out).mono ?_); (case side1 => repeat (first | exact (Kd.C_below HR0.out (by repeat (first | (with_reducible first | exact HB.out | apply qpA | apply qpN | apply qp1) | exact HB.out))) | (with_reducible refine Kd.C_alloc ?_ _) | (with_reducible refine Kd.C_drewN ?_ _) | (with_reducible refine Kd.C_drew ?_))); (case side2 => exact HC0.out); rintro e w' ⟨rfl, ⟨nd, rfl⟩⟩) | (go_at_call 30; (with_reducible refine (crc_More.calls k t155 _ _ l1 t156 _ ?side1 ?side2 A21.out).mono ?_); (case side1 => repeat (first | exact (Kd.C_below HR1.out (by repeat (first | (with_reducible first | exact HB.out | apply qpA | apply qpN | apply qp1) | exact HB.out))) | (with_reducible refine Kd.C_alloc ?_ _) | (with_reducible refine Kd.C_drewN ?_ _) | (with_reducible refine Kd.C_drew ?_))); (case side2 => exact HC1.out); rintro e w' ⟨rfl, ⟨nd, rfl⟩⟩))
         go_meet
         case rel => exact ⟨_, (((t146.length : Int) != (wrap64 ((y143.length : Int) + 4)))), (by first | rfl | (simp; done) | (simp [*]; done)), H', ⟨by first | omega | exact Nat.le_refl _⟩, ⟨by (with_reducible repeat (first | apply Kd.R_alloc | apply Kd.R_drewN | apply Kd.R_drew)); exact Kd.R_mono HO148.out (fun _ hk => by first | exact trivial | exact True.intro)⟩, ⟨by repeat (first | (with_reducible first | exact HB.out | apply qpA | apply qpN | apply qp1) | exact HB.out)⟩⟩
       ·rw [if_neg c22] at H
        have c22b0 : (t154 == t156) = false := beq_eq_false_iff_ne.mpr c22
        have c22b1 : (t154 != t156) = true := bne_iff_ne.mpr c22
        as_aux_lemma =>
         have H' := qS H
         clear H
         have hcv25 := own_string (P := Tryd.prog) Tryd.underlying54 Tryd.underlying5 Tryd.underlying9 (Kd.own_of_R HO152.out)
         have hcv26 := own_string (P := Tryd.prog) Tryd.underlying54 Tryd.underlying5 Tryd.underlying9 (Kd.own_of_R HO145.out)
         go_wp2_with (first | (go_at_call 28; (with_reducible refine (crc_Sum.calls k _ _ y143 t154 _ ?side1 ?side2 A19.out).mono ?_); (case side1 => repeat (first | exact (Kd.R_reads' HO145.out).2.2 | (with_reducible refine Kd.C_alloc ?_ _) | (with_reducible refine Kd.C_drewN ?_ _) | (with_reducible refine Kd.C_drew ?_))); (case side2 => exact (Kd.R_reads' HO145.out).2.1); rintro e w' ⟨rfl, ⟨nd, rfl⟩⟩) | (go_at_call 30; (with_reducible refine (crc_More.calls k 0 _ _ l0 t155 _ ?side1 ?side2 A20.out).mono ?_); (case side1 => repeat (first | exact (Kd.C_below HR0.out (by repeat (first | (with_reducible first | exact HB.out | apply qpA | apply qpN | apply qp1) | exact HB.out))) | (with_reducible refine Kd.C_alloc ?_ _) | (with_reducible refine Kd.C_drewN ?_ _) | (with_reducible refine Kd.C_drew ?_))); (case side2 => exact HC0.out); rintro e w' ⟨rfl, ⟨nd, rfl⟩⟩) | (go_at_call 30; (with_reducible refine (crc_More.calls k t155 _ _ l1 t156 _ ?side1 ?side2 A21.out).mono ?_); (case side1 => repeat (first | exact (Kd.C_below HR1.out (by repeat (first | (with_reducible first | exact HB.out | apply qpA | apply qpN | apply qp1) | exact HB.out))) | (with_reducible refine Kd.C_alloc ?_ _) | (with_reducible refine Kd.C_drewN ?_ _) | (with_reducible refine Kd.C_drew ?_))); (case side2 => exact HC1.out); rintro e w' ⟨rfl, ⟨nd, rfl⟩⟩))
         go_meet
         case rel => exact ⟨_, (true), (by first | rfl | (simp; done) | (simp [*]; done)), H', ⟨by first | omega | exact Nat.le_refl _⟩, ⟨by (with_reducible repeat (first | apply Kd.R_alloc | apply Kd.R_drewN | apply Kd.R_drew)); exact Kd.R_mono HO148.out (fun _ hk => by first | exact trivial | exact True.intro)⟩, ⟨by repeat (first | (with_reducible first | exact HB.out | apply qpA | apply qpN | apply qp1) | exact HB.out)⟩⟩
      ·rw [if_neg c18] at H
       have c18b0 : ((strOfNums t149).toList == (strOfNums y143).toList) = false := beq_eq_false_iff_ne.mpr c18
       have c18b1 : ((strOfNums t149).toList != (strOfNums y143).toList) = true := bne_iff_ne.mpr c18
       (first | rw [c18b0] | (simp only [i64_w, i32_w]; rw [c18b0]) | skip)
       as_aux_lemma =>
        have H' := qS H
        clear H
        have hcv27 := own_string (P := Tryd.prog) Tryd.underlying54 Tryd.underlying5 Tryd.underlying9 (Kd.own_of_R HO152.out)
        have hcv28 := own_string (P := Tryd.prog) Tryd.underlying54 Tryd.underlying5 Tryd.underlying9 (Kd.own_of_R HO145.out)
        go_wp2
        go_meet
        case rel => exact ⟨_, (true), (by first | rfl | (simp; done) | (simp [*]; done)), H', ⟨by first | omega | exact Nat.le_refl _⟩, ⟨by (with_reducible repeat (first | apply Kd.R_alloc | apply Kd.R_drewN | apply Kd.R_drew)); exact Kd.R_mono HO148.out (fun _ hk => by first | exact trivial | exact True.intro)⟩, ⟨by repeat (first | (with_reducible first | exact HB.out | apply qpA | apply qpN | apply qp1) | exact HB.out)⟩⟩
     ·have H1 : (fuseelaw04_CrcFinds.j0 k a2 t146 true) = some r := by rw [if_neg (show ¬ (some q153).isNone = true by simp)] at H; exact H
      clear H
      have H := H1
      clear H1
      try simp only [errW_none, errW_some]
      as_aux_lemma =>
       have H' := qS H
       clear H
       go_wp2
       go_meet
       case rel => exact ⟨_, (true), (by first | rfl | (simp; done) | (simp [*]; done)), H', ⟨by first | omega | exact Nat.le_refl _⟩, ⟨by (with_reducible repeat (first | apply Kd.R_alloc | apply Kd.R_drewN | apply Kd.R_drew)); exact Kd.R_mono HO148.out (fun _ hk => by first | exact trivial | exact True.intro)⟩, ⟨by repeat (first | (with_reducible first | exact HB.out | apply qpA | apply qpN | apply qp1) | exact HB.out)⟩⟩
    case rest =>
     clear HC11
     try clear c1
     try clear q1
     try clear c2
     try clear p2
     try clear hcv2
     try clear c3
     try clear c4
     try clear c4b0
     try clear p6
     try clear c7
     try clear c8
     try clear q15
     try clear c18
     try clear c18b0
     try clear c18b1
     try clear c22
     try clear c22b0
     try clear c22b1
     try clear hcv23
     try clear hcv24
     try clear c25
     try clear hcv25
     try clear c26
     try clear hcv26
     try clear hcv27
     try clear hcv28
     try clear q153
     obtain ⟨kq, x58_10, rfl, HA, HJ10, HO_8, HB⟩ := hcut
     cases kq with
     | zero => exact absurd HA.out (by simp [fuseelaw04_CrcFinds.j0])
     | succ kj10 =>
      have H := HA.out
      clear HA
      simp only [fuseelaw04_CrcFinds.j0] at H
      by_cases c29 : x58_10 = true
      ·subst c29
       have H1 : (none) = some r := by rw [if_pos rfl] at H; exact H
       clear H
       have H := H1
       clear H1
       exact absurd H (by simp)
      ·replace c29 := Bool.eq_false_iff.mpr c29
       subst c29
       have H1 : (if (IntKind.u64.wrap (wrap64 (8 * (t146.length : Int)))) = 0 then (none) else (if 0 ≤ (wrap64 (Int.tdiv (wrap64 (Int.tmod (IntKind.u64.wrap (a2)) (IntKind.u64.wrap (wrap64 (8 * (t146.length : Int)))))) 8)) then (if (wrap64 (Int.tdiv (wrap64 (Int.tmod (IntKind.u64.wrap (a2)) (IntKind.u64.wrap (wrap64 (8 * (t146.length : Int)))))) 8)) < (t146.length : Int) then (if 0 ≤ (IntKind.u64.wrap (Int.tmod (wrap64 (Int.tmod (IntKind.u64.wrap (a2)) (IntKind.u64.wrap (wrap64 (8 * (t146.length : Int)))))) 8)) then ((crc_Opened.f kj10 (t146.set ((wrap64 (Int.tdiv (wrap64 (Int.tmod (IntKind.u64.wrap (a2)) (IntKind.u64.wrap (wrap64 (8 * (t146.length : Int)))))) 8)) : Int).toNat (Go.bits .xor .u8 (rd t146 (wrap64 (Int.tdiv (wrap64 (Int.tmod (IntKind.u64.wrap (a2)) (IntKind.u64.wrap (wrap64 (8 * (t146.length : Int)))))) 8))) (shl .u8 1 (IntKind.u64.wrap (Int.tmod (wrap64 (Int.tmod (IntKind.u64.wrap (a2)) (IntKind.u64.wrap (wrap64 (8 * (t146.length : Int)))))) 8)))))).bind fun bt159 => ((fuseelaw04_num.f bt159.2).bind fun t163 => (if t163 = 4 then ((fuseelaw04_sure.f).bind fun t164 => (some t164)) else (none)))) else (none)) else (none)) else (none))) = some r := by rw [if_neg (show ¬ (false = true) by decide)] at H; exact H
       clear H
       have H := H1
       clear H1
       by_cases c30 : (IntKind.u64.wrap (wrap64 (8 * (t146.length : Int)))) = 0
       ·rw [if_pos c30] at H
        exact absurd H (by simp)
       ·rw [if_neg c30] at H
        have c30b0 : ((IntKind.u64.wrap (wrap64 (8 * (t146.length : Int)))) == 0) = false := beq_eq_false_iff_ne.mpr c30
        have c30b1 : ((IntKind.u64.wrap (wrap64 (8 * (t146.length : Int)))) != 0) = true := bne_iff_ne.mpr c30
        obtain ⟨ji31, hji31⟩ : ∃ j_ : Int, (wrap64 (Int.tdiv (wrap64 (Int.tmod (IntKind.u64.wrap (a2)) (IntKind.u64.wrap (wrap64 (8 * (t146.length : Int)))))) 8)) = j_ := ⟨_, rfl⟩
        replace H : (if 0 ≤ (ji31) then (if (ji31) < (t146.length : Int) then (if 0 ≤ (IntKind.u64.wrap (Int.tmod (wrap64 (Int.tmod (IntKind.u64.wrap (a2)) (IntKind.u64.wrap (wrap64 (8 * (t146.length : Int)))))) 8)) then ((crc_Opened.f kj10 (t146.set ((ji31) : Int).toNat (Go.bits .xor .u8 (rd t146 (ji31)) (shl .u8 1 (IntKind.u64.wrap (Int.tmod (wrap64 (Int.tmod (IntKind.u64.wrap (a2)) (IntKind.u64.wrap (wrap64 (8 * (t146.length : Int)))))) 8)))))).bind fun bt159 => ((fuseelaw04_num.f bt159.2).bind fun t163 => (if t163 = 4 then ((fuseelaw04_sure.f).bind fun t164 => (some t164)) else (none)))) else (none)) else (none)) else (none)) = some r := by first | (rw [hji31] at H; exact H) | (simp only [hji31] at H ⊢; exact H)
        have hji31w : (IntKind.i64.wrap (Int.tdiv (wrap64 (Int.tmod (IntKind.u64.wrap (a2)) (IntKind.u64.wrap (wrap64 (8 * (t146.length : Int)))))) 8)) = ji31 := (i64_w _).trans hji31
        by_cases c32 : 0 ≤ (ji31)
        ·rw [if_pos c32] at H
         have c32b0 : decide (0 ≤ (ji31)) = true := decide_eq_true c32
         clear c32
         by_cases c33 : (ji31) < (t146.length : Int)
         ·rw [if_pos c33] at H
          have c33b0 : decide ((ji31) < (t146.length : Int)) = true := decide_eq_true c33
          clear c33
          obtain ⟨ji34, hji34⟩ : ∃ j_ : Int, (IntKind.u64.wrap (Int.tmod (wrap64 (Int.tmod (IntKind.u64.wrap (a2)) (IntKind.u64.wrap (wrap64 (8 * (t146.length : Int)))))) 8)) = j_ := ⟨_, rfl⟩
          replace H : (if 0 ≤ (ji34) then ((crc_Opened.f kj10 (t146.set ((ji31) : Int).toNat (Go.bits .xor .u8 (rd t146 (ji31)) (shl .u8 1 (ji34))))).bind fun bt159 => ((fuseelaw04_num.f bt159.2).bind fun t163 => (if t163 = 4 then ((fuseelaw04_sure.f).bind fun t164 => (some t164)) else (none)))) else (none)) = some r := by first | (rw [hji34] at H; exact H) | (simp only [hji34] at H ⊢; exact H)
          by_cases c35 : 0 ≤ (ji34)
          ·rw [if_pos c35] at H
           have c35b0 := eq_true c35
           have c35b1 : decide (0 ≤ (ji34)) = true := decide_eq_true c35
           clear c35
           obtain ⟨ji36, hji36⟩ : ∃ j_ : Int, (shl .u8 1 (ji34)) = j_ := ⟨_, rfl⟩
           replace H : ((crc_Opened.f kj10 (t146.set ((ji31) : Int).toNat (Go.bits .xor .u8 (rd t146 (ji31)) (ji36)))).bind fun bt159 => ((fuseelaw04_num.f bt159.2).bind fun t163 => (if t163 = 4 then ((fuseelaw04_sure.f).bind fun t164 => (some t164)) else (none)))) = some r := by first | (rw [hji36] at H; exact H) | (simp only [hji36] at H ⊢; exact H)
           have hji36_ : (IntKind.u8.wrap (1 * 2 ^ min (ji34).toNat 8)) = ji36 := hji36
           have hji36z : (ji34) ≤ 8 → (IntKind.u8.wrap (1 * 2 ^ (ji34).toNat)) = ji36 := shl_small hji36
           have hji36u : (IntKind.u8.wrap (2 ^ min (ji34).toNat 8)) = ji36 := by have h_ := hji36_; rw [Int.one_mul] at h_; exact h_
           have hji36v : (ji34) ≤ 8 → (IntKind.u8.wrap (2 ^ (ji34).toNat)) = ji36 := fun hle_ => by have h_ := hji36z hle_; rw [Int.one_mul] at h_; exact h_
           obtain ⟨y158, hy158⟩ : ∃ y_ : List Int, y_ = (t146.set ((ji31) : Int).toNat (Go.bits .xor .u8 (rd t146 (ji31)) (ji36))) := ⟨_, rfl⟩
           replace H : ((crc_Opened.f kj10 y158).bind fun bt159 => ((fuseelaw04_num.f bt159.2).bind fun t163 => (if t163 = 4 then ((fuseelaw04_sure.f).bind fun t164 => (some t164)) else (none)))) = some r := by first | (rw [hy158]; with_reducible exact H) | (have H2_ := (Option.bind_some _ _).symm.trans H; rw [hy158]; with_reducible exact H2_) | (have H2_ := (Option.bind_some _ _).symm.trans H; with_reducible exact H2_) | with_reducible exact H | (rw [hy158]; exact H) | exact H
           have Ny158 := qS hy158
           clear hy158
           replace H := Option.bind_eq_some_iff.mp H
           obtain ⟨⟨t159, t160⟩, A380, H⟩ := H
           replace H : ((fuseelaw04_num.f t160).bind fun t163 => (if t163 = 4 then ((fuseelaw04_sure.f).bind fun t164 => (some t164)) else (none))) = some r := H
           have A38 := qS A380
           clear A380
           replace H := Option.bind_eq_some_iff.mp H
           obtain ⟨t163, A390, H⟩ := H
           replace H : (if t163 = 4 then ((fuseelaw04_sure.f).bind fun t164 => (some t164)) else (none)) = some r := H
           have A39 := qS A390
           clear A390
           by_cases c40 : t163 = 4
           ·rw [if_pos c40] at H
            have c40b0 : (t163 == 4) = true := beq_iff_eq.mpr c40
            have c40b1 : (t163 != 4) = false := bne_eq_false_iff_eq.mpr c40
            clear c40
            replace H := Option.bind_eq_some_iff.mp H
            obtain ⟨t164, A410, H⟩ := H
            replace H : (some t164) = some r := H
            have A41 := qS A410
            clear A410
            as_aux_lemma =>
             obtain rfl := Option.some.inj H
             have p157 : 0 ≤ ((ji31) : Int) := of_decide_eq_true (by first | (with_reducible assumption) | assumption)
             have q157 : (ji31) < (t146.length : Int) := of_decide_eq_true (by first | (with_reducible assumption) | assumption)
             obtain ⟨ad157, e157, hx157_0⟩ := Kd.at_int (Kd.R_reads' HO_8.out).2.2 (ji31) p157 q157
             cases e157
             replace p157 := eq_true p157
             replace q157 := eq_true q157
             have p37 : 0 ≤ ((ji31) : Int) := of_decide_eq_true (by first | (with_reducible assumption) | assumption)
             have q37 : ((ji31) : Int) < ((t146.length : Int) : Int) := of_decide_eq_true (by first | (with_reducible assumption) | assumption)
             obtain ⟨go37, co37, eo37, gb37, gl37, cl37, HG37⟩ := Kd.R_form HO_8.out (by omega)
             (first | cases eo37 | (injection eo37 with ea_ en_ ec_; (first | subst ea_ | (injection ea_ with ea_; subst ea_)); subst ec_; clear en_))
             have GB37 := qS gb37
             have GG37 := qS HG37
             clear gb37 gl37 HG37
             (first | simp only [add_plain] at hx157_0 | skip)
             obtain ⟨hx37_0, hf37_0⟩ := Kd.R_celln 0 HO_8.out ((ji31) : Int) p37 q37
             replace p37 := eq_true p37
             replace q37 := eq_true q37
             have HP42 := Kd.R_putg HO_8.out ((ji31) : Int) (Go.bits .xor .u8 (rd t146 (ji31)) (ji36))
             go_wp2_with (first | ((with_reducible refine gate_store (t := 5) (p := 80) rfl ?_); refine store_event (t := 5) (p := 80) (v := ?vo_w43) (w1 := (wc.setCell ⟨go37, ((ji31) : Int).toNat, none⟩ (.int .u8 (Go.bits .xor .u8 (rd t146 (ji31)) (ji36))))) ?hg ?ho ?hn ?hr ?_; (case ho => rfl); (case hg => rfl); (case hn => rfl); (case hr => first | (go_simp; done) | (go_simp; rfl)); intro w43 hw; have hg : wc.grownBy w43 (some go37) := (by rw [hw]; exact HP42.2); have hp_ : Kd.R (Kd.int .u8) 5 w43 w.heap.size (fun _ => True) (.slice (some ⟨go37, 0, none⟩) t146.length co16) y158 := (by rw [hw, Ny158.out]; exact HP42.1); clear HP42; have n0_ := qS (hp_); have n1_ := qS ((by rw [hw]; exact qpS (HB.out) GB37.out : Below w.heap.size w w43)); clear HO_8; clear HB; have HO_8 := n0_; have HB := n1_; clear n0_ n1_; clear hg hw hp_) | ((with_reducible refine gate_callee (f := 26) rfl ?_); refine goesL_ (some 83) rfl rfl Tryd.func26 (by kernel_rfl) rfl #[.slice (some ⟨go37, 0, none⟩) y158.length co16] rfl (by (try simp only [List.map_toArray, List.map_cons, List.map_nil]); first | done | (rw [show y158.length = t146.length from (Kd.R_reads' HO_8.out).1.symm] <;> rfl) | rfl | (simp only [*]; done) | (simp only [List.length_drop, List.length_take]; rfl) | (simp only [Act.eval, Array.getD_eq_getD_getElem?, Option.getD_some, *])) ?_; (with_reducible refine (crc_Opened.calls kj10 _ _ y158 t159 t160 _ ?side1 ?side2 A38.out).mono ?_); (case side1 => repeat (first | exact (Kd.R_reads' HO_8.out).2.2 | (with_reducible refine Kd.C_alloc ?_ _) | (with_reducible refine Kd.C_drewN ?_ _) | (with_reducible refine Kd.C_drew ?_))); (case side2 => rw [show y158.length = t146.length from (Kd.R_reads' HO_8.out).1.symm]; exact (Kd.R_reads' HO_8.out).2.1); rintro e w44 ⟨v161, rfl, ho0, hb⟩; refine ⟨_, rfl, ?_⟩; have n0_ := qS (Kd.R_elder' (by (with_reducible repeat (first | apply Kd.R_alloc | apply Kd.R_drewN | apply Kd.R_drew)); exact HO_8.out) (Kd.R_base ho0) hb); have n1_ := qS (Kd.R_lower (Kd.R_new' ho0 (Kd.R_lt (by (with_reducible repeat (first | apply Kd.R_alloc | apply Kd.R_drewN | apply Kd.R_drew)); exact HO_8.out))) (below_size (by repeat (first | (with_reducible first | exact HB.out | apply qpA | apply qpN | apply qp1) | exact HB.out)))); have n2_ := qS (below_step (by repeat (first | (with_reducible first | exact HB.out | apply qpA | apply qpN | apply qp1) | exact HB.out)) hb); clear HO_8; clear HB; have HO_8 := n0_; have HO162 := n1_; have HB := n2_; clear n0_ n1_ n2_; (try clear hb); (try clear hb2); (try clear hk); (try clear hi); (try clear ho0); (try simp only [errW_none, errW_some]); have CA39 := fun W (hgW : HG W) => fuseelaw04_num.calls t160 t163 W hgW A39.out; try simp only [errW_none, errW_some] at CA39) | (go_at_call 33; (with_reducible refine (CA39 _ (HG.below hgL (Nat.le_refl _) (by repeat (first | (with_reducible first | exact HB.out | apply qpA | apply qpN | apply qp1) | exact HB.out)))).mono ?_); rintro e w45 ⟨rfl, hb⟩; have n0_ := qS (Kd.R_below (by (with_reducible repeat (first | apply Kd.R_alloc | apply Kd.R_drewN | apply Kd.R_drew)); exact HO_8.out) hb); have n1_ := qS (Kd.R_below (by (with_reducible repeat (first | apply Kd.R_alloc | apply Kd.R_drewN | apply Kd.R_drew)); exact HO162.out) hb); have n2_ := qS (below_step (by repeat (first | (with_reducible first | exact HB.out | apply qpA | apply qpN | apply qp1) | exact HB.out)) hb); clear HO_8; clear HO162; clear HB; have HO_8 := n0_; have HO162 := n1_; have HB := n2_; clear n0_ n1_ n2_; (try clear hb); (try clear hb2); (try clear hk); (try clear hi)) | (go_at_call 25; (with_reducible refine (fuseelaw04_sure.calls  t164 _ ?side1 A41.out).mono ?_); (case side1 => exact HG.below hgL (Nat.le_refl _) (by repeat (first | (with_reducible first | exact HB.out | apply qpA | apply qpN | apply qp1) | exact HB.out))); rintro e w46 ⟨rfl, hb⟩; have n0_ := qS (Kd.R_below (by (with_reducible repeat (first | apply Kd.R_alloc | apply Kd.R_drewN | apply Kd.R_drew)); exact HO_8.out) hb); have n1_ := qS (Kd.R_below (by (with_reducible repeat (first | apply Kd.R_alloc | apply Kd.R_drewN | apply Kd.R_drew)); exact HO162.out) hb); have n2_ := qS (below_step (by repeat (first | (with_reducible first | exact HB.out | apply qpA | apply qpN | apply qp1) | exact HB.out)) hb); clear HO_8; clear HO162; clear HB; have HO_8 := n0_; have HO162 := n1_; have HB := n2_; clear n0_ n1_ n2_; (try clear hb); (try clear hb2); (try clear hk); (try clear hi)))
             go_ret
             exact ⟨by first | rfl | (simp [errW_none, errW_some] <;> rfl) | (simp only [← hji31, ← hji34, ← hji36]; first | rfl | (simp [errW_none, errW_some] <;> rfl)) | (simp [*, errW_none, errW_some] <;> rfl), by repeat (first | (with_reducible first | exact HB.out | apply qpA | apply qpN | apply qp1) | exact HB.out)⟩
           ·rw [if_neg c40] at H
            exact absurd H (by simp)
          ·rw [if_neg c35] at H
           exact absurd H (by simp)
         ·rw [if_neg c33] at H
          exact absurd H (by simp)
        ·rw [if_neg c32] at H
         exact absurd H (by simp)
   ·rw [if_neg c8] at H
    exact absurd H (by simp)
  ·rw [if_neg c7] at H
   exact absurd H (by simp)

end Go.Proofs.YtfipgpfmlkfkfaaDoor.MCrcFinds
