import Derived.Test.YtnlaiiophongmaaDoorMCbx
import Derived.Test.YtnlaiiophongmaaDoorMCbx0
import Derived.Lib.SlBytesConst
import Derived.Deep.AppendLies
import Derived.ArgAppend
namespace Go.Proofs.YtnlaiiophongmaaDoor.MCb
open Go.RowKit Go.Proofs.YtnlaiiophongmaaDoorW.PrintWords Go.Proofs.YtnlaiiophongmaaDoorW.PrintLast Go.Proofs.YtnlaiiophongmaaDoorW.PrintMore
attribute [local go_sem] max2_int min2_int max_two min_two max_three min_three max_four min_four   -- for this text's walks alone
set_option linter.unusedVariables false
set_option linter.unusedSimpArgs false
theorem name_l {P : Program} {ops : Array Oper} {rest : List Oper} {Q : Exit → Act → World → Prop} {a : Act} {w : World} (h : ∀ W, W = w → wpList P ops Q rest a W) : wpList P ops Q rest a w := h w rfl
theorem blk_two (w : World) (n : Nat) (o1 o2 : Obj) : (((w.drewN n).alloc o1).alloc o2).heap[w.heap.size]? = some o1 ∧ (((w.drewN n).alloc o1).alloc o2).heap[w.heap.size + 1]? = some o2 ∧ w.heap.size ≤ (((w.drewN n).alloc o1).alloc o2).heap.size := by
  have e0 : (w.drewN n).heap.size = w.heap.size := by simp
  have e1 : ((w.drewN n).alloc o1).heap.size = w.heap.size + 1 := by simp
  refine ⟨?_, ?_, by simp; omega⟩
  · rw [heap_alloc_old _ _ (by rw [e1]; omega), ← e0]; exact heap_alloc_new _ _
  · rw [← e1]; exact heap_alloc_new _ _
def blob_Seal.f (k : Nat) (a0 : Int) (l1 : List Int) : Option (List Int × Option Int) := (blob_kinded.f a0).bind fun t156 => (if t156 = true then (if (l1.length : Int) > 1024 then (some (([] : List Int), some 5)) else ((some (([116, 109] : List Int) : List Int)).bind fun y157 => (if y157.length < 140737488355328 then ((fields_U16.f k (y157 ++ [a0]) (IntKind.u16.wrap ((l1.length : Int)))).bind fun t163 => ((slices_Concat_byte_byte.f k (([t163, l1] : List (List Int)))).bind fun t169 => ((crc_Sealed.f k t169).bind fun t172 => (some (t172, none))))) else (none)))) else (some (([] : List Int), some 1)))
theorem blob_Seal.mono : ∀ a0 a1 k, LeO (blob_Seal.f k a0 a1) (blob_Seal.f (k + 1) a0 a1) := by
 intro a0 a1 k
 unfold blob_Seal.f
 repeat' first
   | (with_reducible exact crc_Sealed.mono _ _)
   | (with_reducible exact fields_U16.mono _ _ _)
   | (with_reducible exact slices_Concat_byte_byte.mono _ _)
   | (with_reducible exact LeO.refl _)
   | (with_reducible exact LeO.none _)
   | (with_reducible refine LeO.ite ?_ ?_)
   | (with_reducible refine LeO.bind ?_ (fun _ => ?_))
   | exact crc_Sealed.mono _ _
   | exact fields_U16.mono _ _ _
   | exact slices_Concat_byte_byte.mono _ _
   | exact LeO.none _
   | refine LeO.ite ?_ ?_
   | refine LeO.bind ?_ (fun _ => ?_)
set_option maxHeartbeats 8000000 in
set_option maxRecDepth 100000 in
theorem blob_Seal.calls (k : Nat) (a0 : Int) (P1_ : Nat → Prop) (A1 : Option Addr) (c1 : Nat) (l1 : List Int) (r1 : List Int) (r2 : Option Int) (w : World) (hs1 : Kd.V (Kd.int .u8) 5 w w.heap.size (fun k_ => P1_ k_) (.slice A1 l1.length c1) l1) (h : blob_Seal.f k a0 l1 = some (r1, r2)) :
  Calls Tryd.prog 93 #[.int .u8 a0, .slice A1 l1.length c1] w fun e w' => ∃ v0_ : Value, e = .returned (.tuple #[v0_, errW r2]) ∧ Kd.R (Kd.int .u8) 5 w' w.heap.size (fun k_ => (w.heap.size ≤ k_)) v0_ r1 ∧ Below w.heap.size w w' := by
 have hu28 := Tryd.underlying28
 have hu128 := Tryd.underlying128
 have HO1 := qS (show Kd.V (Kd.int .u8) 5 w w.heap.size (fun k_ => (P1_ k_ ∨ w.heap.size ≤ k_)) (.slice A1 l1.length c1) l1 from Kd.V_mono hs1 (fun k_ hk => .inl hk))
 have HB := qS (Below.refl w.heap.size w)
 have H : ((blob_kinded.f a0).bind fun t156 => (if t156 = true then (if (l1.length : Int) > 1024 then (some (([] : List Int), some 5)) else ((some (([116, 109] : List Int) : List Int)).bind fun y157 => (if y157.length < 140737488355328 then ((fields_U16.f k (y157 ++ [a0]) (IntKind.u16.wrap ((l1.length : Int)))).bind fun t163 => ((slices_Concat_byte_byte.f k (([t163, l1] : List (List Int)))).bind fun t169 => ((crc_Sealed.f k t169).bind fun t172 => (some (t172, none))))) else (none)))) else (some (([] : List Int), some 1)))) = some (r1, r2) := h
 clear h
 replace H := Option.bind_eq_some_iff.mp H
 obtain ⟨t156, A30, H⟩ := H
 replace H : (if t156 = true then (if (l1.length : Int) > 1024 then (some (([] : List Int), some 5)) else ((some (([116, 109] : List Int) : List Int)).bind fun y157 => (if y157.length < 140737488355328 then ((fields_U16.f k (y157 ++ [a0]) (IntKind.u16.wrap ((l1.length : Int)))).bind fun t163 => ((slices_Concat_byte_byte.f k (([t163, l1] : List (List Int)))).bind fun t169 => ((crc_Sealed.f k t169).bind fun t172 => (some (t172, none))))) else (none)))) else (some (([] : List Int), some 1))) = some (r1, r2) := H
 have A3 := qS A30
 clear A30
 by_cases c4 : t156 = true
 ·subst c4
  have H1 : (if (l1.length : Int) > 1024 then (some (([] : List Int), some 5)) else ((some (([116, 109] : List Int) : List Int)).bind fun y157 => (if y157.length < 140737488355328 then ((fields_U16.f k (y157 ++ [a0]) (IntKind.u16.wrap ((l1.length : Int)))).bind fun t163 => ((slices_Concat_byte_byte.f k (([t163, l1] : List (List Int)))).bind fun t169 => ((crc_Sealed.f k t169).bind fun t172 => (some (t172, none))))) else (none)))) = some (r1, r2) := by rw [if_pos rfl] at H; exact H
  clear H
  have H := H1
  clear H1
  by_cases c5 : (l1.length : Int) > 1024
  ·rw [if_pos c5] at H
   have c5b0 : decide (1024 < (l1.length : Int)) = true := decide_eq_true c5
   have c5b1 : decide (1024 < l1.length) = true := decide_eq_true (by omega)
   clear c5
   as_aux_lemma =>
    simp only [Option.some.injEq, Prod.mk.injEq] at H
    obtain ⟨rfl, rfl⟩ := H
    go_enter Tryd.func93, Tryd.ntmps93
    go_wp2_with (first | ((with_reducible refine gate_callee (f := 118) rfl ?_); refine goesL_ (some 9) rfl rfl Tryd.func118 (by kernel_rfl) rfl #[.int .u8 a0] rfl (by (try simp only [List.map_toArray, List.map_cons, List.map_nil]); first | done | rfl | (simp only [*]; done) | (simp only [List.length_drop, List.length_take]; rfl) | (simp only [Act.eval, Array.getD_eq_getD_getElem?, Option.getD_some, *])) ?_; (with_reducible refine (blob_kinded.calls a0 true _ A3.out).mono ?_); rintro e w' ⟨rfl, ⟨nd, rfl⟩⟩; refine ⟨_, rfl, ?_⟩))
    go_ret2
    exact ⟨_, by first | rfl | (simp [errW_none, errW_some] <;> rfl) | (simp [*, errW_none, errW_some] <;> rfl), by first | exact Kd.R_nil _ _ _ _ _ | exact Kd.N_nil _ _ _ _ _ | exact Kd.V_nil _ _ _ _ _ | exact Kd.Q_nil _ _ _ _ _ | exact Kd.S_nil _ _ _ _ _, by repeat (first | (with_reducible first | exact HB.out | apply qpA | apply qpN | apply qp1) | exact HB.out)⟩
  ·rw [if_neg c5] at H
   have c5b0 : decide (1024 < (l1.length : Int)) = false := decide_eq_false c5
   have c5b1 : decide (1024 < l1.length) = false := decide_eq_false (by omega)
   clear c5
   obtain ⟨y157, hy157⟩ : ∃ y_ : List Int, y_ = (([116, 109] : List Int)) := ⟨_, rfl⟩
   replace H : (if y157.length < 140737488355328 then ((fields_U16.f k (y157 ++ [a0]) (IntKind.u16.wrap ((l1.length : Int)))).bind fun t163 => ((slices_Concat_byte_byte.f k (([t163, l1] : List (List Int)))).bind fun t169 => ((crc_Sealed.f k t169).bind fun t172 => (some (t172, none))))) else (none)) = some (r1, r2) := by first | (rw [hy157]; with_reducible exact H) | (have H2_ := (Option.bind_some _ _).symm.trans H; rw [hy157]; with_reducible exact H2_) | (have H2_ := (Option.bind_some _ _).symm.trans H; with_reducible exact H2_) | with_reducible exact H | (rw [hy157]; exact H) | exact H
   have Ny157 := qS hy157
   clear hy157
   by_cases c6 : y157.length < 140737488355328
   ·rw [if_pos c6] at H
    have LMc6 := qS c6
    clear c6
    obtain ⟨y160, hy160⟩ : ∃ y_ : List Int, y_ = (y157 ++ [a0]) := ⟨_, rfl⟩
    replace H : ((fields_U16.f k y160 (IntKind.u16.wrap ((l1.length : Int)))).bind fun t163 => ((slices_Concat_byte_byte.f k (([t163, l1] : List (List Int)))).bind fun t169 => ((crc_Sealed.f k t169).bind fun t172 => (some (t172, none))))) = some (r1, r2) := by first | (rw [hy160]; with_reducible exact H) | (have H2_ := (Option.bind_some _ _).symm.trans H; rw [hy160]; with_reducible exact H2_) | (have H2_ := (Option.bind_some _ _).symm.trans H; with_reducible exact H2_) | with_reducible exact H | (rw [hy160]; exact H) | exact H
    have Ny160 := qS hy160
    clear hy160
    replace H := Option.bind_eq_some_iff.mp H
    obtain ⟨t163, A70, H⟩ := H
    replace H : ((slices_Concat_byte_byte.f k (([t163, l1] : List (List Int)))).bind fun t169 => ((crc_Sealed.f k t169).bind fun t172 => (some (t172, none)))) = some (r1, r2) := H
    have A7 := qS A70
    clear A70
    obtain ⟨y166, hy166⟩ : ∃ y_ : List (List Int), y_ = (([t163, l1] : List (List Int))) := ⟨_, rfl⟩
    replace H : ((slices_Concat_byte_byte.f k y166).bind fun t169 => ((crc_Sealed.f k t169).bind fun t172 => (some (t172, none)))) = some (r1, r2) := by first | (rw [hy166]; with_reducible exact H) | (have H2_ := (Option.bind_some _ _).symm.trans H; rw [hy166]; with_reducible exact H2_) | (have H2_ := (Option.bind_some _ _).symm.trans H; with_reducible exact H2_) | with_reducible exact H | (rw [hy166]; exact H) | exact H
    have Ny166 := qS hy166
    clear hy166
    replace H := Option.bind_eq_some_iff.mp H
    obtain ⟨t169, A80, H⟩ := H
    replace H : ((crc_Sealed.f k t169).bind fun t172 => (some (t172, none))) = some (r1, r2) := H
    have A8 := qS A80
    clear A80
    replace H := Option.bind_eq_some_iff.mp H
    obtain ⟨t172, A90, H⟩ := H
    replace H : (some (t172, none)) = some (r1, r2) := H
    have A9 := qS A90
    clear A90
    as_aux_lemma =>
     simp only [Option.some.injEq, Prod.mk.injEq] at H
     obtain ⟨rfl, rfl⟩ := H
     go_enter Tryd.func93, Tryd.ntmps93
     have kc : ∀ nd, (convert 47 47 (.slice (some ⟨w.heap.size, 0, none⟩) 2 2)).run Tryd.prog ((w.drewN nd).alloc (.cells #[.int .u8 116, .int .u8 109] 5)) = .ok (.slice (some ⟨w.heap.size, 0, none⟩) 2 2) ((w.drewN nd).alloc (.cells #[.int .u8 116, .int .u8 109] 5 (2, 3))) := fun nd => by
      have := Lib.run_convert_bytes_const (P := Tryd.prog) (w.drewN nd) 47 5 #[.int .u8 116, .int .u8 109] 2 2 Tryd.underlying47 Tryd.underlying5
      simpa using this
     have HI : Aside0 (∃ i, Tryd.prog.info? 5 = some i ∧ i.zero = some (.int .u8 0) ∧ i.size = 1 ∧ i.bytes = 1) := ⟨by obtain ⟨i0, h0, h1, h2, h3⟩ := info_parts info5; exact ⟨i0, h0, h1, h2, h3⟩⟩
     go_wp2_with (first | ((with_reducible refine gate_callee (f := 118) rfl ?_); refine goesL_ (some 9) rfl rfl Tryd.func118 (by kernel_rfl) rfl #[.int .u8 a0] rfl (by (try simp only [List.map_toArray, List.map_cons, List.map_nil]); first | done | rfl | (simp only [*]; done) | (simp only [List.length_drop, List.length_take]; rfl) | (simp only [Act.eval, Array.getD_eq_getD_getElem?, Option.getD_some, *])) ?_; (with_reducible refine (blob_kinded.calls a0 true _ A3.out).mono ?_); rintro e w' ⟨rfl, ⟨nd, rfl⟩⟩; refine ⟨_, rfl, ?_⟩) | ((with_reducible refine gate_builtin (b := .append) (xs := #[.tmp 18, .tmp 20]) rfl ?_); at_builtin; refine name_l (fun WW hWW => ?_); have F0 : WW.heap[w.heap.size]? = some (.cells #[.int .u8 116, .int .u8 109] 5 (2, 3)) ∧ WW.heap[w.heap.size + 1]? = some (.cells #[.int .u8 a0] 5 (0, 0)) ∧ w.heap.size ≤ WW.heap.size := (by rw [hWW]; exact blk_two w _ _ _); have n0a := qS (show Kd.V (Kd.int .u8) 5 WW w.heap.size (fun k_ => (P1_ k_ ∨ w.heap.size ≤ k_)) (.slice A1 l1.length c1) l1 from (by rw [hWW]; (with_reducible repeat (first | apply Kd.V_alloc | apply Kd.V_drewN | apply Kd.V_drew)); exact HO1.out)); have n1a := qS (show Below w.heap.size w WW from (by rw [hWW]; repeat (first | (with_reducible first | exact HB.out | apply qpA | apply qpN | apply qp1) | exact HB.out))); clear hWW HO1 HB; have HO1 := n0a; have HB := n1a; clear n0a n1a; refine wpList_append_grows _ rfl (.tmp 18) (.tmp 20) 47 rfl 5 HI.out.choose (.int .u8 0) 1 1 Tryd.underlying47 HI.out.choose_spec.1 HI.out.choose_spec.2.1 HI.out.choose_spec.2.2.1 HI.out.choose_spec.2.2.2 rfl (by omega) (some ⟨w.heap.size, 0, none⟩) 2 2 [.int .u8 116, .int .u8 109] rfl (by simp) rfl (fun b hb => by cases hb; exact World.news_of_block F0.1) ⟨w.heap.size + 1, 0, none⟩ 1 1 [.int .u8 a0] rfl rfl (World.news_of_block F0.2.1) (by intro u hu; simp at hu; subst hu; rfl) (by omega) (by decide) (by decide) ?_; intro v161 w12 hrow hgr; have hbw : Below WW.heap.size WW w12 := (Below.refl _ WW).grown hgr (Nat.le_refl _) (by intro k hk; cases hk); have ho : Kd.R (Kd.int .u8) 5 w12 WW.heap.size (fun k_ => w.heap.size ≤ k_) v161 ([116, 109] ++ [a0]) := Kd.R_of_own (enc := Value.int .u8) (h1 := fun _ => rfl) (xs := [116, 109, a0]) hrow (fun k hk => Nat.le_trans F0.2.2 (own_base hrow k hk)); rw [← Ny157.out, ← Ny160.out] at ho; have n0_ := qS (Kd.V_elder' HO1.out (Kd.R_base ho) hbw); have n1_ := qS (HB.out.trans (hbw.mono F0.2.2)); have n2_ := qS (Kd.R_lower ho F0.2.2); clear HO1; clear HB; have HO1 := n0_; have HB := n1_; have HO162 := n2_; clear n0_ n1_ n2_; clear ho hbw hrow hgr F0; obtain ⟨Ao13, co13, eo13⟩ := Kd.R_slice HO162.out; subst eo13) | ((with_reducible refine gate_callee (f := 119) rfl ?_); refine goesL_ (some 25) rfl rfl Tryd.func119 (by kernel_rfl) rfl #[.slice Ao13 y160.length co13, .int .u16 (IntKind.u16.wrap ((l1.length : Int)))] rfl (by (try simp only [List.map_toArray, List.map_cons, List.map_nil]); first | done | rfl | (simp only [*]; done) | (simp only [List.length_drop, List.length_take]; rfl) | (simp only [Act.eval, Array.getD_eq_getD_getElem?, Option.getD_some, *])) ?_; (with_reducible refine (fields_U16.calls k _ _ y160 (IntKind.u16.wrap ((l1.length : Int))) t163 _ ?side1 ?side2 A7.out).mono ?_); (case side1 => repeat (first | exact (Kd.R_reads' HO162.out).2.2 | (with_reducible refine Kd.C_alloc ?_ _) | (with_reducible refine Kd.C_drewN ?_ _) | (with_reducible refine Kd.C_drew ?_))); (case side2 => exact (Kd.R_reads' HO162.out).2.1); rintro e w14 ⟨v164, rfl, ho0, hb⟩; refine ⟨_, rfl, ?_⟩; have n0_ := qS (Kd.V_elder' (by (with_reducible repeat (first | apply Kd.V_alloc | apply Kd.V_drewN | apply Kd.V_drew)); exact HO1.out) (Kd.R_base ho0) hb); have n1_ := qS (Kd.R_elder' (by (with_reducible repeat (first | apply Kd.R_alloc | apply Kd.R_drewN | apply Kd.R_drew)); exact HO162.out) (Kd.R_base ho0) hb); have n2_ := qS (Kd.R_lower (Kd.R_new' (Kd.R_newM (M := fun k_ => (w.heap.size ≤ k_)) ho0 (below_size (by repeat (first | (with_reducible first | exact HB.out | apply qpA | apply qpN | apply qp1) | exact HB.out))) (fun k_ h_ => h_)) (Kd.R_lt (by (with_reducible repeat (first | apply Kd.R_alloc | apply Kd.R_drewN | apply Kd.R_drew)); exact HO162.out))) (below_size (by repeat (first | (with_reducible first | exact HB.out | apply qpA | apply qpN | apply qp1) | exact HB.out)))); have n3_ := qS (below_step (by repeat (first | (with_reducible first | exact HB.out | apply qpA | apply qpN | apply qp1) | exact HB.out)) hb); clear HO1; clear HO162; clear HB; have HO1 := n0_; have HO162 := n1_; have HO165 := n2_; have HB := n3_; clear n0_ n1_ n2_ n3_; (try clear hb); (try clear hb2); (try clear hk); (try clear hi); (try clear ho0); obtain ⟨Ao15, co15, eo15⟩ := Kd.R_slice HO165.out; subst eo15) | ((with_reducible refine gate_dst (N := 28) rfl ?_); refine Kd.N_lit (Kd.slice 5 (Kd.int .u8)) _ 47 ?hg (N' := 28) ?hd (xs := ([t163, l1] : List (List Int))) (inner := [.slice Ao15 t163.length co15, .slice A1 l1.length c1]) (ok := (fun k_ => (P1_ k_ ∨ w.heap.size ≤ k_) ∧ some k_ ≠ (.slice Ao13 y160.length co13 : Value).ownBlock)) (okp := (fun k_ => (P1_ k_ ∨ w.heap.size ≤ k_) ∧ some k_ ≠ (.slice Ao13 y160.length co13 : Value).ownBlock)) ?hr ?hp (fun _ hk => hk) ((show ∀ k_, w14.heap.size ≤ k_ → (fun k_ => (P1_ k_ ∨ w.heap.size ≤ k_) ∧ some k_ ≠ (.slice Ao13 y160.length co13 : Value).ownBlock) k_ from fun k_ hk => ⟨(.inr (Nat.le_trans (below_size (by repeat (first | (with_reducible first | exact HB.out | apply qpA | apply qpN | apply qp1) | exact HB.out))) hk)), Kd.fresh' (Kd.R_lt (by (with_reducible repeat (first | apply Kd.R_alloc | apply Kd.R_drewN | apply Kd.R_drew)); exact HO162.out)) k_ hk⟩) _ (Nat.le_refl _)) (Below.refl _ _) (Nat.le_refl _) (by simp) ?_; (case hd => rfl); (case hg => rfl); (case hr => first | (go_simp; done) | (go_simp; rfl)); (case hp => exact (Reps.one (show Kd.FK (Kd.slice 5 (Kd.int .u8)) _ _ t163 [.slice Ao15 t163.length co15] from (Kd.FK_slice_mk (Kd.R_reads' (Kd.R_mono (ok' := (fun k_ => (P1_ k_ ∨ w.heap.size ≤ k_) ∧ some k_ ≠ (.slice Ao13 y160.length co13 : Value).ownBlock)) (HO165.out) (fun k_ hk => ⟨(.inr (hk.1.1)), hk.2⟩))).2.1 (Kd.R_F (Kd.R_mono (ok' := (fun k_ => (P1_ k_ ∨ w.heap.size ≤ k_) ∧ some k_ ≠ (.slice Ao13 y160.length co13 : Value).ownBlock)) (HO165.out) (fun k_ hk => ⟨(.inr (hk.1.1)), hk.2⟩))))) (Reps.one (show Kd.FK (Kd.slice 5 (Kd.int .u8)) _ _ l1 [.slice A1 l1.length c1] from (Kd.FK_slice_mk (Kd.V_reads' (Kd.V_mono (ok' := (fun k_ => (P1_ k_ ∨ w.heap.size ≤ k_) ∧ some k_ ≠ (.slice Ao13 y160.length co13 : Value).ownBlock)) (HO1.out) (fun k_ hk => ⟨hk.1.1, hk.1.2⟩))).2.1 (Kd.V_F (Kd.V_mono (ok' := (fun k_ => (P1_ k_ ∨ w.heap.size ≤ k_) ∧ some k_ ≠ (.slice Ao13 y160.length co13 : Value).ownBlock)) (HO1.out) (fun k_ hk => ⟨hk.1.1, hk.1.2⟩))))) (Reps.none _ _)))); intro v167 w16 ho17 hb hg_ hnew_; clear hg_ hnew_; (first | rw [← Ny166.out] at ho17 | (simp only [Int.reduceToNat] at ho17; rw [← Ny166.out] at ho17)); have n0_ := qS (Kd.V_elder' (by (with_reducible repeat (first | apply Kd.V_alloc | apply Kd.V_drewN | apply Kd.V_drew)); exact HO1.out) (Kd.N_base ho17) hb); have n1_ := qS (Kd.R_below (by (with_reducible repeat (first | apply Kd.R_alloc | apply Kd.R_drewN | apply Kd.R_drew)); exact HO162.out) hb); have n2_ := qS (Kd.N_lower ho17 (below_size (by repeat (first | (with_reducible first | exact HB.out | apply qpA | apply qpN | apply qp1) | exact HB.out)))); have n3_ := qS (below_step (by repeat (first | (with_reducible first | exact HB.out | apply qpA | apply qpN | apply qp1) | exact HB.out)) hb); clear HO1; clear HO162; clear HB; clear HO165; have HO1 := n0_; have HO162 := n1_; have HO168 := n2_; have HB := n3_; clear n0_ n1_ n2_ n3_; clear hb ho17; obtain ⟨Ao18, co18, eo18⟩ := Kd.N_slice HO168.out; subst eo18) | ((with_reducible refine gate_callee (f := 121) rfl ?_); refine goesL_ (some 29) rfl rfl Tryd.func121 (by kernel_rfl) rfl #[.slice Ao18 y166.length co18] rfl (by (try simp only [List.map_toArray, List.map_cons, List.map_nil]); first | done | rfl | (simp only [*]; done) | (simp only [List.length_drop, List.length_take]; rfl) | (simp only [Act.eval, Array.getD_eq_getD_getElem?, Option.getD_some, *])) ?_; (with_reducible refine (slices_Concat_byte_byte.calls k _ _ y166 t169 _ ?side1 ?side2 A8.out).mono ?_); (case side1 => repeat (first | exact (Kd.N_reads' HO168.out).2.2 | (with_reducible refine Kd.C_alloc ?_ _) | (with_reducible refine Kd.C_drewN ?_ _) | (with_reducible refine Kd.C_drew ?_))); (case side2 => exact (Kd.N_reads' HO168.out).2.1); rintro e w19 ⟨v170, rfl, ho0, hb⟩; refine ⟨_, rfl, ?_⟩; have n0_ := qS (Kd.V_elder' (by (with_reducible repeat (first | apply Kd.V_alloc | apply Kd.V_drewN | apply Kd.V_drew)); exact HO1.out) (Kd.R_base ho0) hb); have n1_ := qS (Kd.R_elder' (by (with_reducible repeat (first | apply Kd.R_alloc | apply Kd.R_drewN | apply Kd.R_drew)); exact HO162.out) (Kd.R_base ho0) hb); have n2_ := qS (Kd.N_elder' (by (with_reducible repeat (first | apply Kd.N_alloc | apply Kd.N_drewN | apply Kd.N_drew)); exact HO168.out) (Kd.R_base ho0) hb); have n3_ := qS (Kd.R_lower (Kd.R_new' (Kd.R_newM (M := fun k_ => (w.heap.size ≤ k_)) ho0 (below_size (by repeat (first | (with_reducible first | exact HB.out | apply qpA | apply qpN | apply qp1) | exact HB.out))) (fun k_ h_ => h_)) (Kd.R_lt (by (with_reducible repeat (first | apply Kd.R_alloc | apply Kd.R_drewN | apply Kd.R_drew)); exact HO162.out))) (below_size (by repeat (first | (with_reducible first | exact HB.out | apply qpA | apply qpN | apply qp1) | exact HB.out)))); have n4_ := qS (below_step (by repeat (first | (with_reducible first | exact HB.out | apply qpA | apply qpN | apply qp1) | exact HB.out)) hb); clear HO1; clear HO162; clear HO168; clear HB; have HO1 := n0_; have HO162 := n1_; have HO168 := n2_; have HO171 := n3_; have HB := n4_; clear n0_ n1_ n2_ n3_ n4_; (try clear hb); (try clear hb2); (try clear hk); (try clear hi); (try clear ho0); obtain ⟨Ao20, co20, eo20⟩ := Kd.R_slice HO171.out; subst eo20) | ((with_reducible refine gate_callee (f := 120) rfl ?_); refine goesL_ (some 30) rfl rfl Tryd.func120 (by kernel_rfl) rfl #[.slice Ao20 t169.length co20] rfl (by (try simp only [List.map_toArray, List.map_cons, List.map_nil]); first | done | rfl | (simp only [*]; done) | (simp only [List.length_drop, List.length_take]; rfl) | (simp only [Act.eval, Array.getD_eq_getD_getElem?, Option.getD_some, *])) ?_; (with_reducible refine (crc_Sealed.calls k (fun k_ => some k_ = (.slice Ao20 t169.length co20 : Value).ownBlock) _ _ t169 t172 _ ?side1 A9.out).mono ?_); (case side1 => exact Kd.R_V (Kd.R_tight rfl (Kd.R_apart' (HO171.out) (Kd.N_typed HO168.out) (by decide)))); rintro e w21 ⟨v173, rfl, ho0, hb⟩; refine ⟨_, rfl, ?_⟩; have n0_ := qS (Kd.V_elder' (by (with_reducible repeat (first | apply Kd.V_alloc | apply Kd.V_drewN | apply Kd.V_drew)); exact HO1.out) (Kd.R_base ho0) hb); have n1_ := qS (Kd.R_elder' (by (with_reducible repeat (first | apply Kd.R_alloc | apply Kd.R_drewN | apply Kd.R_drew)); exact HO162.out) (Kd.R_base ho0) hb); have n2_ := qS (Kd.N_elder' (by (with_reducible repeat (first | apply Kd.N_alloc | apply Kd.N_drewN | apply Kd.N_drew)); exact HO168.out) (Kd.R_base ho0) hb); have n3_ := qS (Kd.R_elder' (by (with_reducible repeat (first | apply Kd.R_alloc | apply Kd.R_drewN | apply Kd.R_drew)); exact HO171.out) (Kd.R_base ho0) hb); have n4_ := qS (Kd.R_lower (Kd.R_new' (Kd.R_new' (Kd.R_newM (M := fun k_ => (w.heap.size ≤ k_)) (Kd.R_mono (ok' := fun k_ => True) ho0 (fun _ hk_ => trivial)) (below_size (by repeat (first | (with_reducible first | exact HB.out | apply qpA | apply qpN | apply qp1) | exact HB.out))) (fun k_ h_ => h_)) (Kd.R_lt (by (with_reducible repeat (first | apply Kd.R_alloc | apply Kd.R_drewN | apply Kd.R_drew)); exact HO162.out))) (Kd.R_lt (by (with_reducible repeat (first | apply Kd.R_alloc | apply Kd.R_drewN | apply Kd.R_drew)); exact HO171.out))) (below_size (by repeat (first | (with_reducible first | exact HB.out | apply qpA | apply qpN | apply qp1) | exact HB.out)))); have n5_ := qS (below_step (by repeat (first | (with_reducible first | exact HB.out | apply qpA | apply qpN | apply qp1) | exact HB.out)) hb); clear HO1; clear HO162; clear HO168; clear HO171; clear HB; have HO1 := n0_; have HO162 := n1_; have HO168 := n2_; have HO171 := n3_; have HO174 := n4_; have HB := n5_; clear n0_ n1_ n2_ n3_ n4_ n5_; (try clear hb); (try clear hb2); (try clear hk); (try clear hi); (try clear ho0)))
     go_ret2
     exact ⟨_, by first | rfl | (simp [errW_none, errW_some] <;> rfl) | (simp [*, errW_none, errW_some] <;> rfl), by (with_reducible repeat (first | apply Kd.R_alloc | apply Kd.R_drewN | apply Kd.R_drew)); exact Kd.R_mono HO174.out (fun _ hk => by first | exact hk.1.1.1 | exact True.intro), by repeat (first | (with_reducible first | exact HB.out | apply qpA | apply qpN | apply qp1) | exact HB.out)⟩
   ·rw [if_neg c6] at H
    exact absurd H (by simp)
 ·replace c4 := Bool.eq_false_iff.mpr c4
  subst c4
  have H1 : (some (([] : List Int), some 1)) = some (r1, r2) := by rw [if_neg (show ¬ (false = true) by decide)] at H; exact H
  clear H
  have H := H1
  clear H1
  as_aux_lemma =>
   simp only [Option.some.injEq, Prod.mk.injEq] at H
   obtain ⟨rfl, rfl⟩ := H
   go_enter Tryd.func93, Tryd.ntmps93
   go_wp2_with (first | ((with_reducible refine gate_callee (f := 118) rfl ?_); refine goesL_ (some 9) rfl rfl Tryd.func118 (by kernel_rfl) rfl #[.int .u8 a0] rfl (by (try simp only [List.map_toArray, List.map_cons, List.map_nil]); first | done | rfl | (simp only [*]; done) | (simp only [List.length_drop, List.length_take]; rfl) | (simp only [Act.eval, Array.getD_eq_getD_getElem?, Option.getD_some, *])) ?_; (with_reducible refine (blob_kinded.calls a0 false _ A3.out).mono ?_); rintro e w' ⟨rfl, ⟨nd, rfl⟩⟩; refine ⟨_, rfl, ?_⟩))
   go_ret2
   exact ⟨_, by first | rfl | (simp [errW_none, errW_some] <;> rfl) | (simp [*, errW_none, errW_some] <;> rfl), by first | exact Kd.R_nil _ _ _ _ _ | exact Kd.N_nil _ _ _ _ _ | exact Kd.V_nil _ _ _ _ _ | exact Kd.Q_nil _ _ _ _ _ | exact Kd.S_nil _ _ _ _ _, by repeat (first | (with_reducible first | exact HB.out | apply qpA | apply qpN | apply qp1) | exact HB.out)⟩


end Go.Proofs.YtnlaiiophongmaaDoor.MCb
