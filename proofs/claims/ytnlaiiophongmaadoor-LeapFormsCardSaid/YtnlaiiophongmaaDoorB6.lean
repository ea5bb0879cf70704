/-
  Chapters 4 and 6: contracts; blob.Kind, blob.Open and the reference's Open walked.
-/
import Derived.Test.YtnlaiiophongmaaDoorB6P
import Derived.Test.YtnlaiiophongmaaDoorB6S
import Derived.Lib.SliceRun
import Derived.Deep.DeepCutAuto
import Derived.Deep.CutBlock
import Derived.LoopTactic
import Derived.Test.YtnlaiiophongmaaDoorWLast
import Derived.Test.YtnlaiiophongmaaDoorWMore
namespace Go.Proofs.YtnlaiiophongmaaDoor.MCb
open Go.RowKit Go.Proofs.YtnlaiiophongmaaDoorW.PrintWords Go.Proofs.YtnlaiiophongmaaDoorW.PrintLast Go.Proofs.YtnlaiiophongmaaDoorW.PrintMore
set_option linter.unusedVariables false
set_option linter.unusedSimpArgs false

set_option maxRecDepth 100000 in
theorem new_calls (A : Option Addr) (c : Nat) (l : List Int) (w : World) (hC : (Kd.int .u8).C w A l.length l) (hc : l.length ≤ c) (hL : l.length ≤ 140737488351232) :
    Calls Tryd.prog 97 #[.slice A l.length c] w fun e w' => ∃ g, e = .returned (.pointer (some ⟨g, 0, none⟩)) ∧ w.heap.size ≤ g ∧ Rdr w' g l false ∧ Below w.heap.size w w' := by
  have hclone : slices_Clone_byte_byte.f l = some l := by
    unfold slices_Clone_byte_byte.f
    simp only [Option.bind_some]
    rw [if_pos (by simp; omega)]; simp
  go_enter Tryd.func97, Tryd.ntmps97
  go_wp2_with (go_at_call 109; (with_reducible refine (slices_Clone_byte_byte.calls A c l l _ hC hc hclone).mono ?_); rintro e w2 ⟨v, rfl, hv, hb⟩; obtain ⟨A2, c2, rfl⟩ := Kd.R_slice hv)
  go_ret
  have hr := Kd.R_reads' hv
  have hm : c2 ≤ maxLen := by
    rcases (Kd.own_of_R hv).2 with ⟨h1, _⟩ | ⟨g, cap, cur, h1, _, _, _, h2, _⟩
    · injection h1 with _ _ h1; omega
    · injection h1 with _ _ h1; omega
  have hA : Below w2.heap.size w2 (w2.alloc (.cells #[.slice A2 l.length c2, .bool false] 195)) := (Below.refl _ w2).alloc (Nat.le_refl _) _
  refine ⟨w2.heap.size, rfl, hb.size, Rdr.of_C (heap_alloc_new w2 _) hr.2.1 hm hL (Kd.C_below hr.2.2 hA) (fun a e he => ?_), hb.trans (hA.mono hb.size)⟩
  have := Kd.R_lt hv a.block (by subst e; rfl)
  omega
set_option maxRecDepth 100000 in
theorem u16_calls (g : Nat) (l : List Int) (bad : Bool) (w : World) (h : Rdr w g l bad) :
    Calls Tryd.prog 136 #[.pointer (some ⟨g, 0, none⟩)] w fun e w' => e = .returned (.int .u16 (IntKind.u16.wrap (rdNum l bad 2))) ∧ Rdr w' g (rdLeft l bad 2) (rdBad l bad 2) ∧ But g w w' := by
  have hN : Calls Tryd.prog 125 #[.pointer (some ⟨g, 0, none⟩), .int .i64 2] w fun e w' => e = .returned (.int .u64 (rdNum l bad 2)) ∧ Rdr w' g (rdLeft l bad 2) (rdBad l bad 2) ∧ But g w w' := number_calls g 2 l bad w h
  go_enter Tryd.func136, Tryd.ntmps136
  go_wp2_with (go_at_call 125; (with_reducible refine hN.mono ?_); rintro e w2 ⟨rfl, hr, hb⟩)
  go_ret
  exact ⟨rfl, hr, hb⟩
/-- bytes that can be read there -/
structure Sl (w : World) (A : Option Addr) (n c : Nat) (l : List Int) : Prop where
  rd : (Kd.int .u8).C w A l.length l
  len : n = l.length
  cap : n ≤ c
theorem Sl.below {w w' : World} {A : Option Addr} {n c : Nat} {l : List Int} (h : Sl w A n c l) (hb : Below w.heap.size w w') : Sl w' A n c l := ⟨Kd.C_below h.rd hb, h.len, h.cap⟩
theorem Sl.lt {w : World} {A : Option Addr} {n c : Nat} {l : List Int} (h : Sl w A n c l) {a : Addr} (e : A = some a) (hp : 0 < n) : a.block < w.heap.size := by
  have hR := Kd.reads_of_C (enc := Value.int .u8) (d := (0 : Int)) (h1 := fun _ => rfl) h.rd
  obtain ⟨a', e', hc⟩ := hR.2.2 (by have := h.len; omega)
  obtain rfl := Option.some.inj (e.symm.trans e')
  have h0 := hc 0 (by have := h.len; omega)
  have := block_lt_of_cell h0
  rwa [add_block] at this
theorem Sl.of_R {w : World} {base : Nat} {ok : Nat → Prop} {v : Value} {l : List Int} {m : Nat} (h : Kd.R (Kd.int .u8) 5 w base ok v l) (hm : m = l.length) : ∃ A c, v = .slice A m c ∧ Sl w A m c l := by
  obtain ⟨A, c, rfl⟩ := Kd.R_slice h
  have hr := Kd.R_reads' h
  subst hm
  exact ⟨A, c, rfl, hr.2.2, rfl, hr.2.1⟩
theorem Sl.nil (w : World) : Sl w none 0 0 [] := ⟨⟨rfl, Nat.zero_le _, fun h => absurd h (by simp)⟩, rfl, Nat.le_refl _⟩
theorem conv_run {o : Oper} {a : Act} {w : World} {x : Operand} {A : Option Addr} {n c : Nat} {l : List Int} (ho : o.op = .convert 47 9 x) (hx : a.eval x = .slice A n c) (h : Sl w A n c l) : (execOp a.eval o).run Tryd.prog w = .ok (.value (.string (strOfNums l))) w := by
  have hcv := Kd.C_string (P := Tryd.prog) (A := A) (c := c) Tryd.underlying47 Tryd.underlying5 Tryd.underlying9 h.rd
  rw [← h.len] at hcv
  unfold execOp
  simp only [ho, hx, Sem.run_bind, hcv, Result.andThen_ok, Sem.run_pure]
theorem Sl.takeN {w : World} {A : Option Addr} {n c k : Nat} {l : List Int} (h : Sl w A n c l) (hk : k ≤ n) : Sl w A k c (l.take k) := by
  have hl := h.len
  have hC := Kd.C_take (m := k) h.rd (by omega)
  exact ⟨hC, by rw [List.length_take]; omega, by have := h.cap; omega⟩
theorem Sl.drop {w : World} {A : Option Addr} {n c k : Nat} {l : List Int} (h : Sl w A n c l) (hk : k ≤ n) : Sl w (if c = k then A else A.map (·.add (k * 1))) (n - k) (c - k) (l.drop k) := by
  have hl := h.len
  have hc := h.cap
  have hr := h.rd
  have hC := Kd.C_drop (m := k) hr (by omega) (show l.length ≤ c by omega)
  have hsz : (Kd.int .u8).sz = 1 := rfl
  rw [hsz] at hC
  exact ⟨hC, by rw [List.length_drop]; omega, by omega⟩
theorem new_sl {w : World} {A : Option Addr} {n c : Nat} {l : List Int} (h : Sl w A n c l) (hl : l.length ≤ 100000) :
    Calls Tryd.prog 97 #[.slice A n c] w fun e w' => ∃ g, e = .returned (.pointer (some ⟨g, 0, none⟩)) ∧ w.heap.size ≤ g ∧ Rdr w' g l false ∧ Below w.heap.size w w' := by
  obtain ⟨hC, hn, hc⟩ := h
  subst hn
  exact new_calls A c l w hC hc (by omega)
theorem but_below {g B : Nat} {w0 a b : World} (h : But g a b) (hB : Below B w0 a) (hg : B ≤ g) (hs : B ≤ a.heap.size) : Below B w0 b := ⟨h.os.trans hB.os, h.tape.trans hB.tape, h.output.trans hB.output, Nat.le_trans hB.size h.size, fun k hk => (h.block k (by omega) (by omega)).trans (hB.block k hk)⟩
theorem sealed_sl {w : World} {A : Option Addr} {n c : Nat} {l : List Int} (h : Sl w A n c l) (hl : ∀ x ∈ l, B8 x) (hn : n ≤ 1900) (m : Nat) (hm : m = n + 4) :
    Calls Tryd.prog 120 #[.slice A n c] w fun e w' => ∃ A' c', e = .returned (.slice A' m c') ∧ Sl w' A' m c' (l ++ le4 (mo 0 l)) ∧ Below w.heap.size w w' := by
  obtain ⟨hC, hn', hc⟩ := h
  subst hn'
  refine (crc_Sealed.calls 2000 (fun k => k < w.heap.size) A c l _ w (Kd.V_mk hc (Kd.C_F (Kd.heap_int .u8) hC)) (sealed_eq 2000 l hl (by omega) (by omega))).mono ?_
  rintro e w' ⟨v, rfl, hR, hb⟩
  obtain ⟨A', c', rfl, hS⟩ := Sl.of_R hR (m := m) (by rw [hm]; simp [le4])
  exact ⟨A', c', rfl, hS, hb⟩
theorem rsealed_sl {w : World} {A : Option Addr} {n c : Nat} {l : List Int} (h : Sl w A n c l) (hl : ∀ x ∈ l, B8 x) (hn : n ≤ 1900) (m : Nat) (hm : m = n + 4) :
    Calls Tryd.prog 122 #[.slice A n c] w fun e w' => ∃ A' c', e = .returned (.slice A' m c') ∧ Sl w' A' m c' (l ++ le4 (mo 0 l)) ∧ Below w.heap.size w w' := by
  obtain ⟨hC, hn', hc⟩ := h
  subst hn'
  refine (fuseeref04_Sealed.calls 20000 A c l _ w hC hc (rsealed_eq 20000 l hl (by omega) (by omega))).mono ?_
  rintro e w' ⟨v, rfl, hR, hb⟩
  obtain ⟨A', c', rfl, hS⟩ := Sl.of_R hR (m := m) (by rw [hm]; simp [le4])
  exact ⟨A', c', rfl, hS, hb⟩
theorem opened_sl {w : World} {A : Option Addr} {n c : Nat} {l : List Int} (h : Sl w A n c l) (hl : ∀ x ∈ l, B8 x) (hn : n ≤ 1900) (m : Nat) (hm : m = (opL l).length) :
    Calls Tryd.prog 124 #[.slice A n c] w fun e w' => ∃ A' c', e = .returned (.tuple #[.slice A' m c', errV (opE l)]) ∧ Sl w' A' m c' (opL l) ∧ Below w.heap.size w w' := by
  obtain ⟨hC, hn', hc⟩ := h
  subst hn'
  have ho : crc_Opened.f 2000 l = some (opL l, opE l) := by
    rw [opened_eq 2000 l hl (by omega) (by omega)]
    by_cases q : okO l
    · rw [if_pos (by exact q)]; unfold opL opE; rw [if_pos q, if_pos q]
    · rw [if_neg (by exact q)]; unfold opL opE; rw [if_neg q, if_neg q]
  refine (crc_Opened.calls 2000 A c l _ _ w hC hc ho).mono ?_
  rintro e w' ⟨v, rfl, hR, hb⟩
  obtain ⟨A', c', rfl, hS⟩ := Sl.of_R hR hm
  exact ⟨A', c', by cases opE l <;> rfl, hS, hb⟩
set_option maxRecDepth 100000 in
set_option maxHeartbeats 4000000 in
theorem ropened_sl {w : World} {A : Option Addr} {n c : Nat} {l : List Int} (h0 : Sl w A n c l) (hl : ∀ x ∈ l, B8 x) (hn : n ≤ 1900) (mm : Nat) (hmm : mm = (opL l).length) :
    Calls Tryd.prog 127 #[.slice A n c] w fun e w' => ∃ A' c', e = .returned (.tuple #[.slice A' mm c', .int .i64 (numE (opE l))]) ∧ Sl w' A' mm c' (opL l) ∧ Below w.heap.size w w' := by
  have hlen := h0.len
  by_cases h4 : n < 4
  · have hno : ¬ okO l := fun q => by have := q.1; omega
    have e1 : opL l = [] := if_neg hno
    have e2 : opE l = some 4 := if_neg hno
    rw [e1] at hmm ⊢
    rw [e2]
    simp only [List.length_nil] at hmm
    subst hmm
    have hq : decide ((n : Int) - 4 < 0) = true := decide_eq_true (by omega)
    clear h0 hl hlen h4 hno e1 e2
    go_enter Tryd.func127, Tryd.ntmps127
    go_wp2
    go_region
    go_wp2
    go_ret2
    exact ⟨none, 0, rfl, Sl.nil _, (Below.refl _ _).drew⟩
  · obtain ⟨m, hm⟩ : ∃ m, m = n - 4 := ⟨_, rfl⟩
    have hw : (n : Int) - 4 = (m : Int) := by omega
    have hw2 : wrap64 (m : Int) = (m : Int) := by unfold wrap64; omega
    have hm0 : (0 : Int) ≤ (m : Int) := by omega
    have hmn : (m : Int) ≤ (n : Int) := by omega
    have hlt : ¬ (m : Int) < 0 := by omega
    obtain ⟨i0, hi0, _, hsz, _⟩ := info_parts info5
    have cut := cut_to (P := Tryd.prog) 47 5 .i64 Tryd.underlying47 hi0 A n c (m : Int) hm0 hmn h0.cap
    simp only [Int.toNat_natCast] at cut
    obtain ⟨X, hX⟩ : ∃ X : List Int, X = l.take m ++ le4 (mo 0 (l.take m)) := ⟨_, rfl⟩
    obtain ⟨mX, hmX⟩ : ∃ mX : Nat, mX = m + 4 := ⟨_, rfl⟩
    have hlt8 : ∀ x ∈ l.take m, B8 x := fun x hx => hl x (List.mem_of_mem_take hx)
    have hSe : ∀ W, Sl W A n c l → Calls Tryd.prog 122 #[.slice A m c] W fun e w' => ∃ A' c', e = .returned (.slice A' mX c') ∧ Sl w' A' mX c' X ∧ Below W.heap.size W w' := fun W hW => by
      rw [hX]; exact rsealed_sl (hW.takeN (by omega)) hlt8 (by omega) mX hmX
    have hX8 : ∀ x ∈ X, B8 x := fun x hx => by
      rw [hX] at hx
      rcases List.mem_append.1 hx with q | q
      · exact hlt8 x q
      · exact le4_byte _ x q
    have hmm2 : Aside0 (m = l.length - 4) := ⟨by omega⟩
    have hno4 : Aside0 (4 ≤ l.length) := ⟨by omega⟩
    by_cases he : X = l
    · have hok : okO l := ⟨hno4.out, by rw [← hmm2.out, ← hX]; exact he⟩
      have e1 : opL l = l.take m := by rw [hmm2.out]; exact if_pos hok
      have e2 : opE l = none := if_pos hok
      have hmv : mm = m := by rw [hmm, e1, List.length_take]; omega
      rw [e1, e2, hmv]
      have hq : ((strOfNums X).toList == (strOfNums l).toList) = true := by rw [he]; exact beq_self_eq_true _
      have h := Aside0.mk h0
      have HE := Aside0.mk (show m ≤ n by omega)
      clear h0 hl hlen h4 hm hX hmX hlt8 hX8 he hok e1 e2 hmv hmm hi0 hsz hn
      go_enter Tryd.func127, Tryd.ntmps127
      go_upto_region 2 with (fail)
      refine start_ (n := 12) (S := fun w' => Below w.heap.size w w' ∧ Sl w' A n c l) (ds := []) #[false, false, false, false, false, false, false, false, false, false, false, false] (by kernel_rfl) rfl rfl ⟨(Below.refl _ _).drew, (h.out.below (Below.refl _ _).drew)⟩ (fun hHeld => ?_)
      refine pure_ (i := 0) (N := some 8) (v := ?_) (a' := ?_) #[true, false, false, false, false, false, false, false, false, false, false, false] rfl rfl (by kernel_rfl) (fun _ _ _ h => h) (Or.inl ⟨by rfl, ?_⟩) ?_ ?_
      rotate_left
      · intro w'
        go_simp
        with_reducible rfl
      rotate_left
      · simp only [Act.put, List.setIfInBounds_toArray, List.set_cons_zero, List.set_cons_succ, i64_w, i32_w]
        rfl
      refine pure_ (i := 1) (N := some 9) (v := ?_) (a' := ?_) #[true, true, false, false, false, false, false, false, false, false, false, false] rfl rfl (by kernel_rfl) (fun _ _ _ h => h) (Or.inl ⟨by rfl, ?_⟩) ?_ ?_
      rotate_left
      · intro w'
        go_simp
        with_reducible rfl
      rotate_left
      · simp only [Act.put, List.setIfInBounds_toArray, List.set_cons_zero, List.set_cons_succ, i64_w, i32_w]
        rfl
      refine pure_ (i := 2) (N := some 10) (v := ?_) (a' := ?_) #[true, true, true, false, false, false, false, false, false, false, false, false] rfl rfl (by kernel_rfl) (fun _ _ _ h => h) (Or.inl ⟨by rfl, ?_⟩) ?_ ?_
      rotate_left
      · intro w'
        go_simp
        with_reducible rfl
      rotate_left
      · simp only [Act.put, List.setIfInBounds_toArray, List.set_cons_zero, List.set_cons_succ, i64_w, i32_w]
        rfl
      refine pure_ (i := 3) (N := some 11) (v := ?_) (a' := ?_) #[true, true, true, true, false, false, false, false, false, false, false, false] rfl rfl (by kernel_rfl) (fun _ _ _ h => h) (Or.inl ⟨by rfl, ?_⟩) ?_ ?_
      rotate_left
      · intro w'
        go_simp
        with_reducible rfl
      rotate_left
      · simp only [Act.put, List.setIfInBounds_toArray, List.set_cons_zero, List.set_cons_succ, i64_w, i32_w]
        rfl
      refine pure_ (i := 4) (N := some 12) (v := ?_) (a' := ?_) #[true, true, true, true, true, false, false, false, false, false, false, false] rfl rfl (by kernel_rfl) (fun _ _ _ h => h) (Or.inl ⟨by rfl, ?_⟩) ?_ ?_
      rotate_left
      · intro w'
        go_simp
        with_reducible rfl
      rotate_left
      · simp only [Act.put, List.setIfInBounds_toArray, List.set_cons_zero, List.set_cons_succ, i64_w, i32_w]
        rfl
      refine pure_ (i := 5) (N := some 13) (v := ?_) (a' := ?_) #[true, true, true, true, true, true, false, false, false, false, false, false] rfl rfl (by kernel_rfl) (fun _ _ _ h => h) (Or.inl ⟨by rfl, ?_⟩) ?_ ?_
      rotate_left
      · intro w'
        go_simp
        with_reducible rfl
      rotate_left
      · simp only [Act.put, List.setIfInBounds_toArray, List.set_cons_zero, List.set_cons_succ, i64_w, i32_w]
        rfl
      refine pure_ (i := 8) (N := some 16) (v := ?_) (a' := ?_) #[true, true, true, true, true, true, false, false, true, false, false, false] rfl rfl (by kernel_rfl) (fun _ _ _ h => h) (Or.inl ⟨by rfl, ?_⟩) ?_ ?_
      rotate_left
      · intro w'
        go_simp
        with_reducible rfl
      rotate_left
      · simp only [Act.put, List.setIfInBounds_toArray, List.set_cons_zero, List.set_cons_succ, i64_w, i32_w]
        rfl
      refine join_ (σ := Option Addr × Nat) 2 #[true, true, true, true, true, true, true, true, true, true, false, false] (fun s_ => [(14, .slice s_.1 mX s_.2), (15, .string (strOfNums (X))), (17, .string (strOfNums (l)))]) (fun s_ w' => Below w.heap.size w w' ∧ Sl w' A n c l) ?_ ?_
      rotate_left
      · intro hCont
        refine two_ (i := 6) (j := 9) (Ni := some 14) (Nj := some 17) #[true, true, true, true, true, true, true, false, true, false, false, false] #[true, true, true, true, true, true, false, false, true, true, false, false] rfl rfl rfl rfl (by kernel_rfl) (by decide) (by decide) (fun K hK => ?_) (fun K hK => ?_)
        · skip
          refine goes_ Tryd.func122 (by kernel_rfl) rfl #[.slice A m c] (by rfl) rfl rfl (by simp only [List.map_toArray, List.map_cons, List.map_nil]; rfl) ?_
          with_reducible refine (hSe _ hHeld.2).mono ?_
          rintro e w6 ⟨A6, c6, rfl, h6, hb6⟩
          refine ⟨_, rfl, ?_⟩
          refine hK.out _ _ ⟨(hHeld.1.trans (hb6.mono hHeld.1.size)), (hHeld.2.below hb6)⟩ (fun hHeld => ?_)
          clear hK K
          refine norm_ (a' := ?_) ?_ ?_
          rotate_left
          · show Act.put _ (some 14) _ = _
            simp only [Act.put, List.setIfInBounds_toArray, List.set_cons_zero, List.set_cons_succ, i64_w, i32_w]
            rfl
          refine two_ (i := 7) (j := 9) (Ni := some 15) (Nj := some 17) #[true, true, true, true, true, true, true, true, true, false, false, false] #[true, true, true, true, true, true, true, false, true, true, false, false] rfl rfl rfl rfl (by kernel_rfl) (by decide) (by decide) (fun K hK => ?_) (fun K hK => ?_)
          · skip
            refine value_ (v := .string (strOfNums (X))) (by rfl) rfl (conv_run (x := Operand.tmp 14) ?_ ?_ h6) ?_
            · rfl
            · rfl
            refine hK.out _ _ ⟨hHeld.1, hHeld.2⟩ (fun hHeld => ?_)
            clear hK K
            refine norm_ (a' := ?_) ?_ ?_
            rotate_left
            · show Act.put _ (some 15) _ = _
              simp only [Act.put, List.setIfInBounds_toArray, List.set_cons_zero, List.set_cons_succ, i64_w, i32_w]
              rfl
            refine one_ (i := 9) (N := some 17) #[true, true, true, true, true, true, true, true, true, true, false, false] rfl rfl (by kernel_rfl) (by decide) (fun K hK => ?_)
            refine value_ (v := .string (strOfNums (l))) (by rfl) rfl (conv_run (x := Operand.tmp 16) ?_ ?_ hHeld.2) ?_
            · rfl
            · rfl
            refine hK.out _ _ ⟨hHeld.1, hHeld.2⟩ (fun hHeld => ?_)
            clear hK K
            refine norm_ (a' := ?_) ?_ ?_
            rotate_left
            · show Act.put _ (some 17) _ = _
              simp only [Act.put, List.setIfInBounds_toArray, List.set_cons_zero, List.set_cons_succ, i64_w, i32_w]
              rfl
            exact norm_ (by simp only [putAll, Act.put, List.setIfInBounds_toArray, List.set_cons_zero, List.set_cons_succ]) (hCont (A6, c6) _ hHeld)
          · skip
            refine value_ (v := .string (strOfNums (l))) (by rfl) rfl (conv_run (x := Operand.tmp 16) ?_ ?_ hHeld.2) ?_
            · rfl
            · rfl
            refine hK.out _ _ ⟨hHeld.1, hHeld.2⟩ (fun hHeld => ?_)
            clear hK K
            refine norm_ (a' := ?_) ?_ ?_
            rotate_left
            · show Act.put _ (some 17) _ = _
              simp only [Act.put, List.setIfInBounds_toArray, List.set_cons_zero, List.set_cons_succ, i64_w, i32_w]
              rfl
            refine one_ (i := 7) (N := some 15) #[true, true, true, true, true, true, true, true, true, true, false, false] rfl rfl (by kernel_rfl) (by decide) (fun K hK => ?_)
            refine value_ (v := .string (strOfNums (X))) (by rfl) rfl (conv_run (x := Operand.tmp 14) ?_ ?_ h6) ?_
            · rfl
            · rfl
            refine hK.out _ _ ⟨hHeld.1, hHeld.2⟩ (fun hHeld => ?_)
            clear hK K
            refine norm_ (a' := ?_) ?_ ?_
            rotate_left
            · show Act.put _ (some 15) _ = _
              simp only [Act.put, List.setIfInBounds_toArray, List.set_cons_zero, List.set_cons_succ, i64_w, i32_w]
              rfl
            exact norm_ (by simp only [putAll, Act.put, List.setIfInBounds_toArray, List.set_cons_zero, List.set_cons_succ]) (hCont (A6, c6) _ hHeld)
        · skip
          refine value_ (v := .string (strOfNums (l))) (by rfl) rfl (conv_run (x := Operand.tmp 16) ?_ ?_ hHeld.2) ?_
          · rfl
          · rfl
          refine hK.out _ _ ⟨hHeld.1, hHeld.2⟩ (fun hHeld => ?_)
          clear hK K
          refine norm_ (a' := ?_) ?_ ?_
          rotate_left
          · show Act.put _ (some 17) _ = _
            simp only [Act.put, List.setIfInBounds_toArray, List.set_cons_zero, List.set_cons_succ, i64_w, i32_w]
            rfl
          refine one_ (i := 6) (N := some 14) #[true, true, true, true, true, true, true, false, true, true, false, false] rfl rfl (by kernel_rfl) (by decide) (fun K hK => ?_)
          refine goes_ Tryd.func122 (by kernel_rfl) rfl #[.slice A m c] (by rfl) rfl rfl (by simp only [List.map_toArray, List.map_cons, List.map_nil]; rfl) ?_
          with_reducible refine (hSe _ hHeld.2).mono ?_
          rintro e w6 ⟨A6, c6, rfl, h6, hb6⟩
          refine ⟨_, rfl, ?_⟩
          refine hK.out _ _ ⟨(hHeld.1.trans (hb6.mono hHeld.1.size)), (hHeld.2.below hb6)⟩ (fun hHeld => ?_)
          clear hK K
          refine norm_ (a' := ?_) ?_ ?_
          rotate_left
          · show Act.put _ (some 14) _ = _
            simp only [Act.put, List.setIfInBounds_toArray, List.set_cons_zero, List.set_cons_succ, i64_w, i32_w]
            rfl
          refine one_ (i := 7) (N := some 15) #[true, true, true, true, true, true, true, true, true, true, false, false] rfl rfl (by kernel_rfl) (by decide) (fun K hK => ?_)
          refine value_ (v := .string (strOfNums (X))) (by rfl) rfl (conv_run (x := Operand.tmp 14) ?_ ?_ h6) ?_
          · rfl
          · rfl
          refine hK.out _ _ ⟨hHeld.1, hHeld.2⟩ (fun hHeld => ?_)
          clear hK K
          refine norm_ (a' := ?_) ?_ ?_
          rotate_left
          · show Act.put _ (some 15) _ = _
            simp only [Act.put, List.setIfInBounds_toArray, List.set_cons_zero, List.set_cons_succ, i64_w, i32_w]
            rfl
          exact norm_ (by simp only [putAll, Act.put, List.setIfInBounds_toArray, List.set_cons_zero, List.set_cons_succ]) (hCont (A6, c6) _ hHeld)
      rintro ⟨A6, c6⟩ w6 hHeld
      refine norm_ (a' := ?_) ?_ ?_
      rotate_left
      · simp only [putAll, Act.put, List.setIfInBounds_toArray, List.set_cons_zero, List.set_cons_succ]
        rfl
      refine pure_ (i := 10) (N := some 18) (v := ?_) (a' := ?_) #[true, true, true, true, true, true, true, true, true, true, true, false] rfl rfl (by kernel_rfl) (fun _ _ _ h => h) (Or.inl ⟨by rfl, ?_⟩) ?_ ?_
      rotate_left
      · intro w'
        go_simp
        with_reducible rfl
      rotate_left
      · simp only [Act.put, List.setIfInBounds_toArray, List.set_cons_zero, List.set_cons_succ, i64_w, i32_w]
        rfl
      refine pure_ (i := 11) (N := some 19) (v := ?_) (a' := ?_) #[true, true, true, true, true, true, true, true, true, true, true, true] rfl rfl (by kernel_rfl) (fun _ _ _ h => h) (Or.inl ⟨by rfl, ?_⟩) ?_ ?_
      rotate_left
      · intro w'
        go_simp
        with_reducible rfl
      rotate_left
      · simp only [Act.put, List.setIfInBounds_toArray, List.set_cons_zero, List.set_cons_succ, i64_w, i32_w]
        rfl
      refine done_ (by kernel_rfl) ?_
      have HH := Aside0.mk hHeld
      clear hHeld
      go_wp2_with (fail)
      go_ret2
      exact ⟨A, c, rfl, HH.out.2.takeN HE.out, HH.out.1⟩
    · have hno : ¬ okO l := fun q => he (by rw [hX, hmm2.out]; exact q.2)
      have e1 : opL l = [] := if_neg hno
      have e2 : opE l = some 4 := if_neg hno
      have hmv : mm = 0 := by rw [hmm, e1]; rfl
      rw [e1, e2, hmv]
      have hq : ((strOfNums X).toList == (strOfNums l).toList) = false := by
        rw [ByteArray.toList_eq, ByteArray.toList_eq, beq_eq_false_iff_ne]
        intro q
        exact he (str_inj hX8 hl (ByteArray.ext (Array.toList_inj.1 q)))
      have h := Aside0.mk h0
      clear h0 hl hlen h4 hm hX hmX hlt8 hX8 he hno e1 e2 hmv hmm hi0 hsz hn
      go_enter Tryd.func127, Tryd.ntmps127
      go_upto_region 2 with (fail)
      refine start_ (n := 12) (S := fun w' => Below w.heap.size w w' ∧ Sl w' A n c l) (ds := []) #[false, false, false, false, false, false, false, false, false, false, false, false] (by kernel_rfl) rfl rfl ⟨(Below.refl _ _).drew, (h.out.below (Below.refl _ _).drew)⟩ (fun hHeld => ?_)
      refine pure_ (i := 0) (N := some 8) (v := ?_) (a' := ?_) #[true, false, false, false, false, false, false, false, false, false, false, false] rfl rfl (by kernel_rfl) (fun _ _ _ h => h) (Or.inl ⟨by rfl, ?_⟩) ?_ ?_
      rotate_left
      · intro w'
        go_simp
        with_reducible rfl
      rotate_left
      · simp only [Act.put, List.setIfInBounds_toArray, List.set_cons_zero, List.set_cons_succ, i64_w, i32_w]
        rfl
      refine pure_ (i := 1) (N := some 9) (v := ?_) (a' := ?_) #[true, true, false, false, false, false, false, false, false, false, false, false] rfl rfl (by kernel_rfl) (fun _ _ _ h => h) (Or.inl ⟨by rfl, ?_⟩) ?_ ?_
      rotate_left
      · intro w'
        go_simp
        with_reducible rfl
      rotate_left
      · simp only [Act.put, List.setIfInBounds_toArray, List.set_cons_zero, List.set_cons_succ, i64_w, i32_w]
        rfl
      refine pure_ (i := 2) (N := some 10) (v := ?_) (a' := ?_) #[true, true, true, false, false, false, false, false, false, false, false, false] rfl rfl (by kernel_rfl) (fun _ _ _ h => h) (Or.inl ⟨by rfl, ?_⟩) ?_ ?_
      rotate_left
      · intro w'
        go_simp
        with_reducible rfl
      rotate_left
      · simp only [Act.put, List.setIfInBounds_toArray, List.set_cons_zero, List.set_cons_succ, i64_w, i32_w]
        rfl
      refine pure_ (i := 3) (N := some 11) (v := ?_) (a' := ?_) #[true, true, true, true, false, false, false, false, false, false, false, false] rfl rfl (by kernel_rfl) (fun _ _ _ h => h) (Or.inl ⟨by rfl, ?_⟩) ?_ ?_
      rotate_left
      · intro w'
        go_simp
        with_reducible rfl
      rotate_left
      · simp only [Act.put, List.setIfInBounds_toArray, List.set_cons_zero, List.set_cons_succ, i64_w, i32_w]
        rfl
      refine pure_ (i := 4) (N := some 12) (v := ?_) (a' := ?_) #[true, true, true, true, true, false, false, false, false, false, false, false] rfl rfl (by kernel_rfl) (fun _ _ _ h => h) (Or.inl ⟨by rfl, ?_⟩) ?_ ?_
      rotate_left
      · intro w'
        go_simp
        with_reducible rfl
      rotate_left
      · simp only [Act.put, List.setIfInBounds_toArray, List.set_cons_zero, List.set_cons_succ, i64_w, i32_w]
        rfl
      refine pure_ (i := 5) (N := some 13) (v := ?_) (a' := ?_) #[true, true, true, true, true, true, false, false, false, false, false, false] rfl rfl (by kernel_rfl) (fun _ _ _ h => h) (Or.inl ⟨by rfl, ?_⟩) ?_ ?_
      rotate_left
      · intro w'
        go_simp
        with_reducible rfl
      rotate_left
      · simp only [Act.put, List.setIfInBounds_toArray, List.set_cons_zero, List.set_cons_succ, i64_w, i32_w]
        rfl
      refine pure_ (i := 8) (N := some 16) (v := ?_) (a' := ?_) #[true, true, true, true, true, true, false, false, true, false, false, false] rfl rfl (by kernel_rfl) (fun _ _ _ h => h) (Or.inl ⟨by rfl, ?_⟩) ?_ ?_
      rotate_left
      · intro w'
        go_simp
        with_reducible rfl
      rotate_left
      · simp only [Act.put, List.setIfInBounds_toArray, List.set_cons_zero, List.set_cons_succ, i64_w, i32_w]
        rfl
      refine join_ (σ := Option Addr × Nat) 2 #[true, true, true, true, true, true, true, true, true, true, false, false] (fun s_ => [(14, .slice s_.1 mX s_.2), (15, .string (strOfNums (X))), (17, .string (strOfNums (l)))]) (fun s_ w' => Below w.heap.size w w' ∧ Sl w' A n c l) ?_ ?_
      rotate_left
      · intro hCont
        refine two_ (i := 6) (j := 9) (Ni := some 14) (Nj := some 17) #[true, true, true, true, true, true, true, false, true, false, false, false] #[true, true, true, true, true, true, false, false, true, true, false, false] rfl rfl rfl rfl (by kernel_rfl) (by decide) (by decide) (fun K hK => ?_) (fun K hK => ?_)
        · skip
          refine goes_ Tryd.func122 (by kernel_rfl) rfl #[.slice A m c] (by rfl) rfl rfl (by simp only [List.map_toArray, List.map_cons, List.map_nil]; rfl) ?_
          with_reducible refine (hSe _ hHeld.2).mono ?_
          rintro e w6 ⟨A6, c6, rfl, h6, hb6⟩
          refine ⟨_, rfl, ?_⟩
          refine hK.out _ _ ⟨(hHeld.1.trans (hb6.mono hHeld.1.size)), (hHeld.2.below hb6)⟩ (fun hHeld => ?_)
          clear hK K
          refine norm_ (a' := ?_) ?_ ?_
          rotate_left
          · show Act.put _ (some 14) _ = _
            simp only [Act.put, List.setIfInBounds_toArray, List.set_cons_zero, List.set_cons_succ, i64_w, i32_w]
            rfl
          refine two_ (i := 7) (j := 9) (Ni := some 15) (Nj := some 17) #[true, true, true, true, true, true, true, true, true, false, false, false] #[true, true, true, true, true, true, true, false, true, true, false, false] rfl rfl rfl rfl (by kernel_rfl) (by decide) (by decide) (fun K hK => ?_) (fun K hK => ?_)
          · skip
            refine value_ (v := .string (strOfNums (X))) (by rfl) rfl (conv_run (x := Operand.tmp 14) ?_ ?_ h6) ?_
            · rfl
            · rfl
            refine hK.out _ _ ⟨hHeld.1, hHeld.2⟩ (fun hHeld => ?_)
            clear hK K
            refine norm_ (a' := ?_) ?_ ?_
            rotate_left
            · show Act.put _ (some 15) _ = _
              simp only [Act.put, List.setIfInBounds_toArray, List.set_cons_zero, List.set_cons_succ, i64_w, i32_w]
              rfl
            refine one_ (i := 9) (N := some 17) #[true, true, true, true, true, true, true, true, true, true, false, false] rfl rfl (by kernel_rfl) (by decide) (fun K hK => ?_)
            refine value_ (v := .string (strOfNums (l))) (by rfl) rfl (conv_run (x := Operand.tmp 16) ?_ ?_ hHeld.2) ?_
            · rfl
            · rfl
            refine hK.out _ _ ⟨hHeld.1, hHeld.2⟩ (fun hHeld => ?_)
            clear hK K
            refine norm_ (a' := ?_) ?_ ?_
            rotate_left
            · show Act.put _ (some 17) _ = _
              simp only [Act.put, List.setIfInBounds_toArray, List.set_cons_zero, List.set_cons_succ, i64_w, i32_w]
              rfl
            exact norm_ (by simp only [putAll, Act.put, List.setIfInBounds_toArray, List.set_cons_zero, List.set_cons_succ]) (hCont (A6, c6) _ hHeld)
          · skip
            refine value_ (v := .string (strOfNums (l))) (by rfl) rfl (conv_run (x := Operand.tmp 16) ?_ ?_ hHeld.2) ?_
            · rfl
            · rfl
            refine hK.out _ _ ⟨hHeld.1, hHeld.2⟩ (fun hHeld => ?_)
            clear hK K
            refine norm_ (a' := ?_) ?_ ?_
            rotate_left
            · show Act.put _ (some 17) _ = _
              simp only [Act.put, List.setIfInBounds_toArray, List.set_cons_zero, List.set_cons_succ, i64_w, i32_w]
              rfl
            refine one_ (i := 7) (N := some 15) #[true, true, true, true, true, true, true, true, true, true, false, false] rfl rfl (by kernel_rfl) (by decide) (fun K hK => ?_)
            refine value_ (v := .string (strOfNums (X))) (by rfl) rfl (conv_run (x := Operand.tmp 14) ?_ ?_ h6) ?_
            · rfl
            · rfl
            refine hK.out _ _ ⟨hHeld.1, hHeld.2⟩ (fun hHeld => ?_)
            clear hK K
            refine norm_ (a' := ?_) ?_ ?_
            rotate_left
            · show Act.put _ (some 15) _ = _
              simp only [Act.put, List.setIfInBounds_toArray, List.set_cons_zero, List.set_cons_succ, i64_w, i32_w]
              rfl
            exact norm_ (by simp only [putAll, Act.put, List.setIfInBounds_toArray, List.set_cons_zero, List.set_cons_succ]) (hCont (A6, c6) _ hHeld)
        · skip
          refine value_ (v := .string (strOfNums (l))) (by rfl) rfl (conv_run (x := Operand.tmp 16) ?_ ?_ hHeld.2) ?_
          · rfl
          · rfl
          refine hK.out _ _ ⟨hHeld.1, hHeld.2⟩ (fun hHeld => ?_)
          clear hK K
          refine norm_ (a' := ?_) ?_ ?_
          rotate_left
          · show Act.put _ (some 17) _ = _
            simp only [Act.put, List.setIfInBounds_toArray, List.set_cons_zero, List.set_cons_succ, i64_w, i32_w]
            rfl
          refine one_ (i := 6) (N := some 14) #[true, true, true, true, true, true, true, false, true, true, false, false] rfl rfl (by kernel_rfl) (by decide) (fun K hK => ?_)
          refine goes_ Tryd.func122 (by kernel_rfl) rfl #[.slice A m c] (by rfl) rfl rfl (by simp only [List.map_toArray, List.map_cons, List.map_nil]; rfl) ?_
          with_reducible refine (hSe _ hHeld.2).mono ?_
          rintro e w6 ⟨A6, c6, rfl, h6, hb6⟩
          refine ⟨_, rfl, ?_⟩
          refine hK.out _ _ ⟨(hHeld.1.trans (hb6.mono hHeld.1.size)), (hHeld.2.below hb6)⟩ (fun hHeld => ?_)
          clear hK K
          refine norm_ (a' := ?_) ?_ ?_
          rotate_left
          · show Act.put _ (some 14) _ = _
            simp only [Act.put, List.setIfInBounds_toArray, List.set_cons_zero, List.set_cons_succ, i64_w, i32_w]
            rfl
          refine one_ (i := 7) (N := some 15) #[true, true, true, true, true, true, true, true, true, true, false, false] rfl rfl (by kernel_rfl) (by decide) (fun K hK => ?_)
          refine value_ (v := .string (strOfNums (X))) (by rfl) rfl (conv_run (x := Operand.tmp 14) ?_ ?_ h6) ?_
          · rfl
          · rfl
          refine hK.out _ _ ⟨hHeld.1, hHeld.2⟩ (fun hHeld => ?_)
          clear hK K
          refine norm_ (a' := ?_) ?_ ?_
          rotate_left
          · show Act.put _ (some 15) _ = _
            simp only [Act.put, List.setIfInBounds_toArray, List.set_cons_zero, List.set_cons_succ, i64_w, i32_w]
            rfl
          exact norm_ (by simp only [putAll, Act.put, List.setIfInBounds_toArray, List.set_cons_zero, List.set_cons_succ]) (hCont (A6, c6) _ hHeld)
      rintro ⟨A6, c6⟩ w6 hHeld
      refine norm_ (a' := ?_) ?_ ?_
      rotate_left
      · simp only [putAll, Act.put, List.setIfInBounds_toArray, List.set_cons_zero, List.set_cons_succ]
        rfl
      refine pure_ (i := 10) (N := some 18) (v := ?_) (a' := ?_) #[true, true, true, true, true, true, true, true, true, true, true, false] rfl rfl (by kernel_rfl) (fun _ _ _ h => h) (Or.inl ⟨by rfl, ?_⟩) ?_ ?_
      rotate_left
      · intro w'
        go_simp
        with_reducible rfl
      rotate_left
      · simp only [Act.put, List.setIfInBounds_toArray, List.set_cons_zero, List.set_cons_succ, i64_w, i32_w]
        rfl
      refine pure_ (i := 11) (N := some 19) (v := ?_) (a' := ?_) #[true, true, true, true, true, true, true, true, true, true, true, true] rfl rfl (by kernel_rfl) (fun _ _ _ h => h) (Or.inl ⟨by rfl, ?_⟩) ?_ ?_
      rotate_left
      · intro w'
        go_simp
        with_reducible rfl
      rotate_left
      · simp only [Act.put, List.setIfInBounds_toArray, List.set_cons_zero, List.set_cons_succ, i64_w, i32_w]
        rfl
      refine done_ (by kernel_rfl) ?_
      have HH := Aside0.mk hHeld
      clear hHeld
      go_wp2_with (fail)
      go_ret2
      exact ⟨none, 0, rfl, Sl.nil _, HH.out.1⟩
theorem seal_eq (k : Nat) (hk : 20000 ≤ k) (q : Int) (l : List Int) (hq : B8 q) (hl : ∀ c ∈ l, B8 c) (hn : l.length ≤ 5000) : blob_Seal.f k q l = some (sealR q l) := by
  unfold blob_Seal.f sealR
  rw [kinded_eq]
  simp only [Option.bind_some, decide_eq_true_eq]
  by_cases h1 : 1 ≤ q ∧ q ≤ 6
  case neg => rw [if_neg h1, if_neg h1]
  rw [if_pos h1, if_pos h1]
  by_cases h2 : 1024 < l.length
  · rw [if_pos (by omega), if_pos h2]
  rw [if_neg (by omega), if_neg h2, if_pos (by simp)]
  have hu : fields_U16.f k ([116, 109] ++ [q]) (IntKind.u16.wrap (l.length : Int)) = some [116, 109, q, (l.length : Int) % 256, (l.length : Int) / 256] := by
    rw [u16_app k (by omega) _ _ (by simp)]
    have e1 : IntKind.u16.wrap (l.length : Int) = (l.length : Int) := by rw [IntKind.wrap_u16]; omega
    have e2 : IntKind.u64.wrap (l.length : Int) = (l.length : Int) := by rw [IntKind.wrap_u64]; omega
    rw [e1, e2]
    simp only [bytesN]
    rw [show (l.length : Int) / 256 % 256 = (l.length : Int) / 256 by omega]
    rfl
  rw [hu, Option.bind_some, concat2 k (by omega) _ _ (by simp) (by omega), Option.bind_some]
  have hb : ∀ c ∈ body q l, B8 c := body_byte hq hl (by omega)
  have hs := sealed_eq k (body q l) hb (by rw [body_length]; omega) (by rw [body_length]; omega)
  unfold body at hs
  rw [hs]
  rfl
theorem kinded_calls (a : Int) (w : World) : Calls Tryd.prog 118 #[.int .u8 a] w fun e w' => e = .returned (.bool (decide (1 ≤ a ∧ a ≤ 6))) ∧ Below w.heap.size w w' := by
  refine (blob_kinded.calls a _ w (kinded_eq a)).mono ?_
  rintro e w' ⟨rfl, hd⟩
  exact ⟨rfl, hd.below⟩
theorem seal_sl {w : World} {A : Option Addr} {n c : Nat} {l : List Int} (q : Int) (hq : B8 q) (h : Sl w A n c l) (hl : ∀ x ∈ l, B8 x) (hn : n ≤ 5000) (m : Nat) (hm : m = (sealR q l).1.length) :
    Calls Tryd.prog 93 #[.int .u8 q, .slice A n c] w fun e w' => ∃ A' c', e = .returned (.tuple #[.slice A' m c', errV (sealR q l).2]) ∧ Sl w' A' m c' (sealR q l).1 ∧ Below w.heap.size w w' := by
  obtain ⟨hC, hn', hc⟩ := h
  subst hn'
  refine (blob_Seal.calls 20000 q (fun k => k < w.heap.size) A c l (sealR q l).1 (sealR q l).2 w (Kd.V_mk hc (Kd.C_F (Kd.heap_int .u8) hC)) (seal_eq 20000 (Nat.le_refl _) q l hq hl hn)).mono ?_
  rintro e w' ⟨v, rfl, hR, hb⟩
  obtain ⟨A', c', rfl, hS⟩ := Sl.of_R hR hm
  exact ⟨A', c', by rw [(fun x => by cases x <;> rfl : ∀ x, errW x = errV x) (sealR q l).2], hS, hb⟩
set_option maxRecDepth 100000 in
set_option maxHeartbeats 4000000 in
theorem rseal_sl {w : World} {A : Option Addr} {n c : Nat} {l : List Int} (q : Int) (hq : B8 q) (h : Sl w A n c l) (hl : ∀ x ∈ l, B8 x) (hn : n ≤ 5000) (m : Nat) (hm : m = (sealR q l).1.length) :
    Calls Tryd.prog 95 #[.int .u8 q, .slice A n c] w fun e w' => ∃ A' c', e = .returned (.tuple #[.slice A' m c', .int .i64 (numE (sealR q l).2)]) ∧ Sl w' A' m c' (sealR q l).1 ∧ Below w.heap.size w w' := by
  have hlen := h.len
  by_cases hk : 1 ≤ q ∧ q ≤ 6
  · by_cases hb : 1024 < l.length
    · have e : sealR q l = ([], some 5) := by unfold sealR; rw [if_pos hk, if_pos hb]
      rw [e] at hm ⊢
      simp only [List.length_nil] at hm
      subst hm
      have h1 : ¬ q < 1 := by omega
      have h2 : ¬ 6 < q := by omega
      have h3 : (1024 : Int) < (n : Int) := by omega
      clear h hl hn hlen hk hb e hq
      go_enter Tryd.func95, Tryd.ntmps95
      go_wp2
      go_ret2
      exact ⟨none, 0, rfl, Sl.nil _, Below.refl _ _⟩
    · have e : sealR q l = (body q l ++ le4 (mo 0 (body q l)), none) := by unfold sealR; rw [if_pos hk, if_neg hb]
      rw [e] at hm ⊢
      have h1 : ¬ q < 1 := by omega
      have h2 : ¬ 6 < q := by omega
      have h3 : ¬ (1024 : Int) < (n : Int) := by omega
      have hbb := body_byte hq hl (by omega)
      have hbl := body_length q l
      obtain ⟨x3, hx3⟩ : ∃ x, x = (n : Int) % 256 := ⟨_, rfl⟩
      obtain ⟨x4, hx4⟩ : ∃ x, x = (n : Int) / 256 := ⟨_, rfl⟩
      have t3 : Int.tmod (n : Int) 256 = x3 := by rw [hx3, Int.tmod_eq_emod_of_nonneg (by omega)]
      have t4 : Int.tdiv (n : Int) 256 = x4 := by rw [hx4, Int.tdiv_eq_ediv_of_nonneg (by omega)]
      have hx3' := hx3.symm
      have hx4' := hx4.symm
      have u3 : IntKind.u8.wrap x3 = x3 := by show x3 % 256 = x3; omega
      have u4 : IntKind.u8.wrap x4 = x4 := by show x4 % 256 = x4; omega
      have v3 : wrap64 x3 = x3 := by unfold wrap64; omega
      have v4 : wrap64 x4 = x4 := by unfold wrap64; omega
      have z3 : x3 % 256 = x3 := by omega
      have z4 : x4 % 256 = x4 := by omega
      have hlist : Aside0 ([116, 109, q, x3, x4] ++ l = body q l) := ⟨by unfold body; rw [hx3, hx4, hlen]⟩
      obtain ⟨mb, hmb⟩ : ∃ mb : Nat, mb = n + 5 := ⟨_, rfl⟩
      have hSe : ∀ W A' c', Sl W A' mb c' (body q l) → Calls Tryd.prog 122 #[.slice A' mb c'] W fun e w' => ∃ A' c', e = .returned (.slice A' m c') ∧ Sl w' A' m c' (body q l ++ le4 (mo 0 (body q l))) ∧ Below W.heap.size W w' := fun W A' c' hW => rsealed_sl hW hbb (by have := hW.len; omega) m (by rw [hm]; show (body q l ++ le4 (mo 0 (body q l))).length = _; rw [List.length_append, hbl, hmb, hlen]; simp [le4])
      have H0 := Aside0.mk (And.intro h (And.intro hlen (And.intro hmb hbl)))
      clear h hl hn hlen hk hb e hq hx3 hx4 hmb hbb hbl hm
      go_enter Tryd.func95, Tryd.ntmps95
      go_upto_region 6 with (fail)
      have hown := own_lit w w.heap.size 5 .u8 [116, 109, q, x3, x4] (Nat.le_refl _) (by simp)
      have HO := Aside0.mk (Kd.R_of_own (enc := Value.int .u8) (h1 := fun _ => rfl) (xs := [116, 109, q, x3, x4]) (ok := fun _ => True) hown (fun _ _ => trivial))
      have HB1 := Aside0.mk ((Below.refl _ w).alloc (Nat.le_refl _) (.cells #[.int .u8 116, .int .u8 109, .int .u8 q, .int .u8 x3, .int .u8 x4] 5))
      have rowA : ∀ W, Sl W A n c l → (Kd.int .u8).C W A n l := fun W h => by have := h.rd; rw [← h.len] at this; exact this
      have RA := Aside0.mk rowA
      clear hown rowA
      go_wp2_with (first
        | ((with_reducible refine gate_builtin (b := .append) (xs := #[.tmp 26, .tmp 27]) rfl ?_); at_builtin; refine Kd.R_append_rows (Kd.int .u8) (w0 := w) w.heap.size rfl (.tmp 26) (.tmp 27) 47 5 (.int .u8 0) 1 rfl Tryd.underlying47 info5 rfl (by decide) (by omega) (.slice (some ⟨w.heap.size, 0, none⟩) 5 5) [116, 109, q, x3, x4] l _ _ _ (fun _ => True) (fun _ => False) rfl rfl HO.out ?aR (fun _ _ h => h) (fun _ h => h.elim) (fun _ _ => trivial) HB1.out ?aS ?aL ?_; (case aR => exact RA.out _ (H0.out.1.below HB1.out)); (case aS => exact HB1.out.size); (case aL => (simp; omega)); intro v1 w1 hR hB hg_ hat; rw [hlist.out] at hR; obtain ⟨A5, c5, e5, hS5⟩ := Sl.of_R hR (m := mb) (by rw [H0.out.2.2.2, H0.out.2.2.1, H0.out.2.1]); subst e5; have H1 := Aside0.mk (And.intro hS5 hB); clear hR hB hg_ hat hS5)
        | (go_at_call 122; (with_reducible refine (hSe _ _ _ H1.out.1).mono ?_); rintro e w2 ⟨A6, c6, rfl, h6, hb6⟩; have H2 := Aside0.mk (And.intro h6 (H1.out.2.trans (hb6.mono H1.out.2.size))); clear h6 hb6))
      go_ret2
      exact ⟨A6, c6, rfl, H2.out.1, H2.out.2⟩
  · have e : sealR q l = ([], some 1) := by unfold sealR; rw [if_neg hk]
    rw [e] at hm ⊢
    simp only [List.length_nil] at hm
    subst hm
    by_cases h1 : q < 1
    · clear h hl hn hlen hk e hq
      go_enter Tryd.func95, Tryd.ntmps95
      go_wp2
      go_ret2
      exact ⟨none, 0, rfl, Sl.nil _, Below.refl _ _⟩
    · have h2 : 6 < q := by omega
      clear h hl hn hlen hk e hq
      go_enter Tryd.func95, Tryd.ntmps95
      go_wp2
      go_ret2
      exact ⟨none, 0, rfl, Sl.nil _, Below.refl _ _⟩
theorem rkind_sl {w : World} {A : Option Addr} {n c : Nat} {l : List Int} (h : Sl w A n c l) (hl : ∀ x ∈ l, B8 x) :
    Calls Tryd.prog 126 #[.slice A n c] w fun e w' => e = .returned (.tuple #[.int .u8 (kindR l).1, .int .i64 (kindR l).2.1, .int .i64 (numE (kindR l).2.2)]) ∧ Below w.heap.size w w' := by
  obtain ⟨hC, hn', hc⟩ := h
  subst hn'
  refine (fuseeref06_Kind.calls A c l _ _ _ w hC hc (rkind_eq l hl)).mono ?_
  rintro e w' ⟨rfl, hd⟩
  exact ⟨rfl, hd.below⟩
set_option maxRecDepth 100000 in
set_option maxHeartbeats 4000000 in
theorem kind_sl {w : World} {A : Option Addr} {n c : Nat} {l : List Int} (h : Sl w A n c l) (hl : ∀ x ∈ l, B8 x) (hn : n ≤ 5000) :
    Calls Tryd.prog 123 #[.slice A n c] w fun e w' => e = .returned (.tuple #[.int .u8 (kindR l).1, .int .i64 (kindR l).2.1, errV (kindR l).2.2]) ∧ Below w.heap.size w w' := by
  have hlen := h.len
  have bad : ¬ kdOk l → kindR l = (0, 0, some 3) := fun q => if_neg q
  by_cases h5 : n < 5
  · rw [bad (fun q => by have := q.1; omega)]
    have hq : (n : Int) < 5 := by omega
    clear h hl hn hlen bad h5
    go_enter Tryd.func123, Tryd.ntmps123
    go_wp2
    go_ret3
    exact ⟨rfl, Below.refl _ _⟩
  have hq5 : ¬ (n : Int) < 5 := by omega
  obtain ⟨i0, hi0, _, hsz, _⟩ := info_parts info5
  have cut1 := cut_to (P := Tryd.prog) 47 5 .i64 Tryd.underlying47 hi0 A n c 2 (by omega) (by omega) h.cap
  have cut2 := cut_mid (P := Tryd.prog) 47 5 .i64 .i64 Tryd.underlying47 hi0 1 hsz A n c 3 5 (by omega) (by omega) (by omega) h.cap
  simp only [show (2 : Int).toNat = 2 from rfl] at cut1
  simp only [show (3 : Int).toNat = 3 from rfl, show (5 : Int).toNat = 5 from rfl, show 5 - 3 = 2 from rfl] at cut2
  have hcv := Kd.C_string (P := Tryd.prog) (A := A) (c := c) Tryd.underlying47 Tryd.underlying5 Tryd.underlying9 (h.takeN (k := 2) (by omega)).rd
  rw [← (h.takeN (k := 2) (by omega)).len] at hcv
  obtain ⟨X, hX⟩ : ∃ X, X = strOfNums (l.take 2) := ⟨_, rfl⟩
  rw [← hX] at hcv
  have ht2 : l.take 2 = [rd l 0, rd l 1] := by
    match l, hlen with
    | a :: b :: r, _ => rfl
    | [a], e => simp at e; omega
    | [], e => simp at e; omega
  have hd2 : (l.drop 3).take 2 = [rd l 3, rd l 4] := by
    match l, hlen with
    | a :: b :: c :: d :: e :: r, _ => rfl
    | [a, b, c, d], e => simp at e; omega
    | [a, b, c], e => simp at e; omega
    | [a, b], e => simp at e; omega
    | [a], e => simp at e; omega
    | [], e => simp at e; omega
  have b0 := rd_byte hl 0 (by omega)
  have b1 := rd_byte hl 1 (by omega)
  have b2 := rd_byte hl 2 (by omega)
  have b3 := rd_byte hl 3 (by omega)
  have b4 := rd_byte hl 4 (by omega)
  rw [show ((0 : Nat) : Int) = 0 from rfl] at b0
  rw [show ((1 : Nat) : Int) = 1 from rfl] at b1
  rw [show ((2 : Nat) : Int) = 2 from rfl] at b2
  rw [show ((3 : Nat) : Int) = 3 from rfl] at b3
  rw [show ((4 : Nat) : Int) = 4 from rfl] at b4
  have H0 := Aside0.mk h
  by_cases hm : rd l 0 = 116 ∧ rd l 1 = 109
  · have hq : (X.toList == [116, 109]) = true := by rw [hX, ht2, hm.1, hm.2, ByteArray.toList_eq]; rfl
    have hqp : (X.toList = [116, 109]) = True := eq_true (beq_iff_eq.1 hq)
    have hlx : (2 : Int) < (l.length : Int) := by omega
    obtain ⟨ad, e_, hx0⟩ := Kd.at_int h.rd (2 : Int) (by omega) hlx
    obtain ⟨q, hqd⟩ : ∃ q, q = rd l 2 := ⟨_, rfl⟩
    rw [show (2 : Int).toNat = 2 from rfl, ← hqd] at hx0
    subst e_
    have hx0b : w.cell? ⟨ad.block, ad.off + 2, none⟩ = some (.int .u8 q) := hx0
    have hkd : ∀ W, Calls Tryd.prog 118 #[.int .u8 q] W fun e w' => e = .returned (.bool (decide (1 ≤ q ∧ q ≤ 6))) ∧ Below W.heap.size W w' := fun W => kinded_calls q W
    by_cases hk : 1 ≤ q ∧ q ≤ 6
    · simp only [decide_eq_true hk] at hkd
      obtain ⟨v, hv⟩ : ∃ v, v = rd l 3 + 256 * rd l 4 := ⟨_, rfl⟩
      unfold B8 at b3 b4
      have hv0 : 0 ≤ v ∧ v ≤ 65535 := by omega
      obtain ⟨A3, hA3⟩ : ∃ A3, A3 = (if c = 3 then some ad else (some ad).map (·.add (3 * 1))) := ⟨_, rfl⟩
      rw [← hA3] at cut2
      have hnum : numV [rd l 3, rd l 4] = v := by
        rw [numV_leV _ (by simp) (by intro x hx; simp only [List.mem_cons, List.not_mem_nil, or_false] at hx; rcases hx with rfl | rfl <;> omega)]
        simp only [leV]; omega
      have hNew : ∀ W, Sl W (some ad) n c l → Calls Tryd.prog 97 #[.slice A3 2 (c - 3)] W fun e w' => ∃ g, e = .returned (.pointer (some ⟨g, 0, none⟩)) ∧ W.heap.size ≤ g ∧ Rdr w' g [rd l 3, rd l 4] false ∧ Below W.heap.size W w' := fun W hW => by
        have h1 := (hW.drop (k := 3) (by omega)).takeN (k := 2) (by omega)
        rw [hd2, ← hA3] at h1
        exact new_sl h1 (by simp)
      have hU : ∀ W g, Rdr W g [rd l 3, rd l 4] false → Calls Tryd.prog 136 #[.pointer (some ⟨g, 0, none⟩)] W fun e w' => e = .returned (.int .u16 v) ∧ But g W w' := fun W g hr => by
        refine (u16_calls g _ false W hr).mono ?_
        rintro e w' ⟨he, _, hb⟩
        refine ⟨?_, hb⟩
        rw [he]
        unfold rdNum
        rw [if_neg (by simp), List.take_of_length_le (by simp), hnum, IntKind.wrap_u16]
        congr 2
        omega
      have HV := Aside0.mk hv0
      have hwv : wrap64 v = v := by unfold wrap64; omega
      have hNewH := Aside0.mk hNew
      have hUH := Aside0.mk hU
      have HX2 := Aside0.mk (And.intro hm (And.intro hqd (And.intro hv hlen)))
      by_cases hbig : 1024 < v
      · have hno : ¬ kdOk l := fun z => by have := z.2.2.2.2.2; omega
        rw [bad hno]
        clear h hl hn hlen bad h5 hi0 hsz hX ht2 hd2 b0 b1 b2 b3 b4 hm hlx hqd hk hv hv0 hA3 hnum hNew hU hno
        go_enter Tryd.func123, Tryd.ntmps123
        go_wp2_with (first
          | (go_at_call 118; (with_reducible refine (hkd _).mono ?_); rintro e w2 ⟨rfl, hb2⟩; have H2 := Aside0.mk hb2; clear hb2)
          | (go_at_call 97; (with_reducible refine (hNewH.out _ (H0.out.below H2.out)).mono ?_); rintro e w3 ⟨g, rfl, hg3, hr3, hb3⟩; have H3 := Aside0.mk (And.intro hr3 (And.intro (H2.out.trans (hb3.mono H2.out.size)) (Nat.le_trans H2.out.size hg3))); clear hg3 hr3 hb3)
          | (go_at_call 136; (with_reducible refine (hUH.out _ _ H3.out.1).mono ?_); rintro e w4 ⟨rfl, hb4⟩; have H4 := Aside0.mk (but_below hb4 H3.out.2.1 H3.out.2.2 H3.out.2.1.size); clear hb4))
        go_ret3
        exact ⟨rfl, H4.out⟩
      · have hok : kdOk l := ⟨by omega, hm.1, hm.2, by omega, by omega, by omega⟩
        have he : kindR l = (q, 9 + v, none) := by unfold kindR; rw [if_pos hok, hqd, hv]
        rw [he]
        have hlt : ¬ (1024 : Int) < v := hbig
        have hw5 : wrap64 (5 + v) = 5 + v := by unfold wrap64; omega
        have hw9 : wrap64 (5 + v + 4) = 5 + v + 4 := by unfold wrap64; omega
        have hcell : ∀ W, Below w.heap.size w W → W.cell? ⟨ad.block, ad.off + 2, none⟩ = some (.int .u8 q) := fun W hB => by
          have hlt2 := block_lt_of_cell hx0b
          unfold World.cell? at hx0b ⊢
          rw [hB.block _ hlt2]; exact hx0b
        have hcellH := Aside0.mk hcell
        clear h hl hn hlen bad h5 hi0 hsz hX ht2 hd2 b0 b1 b2 b3 b4 hm hlx hqd hk hv hv0 hA3 hnum hNew hU hok he hbig hcell
        go_enter Tryd.func123, Tryd.ntmps123
        go_wp2_with (first
          | (go_at_call 118; (with_reducible refine (hkd _).mono ?_); rintro e w2 ⟨rfl, hb2⟩; have H2 := Aside0.mk hb2; clear hb2)
          | (go_at_call 97; (with_reducible refine (hNewH.out _ (H0.out.below H2.out)).mono ?_); rintro e w3 ⟨g, rfl, hg3, hr3, hb3⟩; have H3 := Aside0.mk (And.intro hr3 (And.intro (H2.out.trans (hb3.mono H2.out.size)) (Nat.le_trans H2.out.size hg3))); clear hg3 hr3 hb3)
          | (go_at_call 136; (with_reducible refine (hUH.out _ _ H3.out.1).mono ?_); rintro e w4 ⟨rfl, hb4⟩; have H4 := Aside0.mk (but_below hb4 H3.out.2.1 H3.out.2.2 H3.out.2.1.size); have hx4 := hcellH.out _ H4.out; clear hb4))
        go_ret3
        refine ⟨?_, H4.out⟩
        have e9 : wrap64 (5 + v + 4) = 9 + v := by have := HV.out; unfold wrap64; omega
        show Ending.returned (.tuple #[.int .u8 q, .int .i64 (wrap64 (5 + v + 4)), .nilIface]) = _
        rw [e9]; rfl
    · simp only [decide_eq_false hk] at hkd
      have hno : ¬ kdOk l := fun z => hk (by rw [hqd]; exact ⟨z.2.2.2.1, z.2.2.2.2.1⟩)
      rw [bad hno]
      clear h hl hn hlen bad h5 hi0 hsz hX ht2 hd2 b0 b1 b2 b3 b4 hm hlx hqd hk hno cut2
      go_enter Tryd.func123, Tryd.ntmps123
      go_wp2_with (go_at_call 118; (with_reducible refine (hkd _).mono ?_); rintro e w2 ⟨rfl, hb2⟩; have H2 := Aside0.mk hb2; clear hb2)
      go_ret3
      exact ⟨rfl, H2.out⟩
  · have hq : (X.toList == (⟨#[116, 109]⟩ : ByteArray).toList) = false := by
      rw [ByteArray.toList_eq, ByteArray.toList_eq, beq_eq_false_iff_ne]
      intro z
      have z2 : strOfNums [rd l 0, rd l 1] = strOfNums [116, 109] := by rw [← ht2, ← hX]; exact ByteArray.ext (Array.toList_inj.1 z)
      have z3 := str_inj (by intro x hx; simp only [List.mem_cons, List.not_mem_nil, or_false] at hx; rcases hx with rfl | rfl <;> assumption) (by intro x hx; simp only [List.mem_cons, List.not_mem_nil, or_false] at hx; unfold B8; omega) z2
      simp only [List.cons.injEq, and_true] at z3
      exact hm z3
    have hqp : (X.toList = [116, 109]) = False := eq_false (by simpa using hq)
    have hno : ¬ kdOk l := fun z => hm ⟨z.2.1, z.2.2.1⟩
    rw [bad hno]
    clear h hl hn hlen bad h5 hi0 hsz hX ht2 hd2 b0 b1 b2 b3 b4 hm hno cut2
    go_enter Tryd.func123, Tryd.ntmps123
    go_wp2
    go_ret3
    exact ⟨rfl, Below.refl _ _⟩
theorem err_num (e : Option Int) : (errV e = .nilIface) = (e = none) := by cases e <;> simp [errV]
set_option maxRecDepth 100000 in
set_option maxHeartbeats 4000000 in
theorem open_sl {w : World} {A : Option Addr} {n c : Nat} {l : List Int} (q : Int) (h : Sl w A n c l) (hl : ∀ x ∈ l, B8 x) (hn : n ≤ 1000) (m : Nat) (hm : m = (openR q l).1.length) :
    Calls Tryd.prog 96 #[.int .u8 q, .slice A n c] w fun e w' => ∃ A' c', e = .returned (.tuple #[.slice A' m c', errV (openR q l).2]) ∧ Sl w' A' m c' (openR q l).1 ∧ Below w.heap.size w w' := by
  have hlen := h.len
  have hkd : ∀ W, Calls Tryd.prog 118 #[.int .u8 q] W fun e w' => e = .returned (.bool (decide (1 ≤ q ∧ q ≤ 6))) ∧ Below W.heap.size W w' := fun W => kinded_calls q W
  by_cases hk : 1 ≤ q ∧ q ≤ 6
  case neg =>
    have e : openR q l = ([], some 1) := by unfold openR; rw [if_neg hk]
    rw [e] at hm ⊢
    simp only [List.length_nil] at hm
    subst hm
    simp only [decide_eq_false hk] at hkd
    clear h hl hn hlen hk e
    go_enter Tryd.func96, Tryd.ntmps96
    go_wp2_with (go_at_call 118; (with_reducible refine (hkd _).mono ?_); rintro e w2 ⟨rfl, hb2⟩; have H2 := Aside0.mk hb2; clear hb2)
    go_ret2
    exact ⟨none, 0, rfl, Sl.nil _, H2.out⟩
  simp only [decide_eq_true hk] at hkd
  have hKi : ∀ W, Sl W A n c l → Calls Tryd.prog 123 #[.slice A n c] W fun e w' => e = .returned (.tuple #[.int .u8 (kindR l).1, .int .i64 (kindR l).2.1, errV (kindR l).2.2]) ∧ Below W.heap.size W w' := fun W h => kind_sl h hl (by omega)
  cases hke : (kindR l).2.2 with
  | some x =>
    have hx : x = 3 := by unfold kindR at hke; split at hke <;> simp_all
    subst hx
    have e : openR q l = ([], some 3) := by unfold openR; rw [if_pos hk, hke]; rfl
    rw [e] at hm ⊢
    simp only [List.length_nil] at hm
    subst hm
    obtain ⟨k1, hk1⟩ : ∃ k1, k1 = (kindR l).1 := ⟨_, rfl⟩
    obtain ⟨k2, hk2⟩ : ∃ k2, k2 = (kindR l).2.1 := ⟨_, rfl⟩
    simp only [hke, ← hk1, ← hk2, errV_some] at hKi
    have HK := Aside0.mk (fun W hB => hKi W (h.below hB))
    clear h hl hn hlen hk e hke hk1 hk2 hKi
    go_enter Tryd.func96, Tryd.ntmps96
    go_wp2_with (first
      | (go_at_call 118; (with_reducible refine (hkd _).mono ?_); rintro e w2 ⟨rfl, hb2⟩; have H2 := Aside0.mk hb2; clear hb2)
      | (go_at_call 123; (with_reducible refine (HK.out _ H2.out).mono ?_); rintro e w3 ⟨rfl, hb3⟩; have H3 := Aside0.mk (H2.out.trans (hb3.mono H2.out.size)); clear hb3))
    go_ret2
    exact ⟨none, 0, rfl, Sl.nil _, H3.out⟩
  | none =>
    have hok : kdOk l := by
      refine Decidable.byContradiction fun z => ?_
      unfold kindR at hke; rw [if_neg z] at hke; simp at hke
    obtain ⟨k1, hk1⟩ : ∃ k1, k1 = (kindR l).1 := ⟨_, rfl⟩
    obtain ⟨k2, hk2⟩ : ∃ k2, k2 = (kindR l).2.1 := ⟨_, rfl⟩
    simp only [hke, ← hk1, ← hk2, errV_none] at hKi
    by_cases hm2 : k1 = q ∧ k2 = (l.length : Int)
    case neg =>
      have e : openR q l = ([], some 3) := by unfold openR; rw [if_pos hk, hke, ← hk1, ← hk2, if_neg hm2]; rfl
      rw [e] at hm ⊢
      simp only [List.length_nil] at hm
      subst hm
      have HK := Aside0.mk (fun W hB => hKi W (h.below hB))
      by_cases hz : k1 = q
      · subst hz
        have hz2 : (k2 != (n : Int)) = true := bne_iff_ne.2 (fun z => hm2 ⟨rfl, by rw [z, hlen]⟩)
        have hz3 : (k2 = (n : Int)) = False := eq_false (fun z => hm2 ⟨rfl, by rw [z, hlen]⟩)
        clear h hl hn hlen hk e hke hk1 hk2 hKi hm2 hok
        go_enter Tryd.func96, Tryd.ntmps96
        go_wp2_with (first
          | (go_at_call 118; (with_reducible refine (hkd _).mono ?_); rintro e w2 ⟨rfl, hb2⟩; have H2 := Aside0.mk hb2; clear hb2)
          | (go_at_call 123; (with_reducible refine (HK.out _ H2.out).mono ?_); rintro e w3 ⟨rfl, hb3⟩; have H3 := Aside0.mk (H2.out.trans (hb3.mono H2.out.size)); clear hb3))
        go_ret2
        exact ⟨none, 0, rfl, Sl.nil _, H3.out⟩
      · have hz2 : (k1 != q) = true := bne_iff_ne.2 hz
        have hz3 : (k1 = q) = False := eq_false hz
        clear h hl hn hlen hk e hke hk1 hk2 hKi hm2 hok hz
        go_enter Tryd.func96, Tryd.ntmps96
        go_wp2_with (first
          | (go_at_call 118; (with_reducible refine (hkd _).mono ?_); rintro e w2 ⟨rfl, hb2⟩; have H2 := Aside0.mk hb2; clear hb2)
          | (go_at_call 123; (with_reducible refine (HK.out _ H2.out).mono ?_); rintro e w3 ⟨rfl, hb3⟩; have H3 := Aside0.mk (H2.out.trans (hb3.mono H2.out.size)); clear hb3))
        go_ret2
        exact ⟨none, 0, rfl, Sl.nil _, H3.out⟩
    have hk2' : k2 = (n : Int) := by rw [hlen]; exact hm2.2
    have hbig : 9 ≤ n := by
      have e3 : k2 = 9 + (rd l 3 + 256 * rd l 4) := by rw [hk2]; unfold kindR; rw [if_pos hok]
      have b3 := rd_byte hl 3 (by have := hok.1; omega)
      have b4 := rd_byte hl 4 (by have := hok.1; omega)
      rw [show ((3 : Nat) : Int) = 3 from rfl] at b3
      rw [show ((4 : Nat) : Int) = 4 from rfl] at b4
      unfold B8 at b3 b4
      omega
    rw [hm2.1, hk2'] at hKi
    have HK := Aside0.mk (fun W hB => hKi W (h.below hB))
    by_cases ho : okO l
    · have e : openR q l = ((l.take (l.length - 4)).drop 5, none) := by unfold openR; rw [if_pos hk, hke, ← hk1, ← hk2]; simp only [Option.isSome_none, Bool.false_eq_true, if_false]; rw [if_pos hm2, if_pos ho]
      obtain ⟨mo4, hmo⟩ : ∃ mo4 : Nat, mo4 = n - 4 := ⟨_, rfl⟩
      have eL : opL l = l.take (l.length - 4) := if_pos ho
      have eE : opE l = none := if_pos ho
      have hlo : (opL l).length = mo4 := by rw [eL, List.length_take]; omega
      have hmm : m = mo4 - 5 := by rw [hm, e]; show ((l.take (l.length - 4)).drop 5).length = _; rw [List.length_drop, ← eL, hlo]
      rw [e, ← eL]
      have hOp : ∀ W, Below w.heap.size w W → Calls Tryd.prog 124 #[.slice A n c] W fun e w' => ∃ A' c', e = .returned (.tuple #[.slice A' mo4 c', .nilIface]) ∧ Sl w' A' mo4 c' (opL l) ∧ Below W.heap.size W w' := fun W hB => by
        have := opened_sl (h.below hB) hl (by omega) mo4 hlo.symm
        rw [eE] at this
        exact this
      have HOp := Aside0.mk hOp
      obtain ⟨i0, hi0, _, hsz, _⟩ := info_parts info5
      have h5 : (5 : Int) ≤ (mo4 : Int) := by omega
      have cutf := fun (A3 : Option Addr) (c3 : Nat) => cut_from (P := Tryd.prog) 47 5 .i64 Tryd.underlying47 hi0 1 hsz A3 mo4 c3 5 (by omega) h5
      simp only [show (5 : Int).toNat = 5 from rfl] at cutf
      have CF := Aside0.mk cutf
      have HM := Aside0.mk (And.intro hmm (show 5 ≤ mo4 by omega))
      clear h hl hn hlen hk e hke hk1 hk2 hKi hm2 hok hk2' hbig ho hmo eL eE hlo hmm hOp hi0 hsz cutf hm
      go_enter Tryd.func96, Tryd.ntmps96
      go_wp2_with (first
        | (go_at_call 118; (with_reducible refine (hkd _).mono ?_); rintro e w2 ⟨rfl, hb2⟩; have H2 := Aside0.mk hb2; clear hb2)
        | (go_at_call 123; (with_reducible refine (HK.out _ H2.out).mono ?_); rintro e w3 ⟨rfl, hb3⟩; have H3 := Aside0.mk (H2.out.trans (hb3.mono H2.out.size)); clear hb3)
        | (go_at_call 124; (with_reducible refine (HOp.out _ H3.out).mono ?_); rintro e w4 ⟨A4, c4, rfl, h4, hb4⟩; have H4 := Aside0.mk (And.intro h4 (H3.out.trans (hb4.mono H3.out.size))); have hcut := CF.out A4 c4; obtain ⟨A5, hA5⟩ : ∃ A5, A5 = (if c4 = 5 then A4 else A4.map (·.add (5 * 1))) := ⟨_, rfl⟩; rw [← hA5] at hcut; have HA5 := Lib.hid hA5; clear hA5 h4 hb4))
      go_ret2
      exact ⟨A5, c4 - 5, by rw [HM.out.1]; rfl, by rw [HM.out.1, HA5.out]; exact H4.out.1.drop HM.out.2, H4.out.2⟩
    · have e : openR q l = ([], some 4) := by unfold openR; rw [if_pos hk, hke, ← hk1, ← hk2]; simp only [Option.isSome_none, Bool.false_eq_true, if_false]; rw [if_pos hm2, if_neg ho]
      rw [e] at hm ⊢
      simp only [List.length_nil] at hm
      subst hm
      have eL : opL l = [] := if_neg ho
      have eE : opE l = some 4 := if_neg ho
      have hOp : ∀ W, Below w.heap.size w W → Calls Tryd.prog 124 #[.slice A n c] W fun e w' => ∃ A' c', e = .returned (.tuple #[.slice A' 0 c', .iface 128 (.int .i64 4)]) ∧ Sl w' A' 0 c' (opL l) ∧ Below W.heap.size W w' := fun W hB => by
        have := opened_sl (h.below hB) hl (by omega) 0 (by rw [eL]; rfl)
        rw [eE] at this
        exact this
      have HOp := Aside0.mk hOp
      clear h hl hn hlen hk e hke hk1 hk2 hKi hm2 hok hk2' hbig ho eL eE hOp
      go_enter Tryd.func96, Tryd.ntmps96
      go_wp2_with (first
        | (go_at_call 118; (with_reducible refine (hkd _).mono ?_); rintro e w2 ⟨rfl, hb2⟩; have H2 := Aside0.mk hb2; clear hb2)
        | (go_at_call 123; (with_reducible refine (HK.out _ H2.out).mono ?_); rintro e w3 ⟨rfl, hb3⟩; have H3 := Aside0.mk (H2.out.trans (hb3.mono H2.out.size)); clear hb3)
        | (go_at_call 124; (with_reducible refine (HOp.out _ H3.out).mono ?_); rintro e w4 ⟨A4, c4, rfl, h4, hb4⟩; have H4 := Aside0.mk (H3.out.trans (hb4.mono H3.out.size)); clear h4 hb4))
      go_ret2
      exact ⟨none, 0, rfl, Sl.nil _, H4.out⟩
set_option maxRecDepth 100000 in
set_option maxHeartbeats 4000000 in
theorem ropen_sl {w : World} {A : Option Addr} {n c : Nat} {l : List Int} (q : Int) (h : Sl w A n c l) (hl : ∀ x ∈ l, B8 x) (hn : n ≤ 1000) (m : Nat) (hm : m = (openR q l).1.length) :
    Calls Tryd.prog 101 #[.int .u8 q, .slice A n c] w fun e w' => ∃ A' c', e = .returned (.tuple #[.slice A' m c', .int .i64 (numE (openR q l).2)]) ∧ Sl w' A' m c' (openR q l).1 ∧ Below w.heap.size w w' := by
  have hlen := h.len
  by_cases hk : 1 ≤ q ∧ q ≤ 6
  case neg =>
    have e : openR q l = ([], some 1) := by unfold openR; rw [if_neg hk]
    rw [e] at hm ⊢
    simp only [List.length_nil] at hm
    subst hm
    by_cases h1 : q < 1
    · clear h hl hn hlen hk e
      go_enter Tryd.func101, Tryd.ntmps101
      go_wp2
      go_ret2
      exact ⟨none, 0, rfl, Sl.nil _, Below.refl _ _⟩
    · have h2 : 6 < q := by omega
      clear h hl hn hlen hk e
      go_enter Tryd.func101, Tryd.ntmps101
      go_wp2
      go_ret2
      exact ⟨none, 0, rfl, Sl.nil _, Below.refl _ _⟩
  have hq1 : ¬ q < 1 := by omega
  have hq2 : ¬ 6 < q := by omega
  have H2 : Aside0 (Below w.heap.size w w) := ⟨Below.refl _ _⟩
  have hKi : ∀ W, Sl W A n c l → Calls Tryd.prog 126 #[.slice A n c] W fun e w' => e = .returned (.tuple #[.int .u8 (kindR l).1, .int .i64 (kindR l).2.1, .int .i64 (numE (kindR l).2.2)]) ∧ Below W.heap.size W w' := fun W h => rkind_sl h hl
  cases hke : (kindR l).2.2 with
  | some x =>
    have hx : x = 3 := by unfold kindR at hke; split at hke <;> simp_all
    subst hx
    have e : openR q l = ([], some 3) := by unfold openR; rw [if_pos hk, hke]; rfl
    rw [e] at hm ⊢
    simp only [List.length_nil] at hm
    subst hm
    obtain ⟨k1, hk1⟩ : ∃ k1, k1 = (kindR l).1 := ⟨_, rfl⟩
    obtain ⟨k2, hk2⟩ : ∃ k2, k2 = (kindR l).2.1 := ⟨_, rfl⟩
    simp only [hke, ← hk1, ← hk2] at hKi
    simp only [show numE (some 3) = 3 from rfl] at hKi
    have HK := Aside0.mk (fun W hB => hKi W (h.below hB))
    clear h hl hn hlen hk e hke hk1 hk2 hKi
    go_enter Tryd.func101, Tryd.ntmps101
    go_wp2_with (first
      | (go_at_call 126; (with_reducible refine (HK.out _ H2.out).mono ?_); rintro e w3 ⟨rfl, hb3⟩; have H3 := Aside0.mk (H2.out.trans (hb3.mono H2.out.size)); clear hb3))
    go_ret2
    exact ⟨none, 0, rfl, Sl.nil _, H3.out⟩
  | none =>
    have hok : kdOk l := by
      refine Decidable.byContradiction fun z => ?_
      unfold kindR at hke; rw [if_neg z] at hke; simp at hke
    obtain ⟨k1, hk1⟩ : ∃ k1, k1 = (kindR l).1 := ⟨_, rfl⟩
    obtain ⟨k2, hk2⟩ : ∃ k2, k2 = (kindR l).2.1 := ⟨_, rfl⟩
    simp only [hke, ← hk1, ← hk2] at hKi
    simp only [show numE none = 0 from rfl] at hKi
    by_cases hm2 : k1 = q ∧ k2 = (l.length : Int)
    case neg =>
      have e : openR q l = ([], some 3) := by unfold openR; rw [if_pos hk, hke, ← hk1, ← hk2, if_neg hm2]; rfl
      rw [e] at hm ⊢
      simp only [List.length_nil] at hm
      subst hm
      have HK := Aside0.mk (fun W hB => hKi W (h.below hB))
      by_cases hz : k1 = q
      · subst hz
        have hz2 : (k2 != (n : Int)) = true := bne_iff_ne.2 (fun z => hm2 ⟨rfl, by rw [z, hlen]⟩)
        have hz3 : (k2 = (n : Int)) = False := eq_false (fun z => hm2 ⟨rfl, by rw [z, hlen]⟩)
        clear h hl hn hlen hk e hke hk1 hk2 hKi hm2 hok
        go_enter Tryd.func101, Tryd.ntmps101
        go_wp2_with (first
          | (go_at_call 126; (with_reducible refine (HK.out _ H2.out).mono ?_); rintro e w3 ⟨rfl, hb3⟩; have H3 := Aside0.mk (H2.out.trans (hb3.mono H2.out.size)); clear hb3))
        go_ret2
        exact ⟨none, 0, rfl, Sl.nil _, H3.out⟩
      · have hz2 : (k1 != q) = true := bne_iff_ne.2 hz
        have hz3 : (k1 = q) = False := eq_false hz
        clear h hl hn hlen hk e hke hk1 hk2 hKi hm2 hok hz
        go_enter Tryd.func101, Tryd.ntmps101
        go_wp2_with (first
          | (go_at_call 126; (with_reducible refine (HK.out _ H2.out).mono ?_); rintro e w3 ⟨rfl, hb3⟩; have H3 := Aside0.mk (H2.out.trans (hb3.mono H2.out.size)); clear hb3))
        go_ret2
        exact ⟨none, 0, rfl, Sl.nil _, H3.out⟩
    have hk2' : k2 = (n : Int) := by rw [hlen]; exact hm2.2
    have hbig : 9 ≤ n := by
      have e3 : k2 = 9 + (rd l 3 + 256 * rd l 4) := by rw [hk2]; unfold kindR; rw [if_pos hok]
      have b3 := rd_byte hl 3 (by have := hok.1; omega)
      have b4 := rd_byte hl 4 (by have := hok.1; omega)
      rw [show ((3 : Nat) : Int) = 3 from rfl] at b3
      rw [show ((4 : Nat) : Int) = 4 from rfl] at b4
      unfold B8 at b3 b4
      omega
    rw [hm2.1, hk2'] at hKi
    have HK := Aside0.mk (fun W hB => hKi W (h.below hB))
    by_cases ho : okO l
    · have e : openR q l = ((l.take (l.length - 4)).drop 5, none) := by unfold openR; rw [if_pos hk, hke, ← hk1, ← hk2]; simp only [Option.isSome_none, Bool.false_eq_true, if_false]; rw [if_pos hm2, if_pos ho]
      obtain ⟨mo4, hmo⟩ : ∃ mo4 : Nat, mo4 = n - 4 := ⟨_, rfl⟩
      have eL : opL l = l.take (l.length - 4) := if_pos ho
      have eE : opE l = none := if_pos ho
      have hlo : (opL l).length = mo4 := by rw [eL, List.length_take]; omega
      have hmm : m = mo4 - 5 := by rw [hm, e]; show ((l.take (l.length - 4)).drop 5).length = _; rw [List.length_drop, ← eL, hlo]
      rw [e, ← eL]
      have hOp : ∀ W, Below w.heap.size w W → Calls Tryd.prog 127 #[.slice A n c] W fun e w' => ∃ A' c', e = .returned (.tuple #[.slice A' mo4 c', .int .i64 0]) ∧ Sl w' A' mo4 c' (opL l) ∧ Below W.heap.size W w' := fun W hB => by
        have := ropened_sl (h.below hB) hl (by omega) mo4 hlo.symm
        rw [eE] at this
        exact this
      have HOp := Aside0.mk hOp
      obtain ⟨i0, hi0, _, hsz, _⟩ := info_parts info5
      have h5 : (5 : Int) ≤ (mo4 : Int) := by omega
      have cutf := fun (A3 : Option Addr) (c3 : Nat) => cut_from (P := Tryd.prog) 47 5 .i64 Tryd.underlying47 hi0 1 hsz A3 mo4 c3 5 (by omega) h5
      simp only [show (5 : Int).toNat = 5 from rfl] at cutf
      have CF := Aside0.mk cutf
      have HM := Aside0.mk (And.intro hmm (show 5 ≤ mo4 by omega))
      clear h hl hn hlen hk e hke hk1 hk2 hKi hm2 hok hk2' hbig ho hmo eL eE hlo hmm hOp hi0 hsz cutf hm
      go_enter Tryd.func101, Tryd.ntmps101
      go_wp2_with (first
        | (go_at_call 126; (with_reducible refine (HK.out _ H2.out).mono ?_); rintro e w3 ⟨rfl, hb3⟩; have H3 := Aside0.mk (H2.out.trans (hb3.mono H2.out.size)); clear hb3)
        | (go_at_call 127; (with_reducible refine (HOp.out _ H3.out).mono ?_); rintro e w4 ⟨A4, c4, rfl, h4, hb4⟩; have H4 := Aside0.mk (And.intro h4 (H3.out.trans (hb4.mono H3.out.size))); have hcut := CF.out A4 c4; obtain ⟨A5, hA5⟩ : ∃ A5, A5 = (if c4 = 5 then A4 else A4.map (·.add (5 * 1))) := ⟨_, rfl⟩; rw [← hA5] at hcut; have HA5 := Lib.hid hA5; clear hA5 h4 hb4))
      go_ret2
      exact ⟨A5, c4 - 5, by rw [HM.out.1]; rfl, by rw [HM.out.1, HA5.out]; exact H4.out.1.drop HM.out.2, H4.out.2⟩
    · have e : openR q l = ([], some 4) := by unfold openR; rw [if_pos hk, hke, ← hk1, ← hk2]; simp only [Option.isSome_none, Bool.false_eq_true, if_false]; rw [if_pos hm2, if_neg ho]
      rw [e] at hm ⊢
      simp only [List.length_nil] at hm
      subst hm
      have eL : opL l = [] := if_neg ho
      have eE : opE l = some 4 := if_neg ho
      have hOp : ∀ W, Below w.heap.size w W → Calls Tryd.prog 127 #[.slice A n c] W fun e w' => ∃ A' c', e = .returned (.tuple #[.slice A' 0 c', .int .i64 4]) ∧ Sl w' A' 0 c' (opL l) ∧ Below W.heap.size W w' := fun W hB => by
        have := ropened_sl (h.below hB) hl (by omega) 0 (by rw [eL]; rfl)
        rw [eE] at this
        exact this
      have HOp := Aside0.mk hOp
      clear h hl hn hlen hk e hke hk1 hk2 hKi hm2 hok hk2' hbig ho eL eE hOp
      go_enter Tryd.func101, Tryd.ntmps101
      go_wp2_with (first
        | (go_at_call 126; (with_reducible refine (HK.out _ H2.out).mono ?_); rintro e w3 ⟨rfl, hb3⟩; have H3 := Aside0.mk (H2.out.trans (hb3.mono H2.out.size)); clear hb3)
        | (go_at_call 127; (with_reducible refine (HOp.out _ H3.out).mono ?_); rintro e w4 ⟨A4, c4, rfl, h4, hb4⟩; have H4 := Aside0.mk (H3.out.trans (hb4.mono H3.out.size)); clear h4 hb4))
      go_ret2
      exact ⟨none, 0, rfl, Sl.nil _, H4.out⟩
end Go.Proofs.YtnlaiiophongmaaDoor.MCb
