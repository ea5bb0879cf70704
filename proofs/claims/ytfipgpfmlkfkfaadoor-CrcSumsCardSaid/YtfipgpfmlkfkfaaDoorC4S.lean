/-
  Chapter 4's contracts; the reference's Opened, walked.
-/
import Derived.Test.YtfipgpfmlkfkfaaDoorC4
import Derived.Lib.SliceRun
import Derived.Deep.DeepCutAuto
import Derived.Deep.CutBlock
namespace Go.Proofs.YtfipgpfmlkfkfaaDoor.MCb
open Go.RowKit Go.Proofs.YtfipgpfmlkfkfaaDoorW.PrintWords Go.Proofs.YtfipgpfmlkfkfaaDoorW.PrintLast Go.Proofs.YtfipgpfmlkfkfaaDoorW.PrintMore
set_option linter.unusedVariables false
set_option linter.unusedSimpArgs false

/-- bytes that can be read there -/
structure Sl (w : World) (A : Option Addr) (n c : Nat) (l : List Int) : Prop where
  rd : (Kd.int .u8).C w A l.length l
  len : n = l.length
  cap : n ≤ c
theorem Sl.below {w w' : World} {A : Option Addr} {n c : Nat} {l : List Int} (h : Sl w A n c l) (hb : Below w.heap.size w w') : Sl w' A n c l := ⟨Kd.C_below h.rd hb, h.len, h.cap⟩
theorem Sl.lt {w : World} {A : Option Addr} {n c : Nat} {l : List Int} (h : Sl w A n c l) {a : Addr} (e : A = some a) (hp : 0 < n) : a.block < w.heap.size := by
  have hR := Kd.reads_of_C (enc := Value.int .u8) (d := (0 : Int)) (h1 := fun _ => rfl) h.rd
  obtain ⟨a', e', hc⟩ := hR.2.2 (by have := h.len; omega)
  obtain rfl := Option.some.inj (e.symm.trans e')
  have h0 := hc 0 (by have := h.len; omega)
  have := block_lt_of_cell h0
  rwa [add_block] at this
theorem Sl.of_R {w : World} {base : Nat} {ok : Nat → Prop} {v : Value} {l : List Int} {m : Nat} (h : Kd.R (Kd.int .u8) 5 w base ok v l) (hm : m = l.length) : ∃ A c, v = .slice A m c ∧ Sl w A m c l := by
  obtain ⟨A, c, rfl⟩ := Kd.R_slice h
  have hr := Kd.R_reads' h
  subst hm
  exact ⟨A, c, rfl, hr.2.2, rfl, hr.2.1⟩
theorem Sl.nil (w : World) : Sl w none 0 0 [] := ⟨⟨rfl, Nat.zero_le _, fun h => absurd h (by simp)⟩, rfl, Nat.le_refl _⟩
theorem conv_run {o : Oper} {a : Act} {w : World} {x : Operand} {A : Option Addr} {n c : Nat} {l : List Int} (ho : o.op = .convert 54 9 x) (hx : a.eval x = .slice A n c) (h : Sl w A n c l) : (execOp a.eval o).run Tryd.prog w = .ok (.value (.string (strOfNums l))) w := by
  have hcv := Kd.C_string (P := Tryd.prog) (A := A) (c := c) Tryd.underlying54 Tryd.underlying5 Tryd.underlying9 h.rd
  rw [← h.len] at hcv
  unfold execOp
  simp only [ho, hx, Sem.run_bind, hcv, Result.andThen_ok, Sem.run_pure]
theorem Sl.takeN {w : World} {A : Option Addr} {n c k : Nat} {l : List Int} (h : Sl w A n c l) (hk : k ≤ n) : Sl w A k c (l.take k) := by
  have hl := h.len
  have hC := Kd.C_take (m := k) h.rd (by omega)
  exact ⟨hC, by rw [List.length_take]; omega, by have := h.cap; omega⟩

theorem sum_sl {w : World} {A : Option Addr} {n c : Nat} {l : List Int} (h : Sl w A n c l) (hl : ∀ x ∈ l, B8 x) (hn : n ≤ 1000) :
    Calls Tryd.prog 28 #[.slice A n c] w fun e w' => e = .returned (.int .u32 (mo 0 l)) ∧ Below w.heap.size w w' := by
  obtain ⟨hC, hn', hc⟩ := h
  subst hn'
  refine (crc_Sum.calls 2000 A c l _ w hC hc (crc_sum_eq 2000 l hl (by omega) (by omega))).mono ?_
  rintro e w' ⟨rfl, hd⟩
  exact ⟨rfl, hd.below⟩
theorem rsum_sl {w : World} {A : Option Addr} {n c : Nat} {l : List Int} (h : Sl w A n c l) (hl : ∀ x ∈ l, B8 x) (hn : n ≤ 1000) :
    Calls Tryd.prog 29 #[.slice A n c] w fun e w' => e = .returned (.int .u32 (mo 0 l)) ∧ Below w.heap.size w w' := by
  obtain ⟨hC, hn', hc⟩ := h
  subst hn'
  refine (fuseeref04_Sum.calls 20000 A c l _ w hC hc (rsum_eq 20000 l hl (by omega) (by omega))).mono ?_
  rintro e w' ⟨rfl, hd⟩
  exact ⟨rfl, hd.below⟩
theorem more_sl {w : World} {A : Option Addr} {n c : Nat} {l : List Int} (s : Int) (hs : U32 s) (h : Sl w A n c l) (hl : ∀ x ∈ l, B8 x) (hn : n ≤ 1000) :
    Calls Tryd.prog 30 #[.int .u32 s, .slice A n c] w fun e w' => e = .returned (.int .u32 (mo s l)) ∧ Below w.heap.size w w' := by
  obtain ⟨hC, hn', hc⟩ := h
  subst hn'
  refine (crc_More.calls 2000 s A c l _ w hC hc (crc_more_eq 2000 s l hs hl (by omega) (by omega))).mono ?_
  rintro e w' ⟨rfl, hd⟩
  exact ⟨rfl, hd.below⟩
theorem sealed_sl {w : World} {A : Option Addr} {n c : Nat} {l : List Int} (h : Sl w A n c l) (hl : ∀ x ∈ l, B8 x) (hn : n ≤ 1000) (m : Nat) (hm : m = n + 4) :
    Calls Tryd.prog 31 #[.slice A n c] w fun e w' => ∃ A' c', e = .returned (.slice A' m c') ∧ Sl w' A' m c' (l ++ le4 (mo 0 l)) ∧ Below w.heap.size w w' := by
  obtain ⟨hC, hn', hc⟩ := h
  subst hn'
  refine (crc_Sealed.calls 2000 (fun k => k < w.heap.size) A c l _ w (Kd.V_mk hc (Kd.C_F (Kd.heap_int .u8) hC)) (sealed_eq 2000 l hl (by omega) (by omega))).mono ?_
  rintro e w' ⟨v, rfl, hR, hb⟩
  obtain ⟨A', c', rfl, hS⟩ := Sl.of_R hR (m := m) (by rw [hm]; simp [le4])
  exact ⟨A', c', rfl, hS, hb⟩
theorem rsealed_sl {w : World} {A : Option Addr} {n c : Nat} {l : List Int} (h : Sl w A n c l) (hl : ∀ x ∈ l, B8 x) (hn : n ≤ 1000) (m : Nat) (hm : m = n + 4) :
    Calls Tryd.prog 32 #[.slice A n c] w fun e w' => ∃ A' c', e = .returned (.slice A' m c') ∧ Sl w' A' m c' (l ++ le4 (mo 0 l)) ∧ Below w.heap.size w w' := by
  obtain ⟨hC, hn', hc⟩ := h
  subst hn'
  refine (fuseeref04_Sealed.calls 20000 A c l _ w hC hc (rsealed_eq 20000 l hl (by omega) (by omega))).mono ?_
  rintro e w' ⟨v, rfl, hR, hb⟩
  obtain ⟨A', c', rfl, hS⟩ := Sl.of_R hR (m := m) (by rw [hm]; simp [le4])
  exact ⟨A', c', rfl, hS, hb⟩
/-- whether bytes are sealed -/
def okO (l : List Int) : Prop := 4 ≤ l.length ∧ l.take (l.length - 4) ++ le4 (mo 0 (l.take (l.length - 4))) = l
instance (l : List Int) : Decidable (okO l) := by unfold okO; infer_instance
/-- the bytes ahead of their sum -/
def opL (l : List Int) : List Int := if okO l then l.take (l.length - 4) else []
def opE (l : List Int) : Option Int := if okO l then none else some 4
theorem opened_sl {w : World} {A : Option Addr} {n c : Nat} {l : List Int} (h : Sl w A n c l) (hl : ∀ x ∈ l, B8 x) (hn : n ≤ 1000) (m : Nat) (hm : m = (opL l).length) :
    Calls Tryd.prog 26 #[.slice A n c] w fun e w' => ∃ A' c', e = .returned (.tuple #[.slice A' m c', errV (opE l)]) ∧ Sl w' A' m c' (opL l) ∧ Below w.heap.size w w' := by
  obtain ⟨hC, hn', hc⟩ := h
  subst hn'
  have ho : crc_Opened.f 2000 l = some (opL l, opE l) := by
    rw [opened_eq 2000 l hl (by omega) (by omega)]
    by_cases q : okO l
    · rw [if_pos (by exact q)]; unfold opL opE; rw [if_pos q, if_pos q]
    · rw [if_neg (by exact q)]; unfold opL opE; rw [if_neg q, if_neg q]
  refine (crc_Opened.calls 2000 A c l _ _ w hC hc ho).mono ?_
  rintro e w' ⟨v, rfl, hR, hb⟩
  obtain ⟨A', c', rfl, hS⟩ := Sl.of_R hR hm
  exact ⟨A', c', by cases opE l <;> rfl, hS, hb⟩
set_option maxRecDepth 100000 in
set_option maxHeartbeats 4000000 in
theorem ropened_sl {w : World} {A : Option Addr} {n c : Nat} {l : List Int} (h0 : Sl w A n c l) (hl : ∀ x ∈ l, B8 x) (hn : n ≤ 1000) (mm : Nat) (hmm : mm = (opL l).length) :
    Calls Tryd.prog 27 #[.slice A n c] w fun e w' => ∃ A' c', e = .returned (.tuple #[.slice A' mm c', .int .i64 (numE (opE l))]) ∧ Sl w' A' mm c' (opL l) ∧ Below w.heap.size w w' := by
  have hlen := h0.len
  by_cases h4 : n < 4
  · have hno : ¬ okO l := fun q => by have := q.1; omega
    have e1 : opL l = [] := if_neg hno
    have e2 : opE l = some 4 := if_neg hno
    rw [e1] at hmm ⊢
    rw [e2]
    simp only [List.length_nil] at hmm
    subst hmm
    have hq : decide ((n : Int) - 4 < 0) = true := decide_eq_true (by omega)
    clear h0 hl hlen h4 hno e1 e2
    go_enter Tryd.func27, Tryd.ntmps27
    go_wp2
    go_region
    go_wp2
    go_ret2
    exact ⟨none, 0, rfl, Sl.nil _, (Below.refl _ _).drew⟩
  · obtain ⟨m, hm⟩ : ∃ m, m = n - 4 := ⟨_, rfl⟩
    have hw : (n : Int) - 4 = (m : Int) := by omega
    have hw2 : wrap64 (m : Int) = (m : Int) := by unfold wrap64; omega
    have hm0 : (0 : Int) ≤ (m : Int) := by omega
    have hmn : (m : Int) ≤ (n : Int) := by omega
    have hlt : ¬ (m : Int) < 0 := by omega
    obtain ⟨i0, hi0, _, hsz, _⟩ := info_parts info5
    have cut := cut_to (P := Tryd.prog) 54 5 .i64 Tryd.underlying54 hi0 A n c (m : Int) hm0 hmn h0.cap
    simp only [Int.toNat_natCast] at cut
    obtain ⟨X, hX⟩ : ∃ X : List Int, X = l.take m ++ le4 (mo 0 (l.take m)) := ⟨_, rfl⟩
    obtain ⟨mX, hmX⟩ : ∃ mX : Nat, mX = m + 4 := ⟨_, rfl⟩
    have hlt8 : ∀ x ∈ l.take m, B8 x := fun x hx => hl x (List.mem_of_mem_take hx)
    have hSe : ∀ W, Sl W A n c l → Calls Tryd.prog 32 #[.slice A m c] W fun e w' => ∃ A' c', e = .returned (.slice A' mX c') ∧ Sl w' A' mX c' X ∧ Below W.heap.size W w' := fun W hW => by
      rw [hX]; exact rsealed_sl (hW.takeN (by omega)) hlt8 (by omega) mX hmX
    have hX8 : ∀ x ∈ X, B8 x := fun x hx => by
      rw [hX] at hx
      rcases List.mem_append.1 hx with q | q
      · exact hlt8 x q
      · exact le4_byte _ x q
    have hmm2 : Aside0 (m = l.length - 4) := ⟨by omega⟩
    have hno4 : Aside0 (4 ≤ l.length) := ⟨by omega⟩
    by_cases he : X = l
    · have hok : okO l := ⟨hno4.out, by rw [← hmm2.out, ← hX]; exact he⟩
      have e1 : opL l = l.take m := by rw [hmm2.out]; exact if_pos hok
      have e2 : opE l = none := if_pos hok
      have hmv : mm = m := by rw [hmm, e1, List.length_take]; omega
      rw [e1, e2, hmv]
      have hq : ((strOfNums X).toList == (strOfNums l).toList) = true := by rw [he]; exact beq_self_eq_true _
      have h := Aside0.mk h0
      have HE := Aside0.mk (show m ≤ n by omega)
      clear h0 hl hlen h4 hm hX hmX hlt8 hX8 he hok e1 e2 hmv hmm hi0 hsz hn
      go_enter Tryd.func27, Tryd.ntmps27
      go_upto_region 2 with (fail)
      refine start_ (n := 12) (S := fun w' => Below w.heap.size w w' ∧ Sl w' A n c l) (ds := []) #[false, false, false, false, false, false, false, false, false, false, false, false] (by kernel_rfl) rfl rfl ⟨(Below.refl _ _).drew, (h.out.below (Below.refl _ _).drew)⟩ (fun hHeld => ?_)
      refine pure_ (i := 0) (N := some 8) (v := ?_) (a' := ?_) #[true, false, false, false, false, false, false, false, false, false, false, false] rfl rfl (by kernel_rfl) (fun _ _ _ h => h) (Or.inl ⟨by rfl, ?_⟩) ?_ ?_
      rotate_left
      · intro w'
        go_simp
        with_reducible rfl
      rotate_left
      · simp only [Act.put, List.setIfInBounds_toArray, List.set_cons_zero, List.set_cons_succ, i64_w, i32_w]
        rfl
      refine pure_ (i := 1) (N := some 9) (v := ?_) (a' := ?_) #[true, true, false, false, false, false, false, false, false, false, false, false] rfl rfl (by kernel_rfl) (fun _ _ _ h => h) (Or.inl ⟨by rfl, ?_⟩) ?_ ?_
      rotate_left
      · intro w'
        go_simp
        with_reducible rfl
      rotate_left
      · simp only [Act.put, List.setIfInBounds_toArray, List.set_cons_zero, List.set_cons_succ, i64_w, i32_w]
        rfl
      refine pure_ (i := 2) (N := some 10) (v := ?_) (a' := ?_) #[true, true, true, false, false, false, false, false, false, false, false, false] rfl rfl (by kernel_rfl) (fun _ _ _ h => h) (Or.inl ⟨by rfl, ?_⟩) ?_ ?_
      rotate_left
      · intro w'
        go_simp
        with_reducible rfl
      rotate_left
      · simp only [Act.put, List.setIfInBounds_toArray, List.set_cons_zero, List.set_cons_succ, i64_w, i32_w]
        rfl
      refine pure_ (i := 3) (N := some 11) (v := ?_) (a' := ?_) #[true, true, true, true, false, false, false, false, false, false, false, false] rfl rfl (by kernel_rfl) (fun _ _ _ h => h) (Or.inl ⟨by rfl, ?_⟩) ?_ ?_
      rotate_left
      · intro w'
        go_simp
        with_reducible rfl
      rotate_left
      · simp only [Act.put, List.setIfInBounds_toArray, List.set_cons_zero, List.set_cons_succ, i64_w, i32_w]
        rfl
      refine pure_ (i := 4) (N := some 12) (v := ?_) (a' := ?_) #[true, true, true, true, true, false, false, false, false, false, false, false] rfl rfl (by kernel_rfl) (fun _ _ _ h => h) (Or.inl ⟨by rfl, ?_⟩) ?_ ?_
      rotate_left
      · intro w'
        go_simp
        with_reducible rfl
      rotate_left
      · simp only [Act.put, List.setIfInBounds_toArray, List.set_cons_zero, List.set_cons_succ, i64_w, i32_w]
        rfl
      refine pure_ (i := 5) (N := some 13) (v := ?_) (a' := ?_) #[true, true, true, true, true, true, false, false, false, false, false, false] rfl rfl (by kernel_rfl) (fun _ _ _ h => h) (Or.inl ⟨by rfl, ?_⟩) ?_ ?_
      rotate_left
      · intro w'
        go_simp
        with_reducible rfl
      rotate_left
      · simp only [Act.put, List.setIfInBounds_toArray, List.set_cons_zero, List.set_cons_succ, i64_w, i32_w]
        rfl
      refine pure_ (i := 8) (N := some 16) (v := ?_) (a' := ?_) #[true, true, true, true, true, true, false, false, true, false, false, false] rfl rfl (by kernel_rfl) (fun _ _ _ h => h) (Or.inl ⟨by rfl, ?_⟩) ?_ ?_
      rotate_left
      · intro w'
        go_simp
        with_reducible rfl
      rotate_left
      · simp only [Act.put, List.setIfInBounds_toArray, List.set_cons_zero, List.set_cons_succ, i64_w, i32_w]
        rfl
      refine join_ (σ := Option Addr × Nat) 2 #[true, true, true, true, true, true, true, true, true, true, false, false] (fun s_ => [(14, .slice s_.1 mX s_.2), (15, .string (strOfNums (X))), (17, .string (strOfNums (l)))]) (fun s_ w' => Below w.heap.size w w' ∧ Sl w' A n c l) ?_ ?_
      rotate_left
      · intro hCont
        refine two_ (i := 6) (j := 9) (Ni := some 14) (Nj := some 17) #[true, true, true, true, true, true, true, false, true, false, false, false] #[true, true, true, true, true, true, false, false, true, true, false, false] rfl rfl rfl rfl (by kernel_rfl) (by decide) (by decide) (fun K hK => ?_) (fun K hK => ?_)
        · skip
          refine goes_ Tryd.func32 (by kernel_rfl) rfl #[.slice A m c] (by rfl) rfl rfl (by simp only [List.map_toArray, List.map_cons, List.map_nil]; rfl) ?_
          with_reducible refine (hSe _ hHeld.2).mono ?_
          rintro e w6 ⟨A6, c6, rfl, h6, hb6⟩
          refine ⟨_, rfl, ?_⟩
          refine hK.out _ _ ⟨(hHeld.1.trans (hb6.mono hHeld.1.size)), (hHeld.2.below hb6)⟩ (fun hHeld => ?_)
          clear hK K
          refine norm_ (a' := ?_) ?_ ?_
          rotate_left
          · show Act.put _ (some 14) _ = _
            simp only [Act.put, List.setIfInBounds_toArray, List.set_cons_zero, List.set_cons_succ, i64_w, i32_w]
            rfl
          refine two_ (i := 7) (j := 9) (Ni := some 15) (Nj := some 17) #[true, true, true, true, true, true, true, true, true, false, false, false] #[true, true, true, true, true, true, true, false, true, true, false, false] rfl rfl rfl rfl (by kernel_rfl) (by decide) (by decide) (fun K hK => ?_) (fun K hK => ?_)
          · skip
            refine value_ (v := .string (strOfNums (X))) (by rfl) rfl (conv_run (x := Operand.tmp 14) ?_ ?_ h6) ?_
            · rfl
            · rfl
            refine hK.out _ _ ⟨hHeld.1, hHeld.2⟩ (fun hHeld => ?_)
            clear hK K
            refine norm_ (a' := ?_) ?_ ?_
            rotate_left
            · show Act.put _ (some 15) _ = _
              simp only [Act.put, List.setIfInBounds_toArray, List.set_cons_zero, List.set_cons_succ, i64_w, i32_w]
              rfl
            refine one_ (i := 9) (N := some 17) #[true, true, true, true, true, true, true, true, true, true, false, false] rfl rfl (by kernel_rfl) (by decide) (fun K hK => ?_)
            refine value_ (v := .string (strOfNums (l))) (by rfl) rfl (conv_run (x := Operand.tmp 16) ?_ ?_ hHeld.2) ?_
            · rfl
            · rfl
            refine hK.out _ _ ⟨hHeld.1, hHeld.2⟩ (fun hHeld => ?_)
            clear hK K
            refine norm_ (a' := ?_) ?_ ?_
            rotate_left
            · show Act.put _ (some 17) _ = _
              simp only [Act.put, List.setIfInBounds_toArray, List.set_cons_zero, List.set_cons_succ, i64_w, i32_w]
              rfl
            exact norm_ (by simp only [putAll, Act.put, List.setIfInBounds_toArray, List.set_cons_zero, List.set_cons_succ]) (hCont (A6, c6) _ hHeld)
          · skip
            refine value_ (v := .string (strOfNums (l))) (by rfl) rfl (conv_run (x := Operand.tmp 16) ?_ ?_ hHeld.2) ?_
            · rfl
            · rfl
            refine hK.out _ _ ⟨hHeld.1, hHeld.2⟩ (fun hHeld => ?_)
            clear hK K
            refine norm_ (a' := ?_) ?_ ?_
            rotate_left
            · show Act.put _ (some 17) _ = _
              simp only [Act.put, List.setIfInBounds_toArray, List.set_cons_zero, List.set_cons_succ, i64_w, i32_w]
              rfl
            refine one_ (i := 7) (N := some 15) #[true, true, true, true, true, true, true, true, true, true, false, false] rfl rfl (by kernel_rfl) (by decide) (fun K hK => ?_)
            refine value_ (v := .string (strOfNums (X))) (by rfl) rfl (conv_run (x := Operand.tmp 14) ?_ ?_ h6) ?_
            · rfl
            · rfl
            refine hK.out _ _ ⟨hHeld.1, hHeld.2⟩ (fun hHeld => ?_)
            clear hK K
            refine norm_ (a' := ?_) ?_ ?_
            rotate_left
            · show Act.put _ (some 15) _ = _
              simp only [Act.put, List.setIfInBounds_toArray, List.set_cons_zero, List.set_cons_succ, i64_w, i32_w]
              rfl
            exact norm_ (by simp only [putAll, Act.put, List.setIfInBounds_toArray, List.set_cons_zero, List.set_cons_succ]) (hCont (A6, c6) _ hHeld)
        · skip
          refine value_ (v := .string (strOfNums (l))) (by rfl) rfl (conv_run (x := Operand.tmp 16) ?_ ?_ hHeld.2) ?_
          · rfl
          · rfl
          refine hK.out _ _ ⟨hHeld.1, hHeld.2⟩ (fun hHeld => ?_)
          clear hK K
          refine norm_ (a' := ?_) ?_ ?_
          rotate_left
          · show Act.put _ (some 17) _ = _
            simp only [Act.put, List.setIfInBounds_toArray, List.set_cons_zero, List.set_cons_succ, i64_w, i32_w]
            rfl
          refine one_ (i := 6) (N := some 14) #[true, true, true, true, true, true, true, false, true, true, false, false] rfl rfl (by kernel_rfl) (by decide) (fun K hK => ?_)
          refine goes_ Tryd.func32 (by kernel_rfl) rfl #[.slice A m c] (by rfl) rfl rfl (by simp only [List.map_toArray, List.map_cons, List.map_nil]; rfl) ?_
          with_reducible refine (hSe _ hHeld.2).mono ?_
          rintro e w6 ⟨A6, c6, rfl, h6, hb6⟩
          refine ⟨_, rfl, ?_⟩
          refine hK.out _ _ ⟨(hHeld.1.trans (hb6.mono hHeld.1.size)), (hHeld.2.below hb6)⟩ (fun hHeld => ?_)
          clear hK K
          refine norm_ (a' := ?_) ?_ ?_
          rotate_left
          · show Act.put _ (some 14) _ = _
            simp only [Act.put, List.setIfInBounds_toArray, List.set_cons_zero, List.set_cons_succ, i64_w, i32_w]
            rfl
          refine one_ (i := 7) (N := some 15) #[true, true, true, true, true, true, true, true, true, true, false, false] rfl rfl (by kernel_rfl) (by decide) (fun K hK => ?_)
          refine value_ (v := .string (strOfNums (X))) (by rfl) rfl (conv_run (x := Operand.tmp 14) ?_ ?_ h6) ?_
          · rfl
          · rfl
          refine hK.out _ _ ⟨hHeld.1, hHeld.2⟩ (fun hHeld => ?_)
          clear hK K
          refine norm_ (a' := ?_) ?_ ?_
          rotate_left
          · show Act.put _ (some 15) _ = _
            simp only [Act.put, List.setIfInBounds_toArray, List.set_cons_zero, List.set_cons_succ, i64_w, i32_w]
            rfl
          exact norm_ (by simp only [putAll, Act.put, List.setIfInBounds_toArray, List.set_cons_zero, List.set_cons_succ]) (hCont (A6, c6) _ hHeld)
      rintro ⟨A6, c6⟩ w6 hHeld
      refine norm_ (a' := ?_) ?_ ?_
      rotate_left
      · simp only [putAll, Act.put, List.setIfInBounds_toArray, List.set_cons_zero, List.set_cons_succ]
        rfl
      refine pure_ (i := 10) (N := some 18) (v := ?_) (a' := ?_) #[true, true, true, true, true, true, true, true, true, true, true, false] rfl rfl (by kernel_rfl) (fun _ _ _ h => h) (Or.inl ⟨by rfl, ?_⟩) ?_ ?_
      rotate_left
      · intro w'
        go_simp
        with_reducible rfl
      rotate_left
      · simp only [Act.put, List.setIfInBounds_toArray, List.set_cons_zero, List.set_cons_succ, i64_w, i32_w]
        rfl
      refine pure_ (i := 11) (N := some 19) (v := ?_) (a' := ?_) #[true, true, true, true, true, true, true, true, true, true, true, true] rfl rfl (by kernel_rfl) (fun _ _ _ h => h) (Or.inl ⟨by rfl, ?_⟩) ?_ ?_
      rotate_left
      · intro w'
        go_simp
        with_reducible rfl
      rotate_left
      · simp only [Act.put, List.setIfInBounds_toArray, List.set_cons_zero, List.set_cons_succ, i64_w, i32_w]
        rfl
      refine done_ (by kernel_rfl) ?_
      have HH := Aside0.mk hHeld
      clear hHeld
      go_wp2_with (fail)
      go_ret2
      exact ⟨A, c, rfl, HH.out.2.takeN HE.out, HH.out.1⟩
    · have hno : ¬ okO l := fun q => he (by rw [hX, hmm2.out]; exact q.2)
      have e1 : opL l = [] := if_neg hno
      have e2 : opE l = some 4 := if_neg hno
      have hmv : mm = 0 := by rw [hmm, e1]; rfl
      rw [e1, e2, hmv]
      have hq : ((strOfNums X).toList == (strOfNums l).toList) = false := by
        rw [ByteArray.toList_eq, ByteArray.toList_eq, beq_eq_false_iff_ne]
        intro q
        exact he (str_inj hX8 hl (ByteArray.ext (Array.toList_inj.1 q)))
      have h := Aside0.mk h0
      clear h0 hl hlen h4 hm hX hmX hlt8 hX8 he hno e1 e2 hmv hmm hi0 hsz hn
      go_enter Tryd.func27, Tryd.ntmps27
      go_upto_region 2 with (fail)
      refine start_ (n := 12) (S := fun w' => Below w.heap.size w w' ∧ Sl w' A n c l) (ds := []) #[false, false, false, false, false, false, false, false, false, false, false, false] (by kernel_rfl) rfl rfl ⟨(Below.refl _ _).drew, (h.out.below (Below.refl _ _).drew)⟩ (fun hHeld => ?_)
      refine pure_ (i := 0) (N := some 8) (v := ?_) (a' := ?_) #[true, false, false, false, false, false, false, false, false, false, false, false] rfl rfl (by kernel_rfl) (fun _ _ _ h => h) (Or.inl ⟨by rfl, ?_⟩) ?_ ?_
      rotate_left
      · intro w'
        go_simp
        with_reducible rfl
      rotate_left
      · simp only [Act.put, List.setIfInBounds_toArray, List.set_cons_zero, List.set_cons_succ, i64_w, i32_w]
        rfl
      refine pure_ (i := 1) (N := some 9) (v := ?_) (a' := ?_) #[true, true, false, false, false, false, false, false, false, false, false, false] rfl rfl (by kernel_rfl) (fun _ _ _ h => h) (Or.inl ⟨by rfl, ?_⟩) ?_ ?_
      rotate_left
      · intro w'
        go_simp
        with_reducible rfl
      rotate_left
      · simp only [Act.put, List.setIfInBounds_toArray, List.set_cons_zero, List.set_cons_succ, i64_w, i32_w]
        rfl
      refine pure_ (i := 2) (N := some 10) (v := ?_) (a' := ?_) #[true, true, true, false, false, false, false, false, false, false, false, false] rfl rfl (by kernel_rfl) (fun _ _ _ h => h) (Or.inl ⟨by rfl, ?_⟩) ?_ ?_
      rotate_left
      · intro w'
        go_simp
        with_reducible rfl
      rotate_left
      · simp only [Act.put, List.setIfInBounds_toArray, List.set_cons_zero, List.set_cons_succ, i64_w, i32_w]
        rfl
      refine pure_ (i := 3) (N := some 11) (v := ?_) (a' := ?_) #[true, true, true, true, false, false, false, false, false, false, false, false] rfl rfl (by kernel_rfl) (fun _ _ _ h => h) (Or.inl ⟨by rfl, ?_⟩) ?_ ?_
      rotate_left
      · intro w'
        go_simp
        with_reducible rfl
      rotate_left
      · simp only [Act.put, List.setIfInBounds_toArray, List.set_cons_zero, List.set_cons_succ, i64_w, i32_w]
        rfl
      refine pure_ (i := 4) (N := some 12) (v := ?_) (a' := ?_) #[true, true, true, true, true, false, false, false, false, false, false, false] rfl rfl (by kernel_rfl) (fun _ _ _ h => h) (Or.inl ⟨by rfl, ?_⟩) ?_ ?_
      rotate_left
      · intro w'
        go_simp
        with_reducible rfl
      rotate_left
      · simp only [Act.put, List.setIfInBounds_toArray, List.set_cons_zero, List.set_cons_succ, i64_w, i32_w]
        rfl
      refine pure_ (i := 5) (N := some 13) (v := ?_) (a' := ?_) #[true, true, true, true, true, true, false, false, false, false, false, false] rfl rfl (by kernel_rfl) (fun _ _ _ h => h) (Or.inl ⟨by rfl, ?_⟩) ?_ ?_
      rotate_left
      · intro w'
        go_simp
        with_reducible rfl
      rotate_left
      · simp only [Act.put, List.setIfInBounds_toArray, List.set_cons_zero, List.set_cons_succ, i64_w, i32_w]
        rfl
      refine pure_ (i := 8) (N := some 16) (v := ?_) (a' := ?_) #[true, true, true, true, true, true, false, false, true, false, false, false] rfl rfl (by kernel_rfl) (fun _ _ _ h => h) (Or.inl ⟨by rfl, ?_⟩) ?_ ?_
      rotate_left
      · intro w'
        go_simp
        with_reducible rfl
      rotate_left
      · simp only [Act.put, List.setIfInBounds_toArray, List.set_cons_zero, List.set_cons_succ, i64_w, i32_w]
        rfl
      refine join_ (σ := Option Addr × Nat) 2 #[true, true, true, true, true, true, true, true, true, true, false, false] (fun s_ => [(14, .slice s_.1 mX s_.2), (15, .string (strOfNums (X))), (17, .string (strOfNums (l)))]) (fun s_ w' => Below w.heap.size w w' ∧ Sl w' A n c l) ?_ ?_
      rotate_left
      · intro hCont
        refine two_ (i := 6) (j := 9) (Ni := some 14) (Nj := some 17) #[true, true, true, true, true, true, true, false, true, false, false, false] #[true, true, true, true, true, true, false, false, true, true, false, false] rfl rfl rfl rfl (by kernel_rfl) (by decide) (by decide) (fun K hK => ?_) (fun K hK => ?_)
        · skip
          refine goes_ Tryd.func32 (by kernel_rfl) rfl #[.slice A m c] (by rfl) rfl rfl (by simp only [List.map_toArray, List.map_cons, List.map_nil]; rfl) ?_
          with_reducible refine (hSe _ hHeld.2).mono ?_
          rintro e w6 ⟨A6, c6, rfl, h6, hb6⟩
          refine ⟨_, rfl, ?_⟩
          refine hK.out _ _ ⟨(hHeld.1.trans (hb6.mono hHeld.1.size)), (hHeld.2.below hb6)⟩ (fun hHeld => ?_)
          clear hK K
          refine norm_ (a' := ?_) ?_ ?_
          rotate_left
          · show Act.put _ (some 14) _ = _
            simp only [Act.put, List.setIfInBounds_toArray, List.set_cons_zero, List.set_cons_succ, i64_w, i32_w]
            rfl
          refine two_ (i := 7) (j := 9) (Ni := some 15) (Nj := some 17) #[true, true, true, true, true, true, true, true, true, false, false, false] #[true, true, true, true, true, true, true, false, true, true, false, false] rfl rfl rfl rfl (by kernel_rfl) (by decide) (by decide) (fun K hK => ?_) (fun K hK => ?_)
          · skip
            refine value_ (v := .string (strOfNums (X))) (by rfl) rfl (conv_run (x := Operand.tmp 14) ?_ ?_ h6) ?_
            · rfl
            · rfl
            refine hK.out _ _ ⟨hHeld.1, hHeld.2⟩ (fun hHeld => ?_)
            clear hK K
            refine norm_ (a' := ?_) ?_ ?_
            rotate_left
            · show Act.put _ (some 15) _ = _
              simp only [Act.put, List.setIfInBounds_toArray, List.set_cons_zero, List.set_cons_succ, i64_w, i32_w]
              rfl
            refine one_ (i := 9) (N := some 17) #[true, true, true, true, true, true, true, true, true, true, false, false] rfl rfl (by kernel_rfl) (by decide) (fun K hK => ?_)
            refine value_ (v := .string (strOfNums (l))) (by rfl) rfl (conv_run (x := Operand.tmp 16) ?_ ?_ hHeld.2) ?_
            · rfl
            · rfl
            refine hK.out _ _ ⟨hHeld.1, hHeld.2⟩ (fun hHeld => ?_)
            clear hK K
            refine norm_ (a' := ?_) ?_ ?_
            rotate_left
            · show Act.put _ (some 17) _ = _
              simp only [Act.put, List.setIfInBounds_toArray, List.set_cons_zero, List.set_cons_succ, i64_w, i32_w]
              rfl
            exact norm_ (by simp only [putAll, Act.put, List.setIfInBounds_toArray, List.set_cons_zero, List.set_cons_succ]) (hCont (A6, c6) _ hHeld)
          · skip
            refine value_ (v := .string (strOfNums (l))) (by rfl) rfl (conv_run (x := Operand.tmp 16) ?_ ?_ hHeld.2) ?_
            · rfl
            · rfl
            refine hK.out _ _ ⟨hHeld.1, hHeld.2⟩ (fun hHeld => ?_)
            clear hK K
            refine norm_ (a' := ?_) ?_ ?_
            rotate_left
            · show Act.put _ (some 17) _ = _
              simp only [Act.put, List.setIfInBounds_toArray, List.set_cons_zero, List.set_cons_succ, i64_w, i32_w]
              rfl
            refine one_ (i := 7) (N := some 15) #[true, true, true, true, true, true, true, true, true, true, false, false] rfl rfl (by kernel_rfl) (by decide) (fun K hK => ?_)
            refine value_ (v := .string (strOfNums (X))) (by rfl) rfl (conv_run (x := Operand.tmp 14) ?_ ?_ h6) ?_
            · rfl
            · rfl
            refine hK.out _ _ ⟨hHeld.1, hHeld.2⟩ (fun hHeld => ?_)
            clear hK K
            refine norm_ (a' := ?_) ?_ ?_
            rotate_left
            · show Act.put _ (some 15) _ = _
              simp only [Act.put, List.setIfInBounds_toArray, List.set_cons_zero, List.set_cons_succ, i64_w, i32_w]
              rfl
            exact norm_ (by simp only [putAll, Act.put, List.setIfInBounds_toArray, List.set_cons_zero, List.set_cons_succ]) (hCont (A6, c6) _ hHeld)
        · skip
          refine value_ (v := .string (strOfNums (l))) (by rfl) rfl (conv_run (x := Operand.tmp 16) ?_ ?_ hHeld.2) ?_
          · rfl
          · rfl
          refine hK.out _ _ ⟨hHeld.1, hHeld.2⟩ (fun hHeld => ?_)
          clear hK K
          refine norm_ (a' := ?_) ?_ ?_
          rotate_left
          · show Act.put _ (some 17) _ = _
            simp only [Act.put, List.setIfInBounds_toArray, List.set_cons_zero, List.set_cons_succ, i64_w, i32_w]
            rfl
          refine one_ (i := 6) (N := some 14) #[true, true, true, true, true, true, true, false, true, true, false, false] rfl rfl (by kernel_rfl) (by decide) (fun K hK => ?_)
          refine goes_ Tryd.func32 (by kernel_rfl) rfl #[.slice A m c] (by rfl) rfl rfl (by simp only [List.map_toArray, List.map_cons, List.map_nil]; rfl) ?_
          with_reducible refine (hSe _ hHeld.2).mono ?_
          rintro e w6 ⟨A6, c6, rfl, h6, hb6⟩
          refine ⟨_, rfl, ?_⟩
          refine hK.out _ _ ⟨(hHeld.1.trans (hb6.mono hHeld.1.size)), (hHeld.2.below hb6)⟩ (fun hHeld => ?_)
          clear hK K
          refine norm_ (a' := ?_) ?_ ?_
          rotate_left
          · show Act.put _ (some 14) _ = _
            simp only [Act.put, List.setIfInBounds_toArray, List.set_cons_zero, List.set_cons_succ, i64_w, i32_w]
            rfl
          refine one_ (i := 7) (N := some 15) #[true, true, true, true, true, true, true, true, true, true, false, false] rfl rfl (by kernel_rfl) (by decide) (fun K hK => ?_)
          refine value_ (v := .string (strOfNums (X))) (by rfl) rfl (conv_run (x := Operand.tmp 14) ?_ ?_ h6) ?_
          · rfl
          · rfl
          refine hK.out _ _ ⟨hHeld.1, hHeld.2⟩ (fun hHeld => ?_)
          clear hK K
          refine norm_ (a' := ?_) ?_ ?_
          rotate_left
          · show Act.put _ (some 15) _ = _
            simp only [Act.put, List.setIfInBounds_toArray, List.set_cons_zero, List.set_cons_succ, i64_w, i32_w]
            rfl
          exact norm_ (by simp only [putAll, Act.put, List.setIfInBounds_toArray, List.set_cons_zero, List.set_cons_succ]) (hCont (A6, c6) _ hHeld)
      rintro ⟨A6, c6⟩ w6 hHeld
      refine norm_ (a' := ?_) ?_ ?_
      rotate_left
      · simp only [putAll, Act.put, List.setIfInBounds_toArray, List.set_cons_zero, List.set_cons_succ]
        rfl
      refine pure_ (i := 10) (N := some 18) (v := ?_) (a' := ?_) #[true, true, true, true, true, true, true, true, true, true, true, false] rfl rfl (by kernel_rfl) (fun _ _ _ h => h) (Or.inl ⟨by rfl, ?_⟩) ?_ ?_
      rotate_left
      · intro w'
        go_simp
        with_reducible rfl
      rotate_left
      · simp only [Act.put, List.setIfInBounds_toArray, List.set_cons_zero, List.set_cons_succ, i64_w, i32_w]
        rfl
      refine pure_ (i := 11) (N := some 19) (v := ?_) (a' := ?_) #[true, true, true, true, true, true, true, true, true, true, true, true] rfl rfl (by kernel_rfl) (fun _ _ _ h => h) (Or.inl ⟨by rfl, ?_⟩) ?_ ?_
      rotate_left
      · intro w'
        go_simp
        with_reducible rfl
      rotate_left
      · simp only [Act.put, List.setIfInBounds_toArray, List.set_cons_zero, List.set_cons_succ, i64_w, i32_w]
        rfl
      refine done_ (by kernel_rfl) ?_
      have HH := Aside0.mk hHeld
      clear hHeld
      go_wp2_with (fail)
      go_ret2
      exact ⟨none, 0, rfl, Sl.nil _, HH.out.1⟩
end Go.Proofs.YtfipgpfmlkfkfaaDoor.MCb
