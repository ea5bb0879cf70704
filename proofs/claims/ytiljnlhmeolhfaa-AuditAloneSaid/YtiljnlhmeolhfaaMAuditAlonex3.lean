/- Printed by wip/gen/mp.py: Go functions as plain Lean functions, and that the calls do what these say. -/
import Derived.Test.YtiljnlhmeolhfaaMAuditAlonex0
import Derived.Test.YtiljnlhmeolhfaaMAuditAlonex2
namespace Go.Proofs.Ytiljnlhmeolhfaa.MAuditAlone
open Go.RowKit Go.Proofs.YtiljnlhmeolhfaaW.PrintWords Go.Proofs.YtiljnlhmeolhfaaW.PrintLast Go.Proofs.YtiljnlhmeolhfaaW.PrintMore
attribute [local go_sem] max2_int min2_int max_two min_two max_three min_three max_four min_four   -- for this text's walks alone
set_option linter.unusedVariables false
set_option linter.unusedSimpArgs false

/-! ### audit_Seen: function 16 -/
set_option maxRecDepth 100000 in
theorem seen1 (x : S46) (name : ByteArray) (gn : Nat) (w : World) (hn : w.heap[gn]? = some (.cells #[.string name] 9 (0, 0))) :
    Calls Try.prog 38 #[.agg #[.int .i64 x.f0, .string x.f1, .bool x.f2, .int .i64 x.f3, .int .i64 x.f4.f0, .int .i64 x.f4.f1, .int .i64 x.f4.f2, .int .i64 x.f4.f3, .bool x.f5, .int .i64 x.f6], .pointer (some ⟨gn, 0, none⟩)] w fun e w' => e = .returned (.bool (!(x.f1.toList == name.toList))) ∧ Below w.heap.size w w' := by
  obtain ⟨w1, hw1⟩ : ∃ w1, w1 = w.alloc (.cells #[.int .i64 x.f0, .string x.f1, .bool x.f2, .int .i64 x.f3, .int .i64 x.f4.f0, .int .i64 x.f4.f1, .int .i64 x.f4.f2, .int .i64 x.f4.f3, .bool x.f5, .int .i64 x.f6] 46) := ⟨_, rfl⟩
  obtain ⟨gk, hgk⟩ : ∃ gk, gk = w.heap.size := ⟨_, rfl⟩
  have hk1 : w1.heap[gk]? = some (.cells #[.int .i64 x.f0, .string x.f1, .bool x.f2, .int .i64 x.f3, .int .i64 x.f4.f0, .int .i64 x.f4.f1, .int .i64 x.f4.f2, .int .i64 x.f4.f3, .bool x.f5, .int .i64 x.f6] 46 (0, 0)) := by rw [hw1, hgk]; exact heap_alloc_new w _
  have hb1 : Below w.heap.size w w1 := by rw [hw1]; exact (Below.refl _ w).alloc (Nat.le_refl _) _
  have hn1 := (hb1.block gn ((Array.getElem?_eq_some_iff.1 hn).1)).trans hn
  have HW := Lib.hid hw1
  have HG := Lib.hid hgk
  have HB := Aside0.mk hb1
  have c1 : w1.cell? ⟨gk, 1, none⟩ = some (.string x.f1) := (blk_cell hk1 1).trans rfl
  have f1 := blk_frozen hk1 1
  have cn : w1.cell? ⟨gn, 0, none⟩ = some (.string name) := (blk_cell hn1 0).trans rfl
  have fn := blk_frozen hn1 0
  clear hw1 hgk hk1 hb1 hn1 hn
  go_enter Try.func38, Try.ntmps38
  go_upto_region 1 with (fail)
  rw [← HW.out, ← HG.out]
  go_wp2
  go_ret
  exact ⟨rfl, HB.out⟩
set_option maxRecDepth 100000 in
theorem coarse1 (x : S46) (name : ByteArray) (gn : Nat) (w : World) (hn : w.heap[gn]? = some (.cells #[.string name] 9 (0, 0))) (q : Bool) (hq : (x.f1.toList == name.toList) = true → quant_Is.f x.f4.f0 x.f3 = some q) :
    Calls Try.prog 41 #[.agg #[.int .i64 x.f0, .string x.f1, .bool x.f2, .int .i64 x.f3, .int .i64 x.f4.f0, .int .i64 x.f4.f1, .int .i64 x.f4.f2, .int .i64 x.f4.f3, .bool x.f5, .int .i64 x.f6], .pointer (some ⟨gn, 0, none⟩)] w fun e w' => e = .returned (.bool ((x.f1.toList == name.toList) && !q)) ∧ Below w.heap.size w w' := by
  obtain ⟨w1, hw1⟩ : ∃ w1, w1 = w.alloc (.cells #[.int .i64 x.f0, .string x.f1, .bool x.f2, .int .i64 x.f3, .int .i64 x.f4.f0, .int .i64 x.f4.f1, .int .i64 x.f4.f2, .int .i64 x.f4.f3, .bool x.f5, .int .i64 x.f6] 46) := ⟨_, rfl⟩
  obtain ⟨gk, hgk⟩ : ∃ gk, gk = w.heap.size := ⟨_, rfl⟩
  have hk1 : w1.heap[gk]? = some (.cells #[.int .i64 x.f0, .string x.f1, .bool x.f2, .int .i64 x.f3, .int .i64 x.f4.f0, .int .i64 x.f4.f1, .int .i64 x.f4.f2, .int .i64 x.f4.f3, .bool x.f5, .int .i64 x.f6] 46 (0, 0)) := by rw [hw1, hgk]; exact heap_alloc_new w _
  have hb1 : Below w.heap.size w w1 := by rw [hw1]; exact (Below.refl _ w).alloc (Nat.le_refl _) _
  have hn1 := (hb1.block gn ((Array.getElem?_eq_some_iff.1 hn).1)).trans hn
  have HW := Lib.hid hw1
  have HG := Lib.hid hgk
  have HB := Aside0.mk hb1
  have c1 : w1.cell? ⟨gk, 1, none⟩ = some (.string x.f1) := (blk_cell hk1 1).trans rfl
  have f1 := blk_frozen hk1 1
  have c3 : w1.cell? ⟨gk, 3, none⟩ = some (.int .i64 x.f3) := (blk_cell hk1 3).trans rfl
  have f3 := blk_frozen hk1 3
  have c4 : w1.cell? ⟨gk, 4, none⟩ = some (.int .i64 x.f4.f0) := (blk_cell hk1 4).trans rfl
  have f4 := blk_frozen hk1 4
  have cn : w1.cell? ⟨gn, 0, none⟩ = some (.string name) := (blk_cell hn1 0).trans rfl
  have fn := blk_frozen hn1 0
  clear hw1 hgk hk1 hb1 hn1 hn
  go_enter Try.func41, Try.ntmps41
  go_upto_region 1 with (fail)
  rw [← HW.out, ← HG.out]
  cases h : (x.f1.toList == name.toList) with
  | false =>
    go_wp2
    go_ret
    exact ⟨by simp [h], HB.out⟩
  | true =>
    have HQ := Lib.hid (hq h)
    clear hq
    go_wp2_with (go_at_call 42; (with_reducible refine (quant_Is.calls _ _ q _ HQ.out).mono ?_); rintro e w2 ⟨rfl, hd⟩; have nB := Aside0.mk (HB.out.trans (hd.below.mono HB.out.size)); clear HB hd; have HB := nB; clear nB)
    go_ret
    exact ⟨by have h_ := beq_iff_eq.mp h; simp [h_], HB.out⟩
set_option maxRecDepth 100000 in
theorem far1 (x : S46) (name : ByteArray) (gn : Nat) (w : World) (hn : w.heap[gn]? = some (.cells #[.string name] 9 (0, 0))) (q : Bool) (hq : (x.f1.toList == name.toList) = true → audit_Event_far.f x.f0 x.f1 x.f2 x.f3 x.f4.f0 x.f4.f1 x.f4.f2 x.f4.f3 x.f5 x.f6 = some q) :
    Calls Try.prog 44 #[.agg #[.int .i64 x.f0, .string x.f1, .bool x.f2, .int .i64 x.f3, .int .i64 x.f4.f0, .int .i64 x.f4.f1, .int .i64 x.f4.f2, .int .i64 x.f4.f3, .bool x.f5, .int .i64 x.f6], .pointer (some ⟨gn, 0, none⟩)] w fun e w' => e = .returned (.bool ((x.f1.toList == name.toList) && (x.f5 && (!x.f2 && q)))) ∧ Below w.heap.size w w' := by
  obtain ⟨w1, hw1⟩ : ∃ w1, w1 = w.alloc (.cells #[.int .i64 x.f0, .string x.f1, .bool x.f2, .int .i64 x.f3, .int .i64 x.f4.f0, .int .i64 x.f4.f1, .int .i64 x.f4.f2, .int .i64 x.f4.f3, .bool x.f5, .int .i64 x.f6] 46) := ⟨_, rfl⟩
  obtain ⟨gk, hgk⟩ : ∃ gk, gk = w.heap.size := ⟨_, rfl⟩
  have hk1 : w1.heap[gk]? = some (.cells #[.int .i64 x.f0, .string x.f1, .bool x.f2, .int .i64 x.f3, .int .i64 x.f4.f0, .int .i64 x.f4.f1, .int .i64 x.f4.f2, .int .i64 x.f4.f3, .bool x.f5, .int .i64 x.f6] 46 (0, 0)) := by rw [hw1, hgk]; exact heap_alloc_new w _
  have hb1 : Below w.heap.size w w1 := by rw [hw1]; exact (Below.refl _ w).alloc (Nat.le_refl _) _
  have hn1 := (hb1.block gn ((Array.getElem?_eq_some_iff.1 hn).1)).trans hn
  have HW := Lib.hid hw1
  have HG := Lib.hid hgk
  have HB := Aside0.mk hb1
  have c0 : w1.cell? ⟨gk, 0, none⟩ = some (.int .i64 x.f0) := (blk_cell hk1 0).trans rfl
  have f0 := blk_frozen hk1 0
  have c1 : w1.cell? ⟨gk, 1, none⟩ = some (.string x.f1) := (blk_cell hk1 1).trans rfl
  have f1 := blk_frozen hk1 1
  have c2 : w1.cell? ⟨gk, 2, none⟩ = some (.bool x.f2) := (blk_cell hk1 2).trans rfl
  have f2 := blk_frozen hk1 2
  have c3 : w1.cell? ⟨gk, 3, none⟩ = some (.int .i64 x.f3) := (blk_cell hk1 3).trans rfl
  have f3 := blk_frozen hk1 3
  have c4 : w1.cell? ⟨gk, 4, none⟩ = some (.int .i64 x.f4.f0) := (blk_cell hk1 4).trans rfl
  have f4 := blk_frozen hk1 4
  have c5 : w1.cell? ⟨gk, 5, none⟩ = some (.int .i64 x.f4.f1) := (blk_cell hk1 5).trans rfl
  have f5 := blk_frozen hk1 5
  have c6 : w1.cell? ⟨gk, 6, none⟩ = some (.int .i64 x.f4.f2) := (blk_cell hk1 6).trans rfl
  have f6 := blk_frozen hk1 6
  have c7 : w1.cell? ⟨gk, 7, none⟩ = some (.int .i64 x.f4.f3) := (blk_cell hk1 7).trans rfl
  have f7 := blk_frozen hk1 7
  have c8 : w1.cell? ⟨gk, 8, none⟩ = some (.bool x.f5) := (blk_cell hk1 8).trans rfl
  have f8 := blk_frozen hk1 8
  have c9 : w1.cell? ⟨gk, 9, none⟩ = some (.int .i64 x.f6) := (blk_cell hk1 9).trans rfl
  have f9 := blk_frozen hk1 9
  have cn : w1.cell? ⟨gn, 0, none⟩ = some (.string name) := (blk_cell hn1 0).trans rfl
  have fn := blk_frozen hn1 0
  clear hw1 hgk hk1 hb1 hn1 hn
  go_enter Try.func44, Try.ntmps44
  go_upto_region 1 with (fail)
  rw [← HW.out, ← HG.out]
  cases h : (x.f1.toList == name.toList) with
  | false =>
    go_wp2
    go_ret
    exact ⟨by simp [h], HB.out⟩
  | true =>
    have hq' := hq h
    clear hq
    cases h5 : x.f5 with
    | false =>
      clear hq'
      go_wp2
      go_ret
      exact ⟨by simp [h, h5], HB.out⟩
    | true =>
      cases h2 : x.f2 with
      | true =>
        clear hq'
        go_wp2
        go_ret
        exact ⟨by simp [h, h5, h2], HB.out⟩
      | false =>
        rw [h5, h2] at hq'
        have HQ := Lib.hid hq'
        clear hq'
        go_wp2_with (go_at_call 45; (with_reducible refine (audit_Event_far.calls _ _ _ _ _ _ _ _ _ _ q _ HQ.out).mono ?_); rintro e w2 ⟨rfl, hd⟩; have nB := Aside0.mk (HB.out.trans (hd.mono HB.out.size)); clear HB hd; have HB := nB; clear nB)
        go_ret
        exact ⟨by simp [h, h5, h2], HB.out⟩
/-- the first that is so: its place, or -1 -/
def idx (p : S46 → Option Bool) : List S46 → Int → Option Int
  | [], _ => some (-1)
  | x :: l, i => (p x).bind fun b => if b = true then some i else idx p l (i + 1)
set_option maxRecDepth 100000 in
set_option maxHeartbeats 2000000 in
theorem index_seen (p : S46 → Option Bool) (gn : Nat) (name : ByteArray)
    (hF : ∀ (x : S46) (b : Bool) (W : World), p x = some b → W.heap[gn]? = some (.cells #[.string name] 9 (0, 0)) → Calls Try.prog 38 #[.agg #[.int .i64 x.f0, .string x.f1, .bool x.f2, .int .i64 x.f3, .int .i64 x.f4.f0, .int .i64 x.f4.f1, .int .i64 x.f4.f2, .int .i64 x.f4.f3, .bool x.f5, .int .i64 x.f6], .pointer (some ⟨gn, 0, none⟩)] W fun e w' => e = .returned (.bool b) ∧ Below W.heap.size W w')
    (A : Option Addr) (c : Nat) (l : List S46) (r : Int) (w : World) (hC : Kd.C k46 w A l.length l) (hc : l.length ≤ c) (hL : l.length ≤ 140737488351232) (hn : w.heap[gn]? = some (.cells #[.string name] 9 (0, 0))) (hr : idx p l 0 = some r) :
    Calls Try.prog 39 #[.slice A l.length c, .func (.func 38) #[] #[.pointer (some ⟨gn, 0, none⟩)]] w fun e w' => e = .returned (.int .i64 r) ∧ Below w.heap.size w w' := by
  have HB := Aside0.mk (Below.refl w.heap.size w)
  have HN := Aside0.mk hn
  have HC := Aside0.mk hC
  have HL := Aside0.mk hL
  have HF := Aside0.mk hF
  have HR := Aside0.mk hr
  clear hn hC hF hr hL
  go_enter Try.func39, Try.ntmps39
  go_wp2_with (fail)
  go_loopw [8] (fun v wr => ∃ (i : Nat) (x : Int), Aside0 (x = i ∧ i ≤ l.length) ∧ v = .int .i64 x ∧ Aside0 (idx p (l.drop i) x = some r) ∧ Aside0 (Below w.heap.size w wr)) (fun v _ => match v with | .int _ x => (l.length - x).toNat | _ => 0)
  case atStart => exact ⟨0, 0, ⟨rfl, Nat.zero_le _⟩, rfl, ⟨by rw [List.drop_zero]; exact HR.out⟩, ⟨by first | exact HB.out | exact HB.out.drew⟩⟩
  case round =>
    clear HB
    obtain ⟨i, x, hi, rfl, hI, hB⟩ := hrel
    by_cases h : x < (l.length : Int)
    · have h0 : 0 ≤ x := by have := hi.out.1; omega
      obtain ⟨ad, eA, q0, q1, q2, q3, q4, q5, q6, q7, q8, q9⟩ := at_T46 (Kd.C_below HC.out hB.out) x h0 h
      cases eA
      have hd := decide_eq_true h
      have p0 := eq_true h0
      have p1 := eq_true h
      have H0 := Aside0.mk (And.intro h0 h)
      have hs : ∃ (y : S46) (t : List S46), rd_T46 l x = y ∧ l.drop i = y :: t ∧ t = l.drop (i + 1) := ⟨_, l.drop (i + 1), rfl, by
        have hx := hi.out.1
        have hl : i < l.length := by omega
        rw [List.drop_eq_getElem_cons hl]
        congr 1
        unfold rd_T46
        rw [show x.toNat = i by omega]
        simp [List.getD, hl], rfl⟩
      obtain ⟨y, t, hy, ht, htt⟩ := hs
      rw [hy] at q0 q1 q2 q3 q4 q5 q6 q7 q8 q9
      rw [ht] at hI
      have HI := hI.out
      simp only [idx] at HI
      cases hp : p y with
      | none => rw [hp] at HI; cases HI
      | some b =>
        rw [hp, Option.bind_some] at HI
        have HP := Aside0.mk hp
        have HI' := Aside0.mk HI
        have HT := Aside0.mk htt
        have hn1 := Aside0.mk ((hB.out.block gn ((Array.getElem?_eq_some_iff.1 HN.out).1)).trans HN.out)
        clear hp HI htt hI ht hy h h0
        cases b with
        | true =>
          go_wp2_with (go_at_call 38; (with_reducible refine (HF.out y _ _ HP.out hn1.out).mono ?_); rintro e w2 ⟨rfl, hb2⟩; have nB := Aside0.mk (hB.out.trans (hb2.mono hB.out.size)); clear hB hb2 hn1; have hB := nB; clear nB)
          go_ret
          refine ⟨?_, hB.out⟩
          have e := HI'.out
          rw [if_pos trivial] at e
          obtain rfl := Option.some.inj e
          rfl
        | false =>
          go_wp2_with (go_at_call 38; (with_reducible refine (HF.out y _ _ HP.out hn1.out).mono ?_); rintro e w2 ⟨rfl, hb2⟩; have nB := Aside0.mk (hB.out.trans (hb2.mono hB.out.size)); clear hB hb2 hn1; have hB := nB; clear nB)
          have h1 := H0.out
          have hw : wrap64 (x + 1) = x + 1 := by have := HL.out; unfold wrap64; omega
          refine ⟨⟨i + 1, x + 1, ⟨by have := hi.out.1; omega, by have := hi.out.1; omega⟩, by rw [hw], ⟨?_⟩, hB⟩, ?_⟩
          · have e := HI'.out
            rw [if_neg (by simp)] at e
            rw [← HT.out]; exact e
          · rw [hw]
            show ((l.length : Int) - (x + 1)).toNat < ((l.length : Int) - x).toNat
            omega
    · have hd := decide_eq_false h
      go_wp2
      go_ret
      refine ⟨?_, hB.out⟩
      have e := hI.out
      rw [List.drop_of_length_le (by have := hi.out.1; omega)] at e
      simp only [idx] at e
      obtain rfl := Option.some.inj e
      rfl
set_option maxRecDepth 100000 in
set_option maxHeartbeats 2000000 in
theorem index_coarse (p : S46 → Option Bool) (gn : Nat) (name : ByteArray)
    (hF : ∀ (x : S46) (b : Bool) (W : World), p x = some b → W.heap[gn]? = some (.cells #[.string name] 9 (0, 0)) → Calls Try.prog 41 #[.agg #[.int .i64 x.f0, .string x.f1, .bool x.f2, .int .i64 x.f3, .int .i64 x.f4.f0, .int .i64 x.f4.f1, .int .i64 x.f4.f2, .int .i64 x.f4.f3, .bool x.f5, .int .i64 x.f6], .pointer (some ⟨gn, 0, none⟩)] W fun e w' => e = .returned (.bool b) ∧ Below W.heap.size W w')
    (A : Option Addr) (c : Nat) (l : List S46) (r : Int) (w : World) (hC : Kd.C k46 w A l.length l) (hc : l.length ≤ c) (hL : l.length ≤ 140737488351232) (hn : w.heap[gn]? = some (.cells #[.string name] 9 (0, 0))) (hr : idx p l 0 = some r) :
    Calls Try.prog 39 #[.slice A l.length c, .func (.func 41) #[] #[.pointer (some ⟨gn, 0, none⟩)]] w fun e w' => e = .returned (.int .i64 r) ∧ Below w.heap.size w w' := by
  have HB := Aside0.mk (Below.refl w.heap.size w)
  have HN := Aside0.mk hn
  have HC := Aside0.mk hC
  have HL := Aside0.mk hL
  have HF := Aside0.mk hF
  have HR := Aside0.mk hr
  clear hn hC hF hr hL
  go_enter Try.func39, Try.ntmps39
  go_wp2_with (fail)
  go_loopw [8] (fun v wr => ∃ (i : Nat) (x : Int), Aside0 (x = i ∧ i ≤ l.length) ∧ v = .int .i64 x ∧ Aside0 (idx p (l.drop i) x = some r) ∧ Aside0 (Below w.heap.size w wr)) (fun v _ => match v with | .int _ x => (l.length - x).toNat | _ => 0)
  case atStart => exact ⟨0, 0, ⟨rfl, Nat.zero_le _⟩, rfl, ⟨by rw [List.drop_zero]; exact HR.out⟩, ⟨by first | exact HB.out | exact HB.out.drew⟩⟩
  case round =>
    clear HB
    obtain ⟨i, x, hi, rfl, hI, hB⟩ := hrel
    by_cases h : x < (l.length : Int)
    · have h0 : 0 ≤ x := by have := hi.out.1; omega
      obtain ⟨ad, eA, q0, q1, q2, q3, q4, q5, q6, q7, q8, q9⟩ := at_T46 (Kd.C_below HC.out hB.out) x h0 h
      cases eA
      have hd := decide_eq_true h
      have p0 := eq_true h0
      have p1 := eq_true h
      have H0 := Aside0.mk (And.intro h0 h)
      have hs : ∃ (y : S46) (t : List S46), rd_T46 l x = y ∧ l.drop i = y :: t ∧ t = l.drop (i + 1) := ⟨_, l.drop (i + 1), rfl, by
        have hx := hi.out.1
        have hl : i < l.length := by omega
        rw [List.drop_eq_getElem_cons hl]
        congr 1
        unfold rd_T46
        rw [show x.toNat = i by omega]
        simp [List.getD, hl], rfl⟩
      obtain ⟨y, t, hy, ht, htt⟩ := hs
      rw [hy] at q0 q1 q2 q3 q4 q5 q6 q7 q8 q9
      rw [ht] at hI
      have HI := hI.out
      simp only [idx] at HI
      cases hp : p y with
      | none => rw [hp] at HI; cases HI
      | some b =>
        rw [hp, Option.bind_some] at HI
        have HP := Aside0.mk hp
        have HI' := Aside0.mk HI
        have HT := Aside0.mk htt
        have hn1 := Aside0.mk ((hB.out.block gn ((Array.getElem?_eq_some_iff.1 HN.out).1)).trans HN.out)
        clear hp HI htt hI ht hy h h0
        cases b with
        | true =>
          go_wp2_with (go_at_call 41; (with_reducible refine (HF.out y _ _ HP.out hn1.out).mono ?_); rintro e w2 ⟨rfl, hb2⟩; have nB := Aside0.mk (hB.out.trans (hb2.mono hB.out.size)); clear hB hb2 hn1; have hB := nB; clear nB)
          go_ret
          refine ⟨?_, hB.out⟩
          have e := HI'.out
          rw [if_pos trivial] at e
          obtain rfl := Option.some.inj e
          rfl
        | false =>
          go_wp2_with (go_at_call 41; (with_reducible refine (HF.out y _ _ HP.out hn1.out).mono ?_); rintro e w2 ⟨rfl, hb2⟩; have nB := Aside0.mk (hB.out.trans (hb2.mono hB.out.size)); clear hB hb2 hn1; have hB := nB; clear nB)
          have h1 := H0.out
          have hw : wrap64 (x + 1) = x + 1 := by have := HL.out; unfold wrap64; omega
          refine ⟨⟨i + 1, x + 1, ⟨by have := hi.out.1; omega, by have := hi.out.1; omega⟩, by rw [hw], ⟨?_⟩, hB⟩, ?_⟩
          · have e := HI'.out
            rw [if_neg (by simp)] at e
            rw [← HT.out]; exact e
          · rw [hw]
            show ((l.length : Int) - (x + 1)).toNat < ((l.length : Int) - x).toNat
            omega
    · have hd := decide_eq_false h
      go_wp2
      go_ret
      refine ⟨?_, hB.out⟩
      have e := hI.out
      rw [List.drop_of_length_le (by have := hi.out.1; omega)] at e
      simp only [idx] at e
      obtain rfl := Option.some.inj e
      rfl
set_option maxRecDepth 100000 in
set_option maxHeartbeats 2000000 in
theorem index_far (p : S46 → Option Bool) (gn : Nat) (name : ByteArray)
    (hF : ∀ (x : S46) (b : Bool) (W : World), p x = some b → W.heap[gn]? = some (.cells #[.string name] 9 (0, 0)) → Calls Try.prog 44 #[.agg #[.int .i64 x.f0, .string x.f1, .bool x.f2, .int .i64 x.f3, .int .i64 x.f4.f0, .int .i64 x.f4.f1, .int .i64 x.f4.f2, .int .i64 x.f4.f3, .bool x.f5, .int .i64 x.f6], .pointer (some ⟨gn, 0, none⟩)] W fun e w' => e = .returned (.bool b) ∧ Below W.heap.size W w')
    (A : Option Addr) (c : Nat) (l : List S46) (r : Int) (w : World) (hC : Kd.C k46 w A l.length l) (hc : l.length ≤ c) (hL : l.length ≤ 140737488351232) (hn : w.heap[gn]? = some (.cells #[.string name] 9 (0, 0))) (hr : idx p l 0 = some r) :
    Calls Try.prog 39 #[.slice A l.length c, .func (.func 44) #[] #[.pointer (some ⟨gn, 0, none⟩)]] w fun e w' => e = .returned (.int .i64 r) ∧ Below w.heap.size w w' := by
  have HB := Aside0.mk (Below.refl w.heap.size w)
  have HN := Aside0.mk hn
  have HC := Aside0.mk hC
  have HL := Aside0.mk hL
  have HF := Aside0.mk hF
  have HR := Aside0.mk hr
  clear hn hC hF hr hL
  go_enter Try.func39, Try.ntmps39
  go_wp2_with (fail)
  go_loopw [8] (fun v wr => ∃ (i : Nat) (x : Int), Aside0 (x = i ∧ i ≤ l.length) ∧ v = .int .i64 x ∧ Aside0 (idx p (l.drop i) x = some r) ∧ Aside0 (Below w.heap.size w wr)) (fun v _ => match v with | .int _ x => (l.length - x).toNat | _ => 0)
  case atStart => exact ⟨0, 0, ⟨rfl, Nat.zero_le _⟩, rfl, ⟨by rw [List.drop_zero]; exact HR.out⟩, ⟨by first | exact HB.out | exact HB.out.drew⟩⟩
  case round =>
    clear HB
    obtain ⟨i, x, hi, rfl, hI, hB⟩ := hrel
    by_cases h : x < (l.length : Int)
    · have h0 : 0 ≤ x := by have := hi.out.1; omega
      obtain ⟨ad, eA, q0, q1, q2, q3, q4, q5, q6, q7, q8, q9⟩ := at_T46 (Kd.C_below HC.out hB.out) x h0 h
      cases eA
      have hd := decide_eq_true h
      have p0 := eq_true h0
      have p1 := eq_true h
      have H0 := Aside0.mk (And.intro h0 h)
      have hs : ∃ (y : S46) (t : List S46), rd_T46 l x = y ∧ l.drop i = y :: t ∧ t = l.drop (i + 1) := ⟨_, l.drop (i + 1), rfl, by
        have hx := hi.out.1
        have hl : i < l.length := by omega
        rw [List.drop_eq_getElem_cons hl]
        congr 1
        unfold rd_T46
        rw [show x.toNat = i by omega]
        simp [List.getD, hl], rfl⟩
      obtain ⟨y, t, hy, ht, htt⟩ := hs
      rw [hy] at q0 q1 q2 q3 q4 q5 q6 q7 q8 q9
      rw [ht] at hI
      have HI := hI.out
      simp only [idx] at HI
      cases hp : p y with
      | none => rw [hp] at HI; cases HI
      | some b =>
        rw [hp, Option.bind_some] at HI
        have HP := Aside0.mk hp
        have HI' := Aside0.mk HI
        have HT := Aside0.mk htt
        have hn1 := Aside0.mk ((hB.out.block gn ((Array.getElem?_eq_some_iff.1 HN.out).1)).trans HN.out)
        clear hp HI htt hI ht hy h h0
        cases b with
        | true =>
          go_wp2_with (go_at_call 44; (with_reducible refine (HF.out y _ _ HP.out hn1.out).mono ?_); rintro e w2 ⟨rfl, hb2⟩; have nB := Aside0.mk (hB.out.trans (hb2.mono hB.out.size)); clear hB hb2 hn1; have hB := nB; clear nB)
          go_ret
          refine ⟨?_, hB.out⟩
          have e := HI'.out
          rw [if_pos trivial] at e
          obtain rfl := Option.some.inj e
          rfl
        | false =>
          go_wp2_with (go_at_call 44; (with_reducible refine (HF.out y _ _ HP.out hn1.out).mono ?_); rintro e w2 ⟨rfl, hb2⟩; have nB := Aside0.mk (hB.out.trans (hb2.mono hB.out.size)); clear hB hb2 hn1; have hB := nB; clear nB)
          have h1 := H0.out
          have hw : wrap64 (x + 1) = x + 1 := by have := HL.out; unfold wrap64; omega
          refine ⟨⟨i + 1, x + 1, ⟨by have := hi.out.1; omega, by have := hi.out.1; omega⟩, by rw [hw], ⟨?_⟩, hB⟩, ?_⟩
          · have e := HI'.out
            rw [if_neg (by simp)] at e
            rw [← HT.out]; exact e
          · rw [hw]
            show ((l.length : Int) - (x + 1)).toNat < ((l.length : Int) - x).toNat
            omega
    · have hd := decide_eq_false h
      go_wp2
      go_ret
      refine ⟨?_, hB.out⟩
      have e := hI.out
      rw [List.drop_of_length_le (by have := hi.out.1; omega)] at e
      simp only [idx] at e
      obtain rfl := Option.some.inj e
      rfl
def coarseP (name : ByteArray) (x : S46) : Option Bool := if (x.f1.toList == name.toList) = true then (quant_Is.f x.f4.f0 x.f3).map (fun q => !q) else some false
set_option maxRecDepth 100000 in
theorem coarse_walk (A : Option Addr) (c : Nat) (l : List S46) (name : ByteArray) (r : Int) (w : World) (hC : Kd.C k46 w A l.length l) (hc : l.length ≤ c) (hL : l.length ≤ 140737488351232) (hr : idx (coarseP name) l 0 = some r) :
    Calls Try.prog 20 #[.slice A l.length c, .string name] w fun e w' => e = .returned (.int .i64 r) ∧ Below w.heap.size w w' := by
  obtain ⟨w1, hw1⟩ : ∃ w1, w1 = w.alloc (.cells #[.string name] 9) := ⟨_, rfl⟩
  obtain ⟨gk, hgk⟩ : ∃ gk, gk = w.heap.size := ⟨_, rfl⟩
  have hk1 : w1.heap[gk]? = some (.cells #[.string name] 9 (0, 0)) := by rw [hw1, hgk]; exact heap_alloc_new w _
  have hb1 : Below w.heap.size w w1 := by rw [hw1]; exact (Below.refl _ w).alloc (Nat.le_refl _) _
  have HW := Lib.hid hw1
  have HG := Lib.hid hgk
  have HB := Aside0.mk hb1
  have hI := index_coarse (coarseP name) gk name (fun x b W hp hn => by
    unfold coarseP at hp
    cases h : (x.f1.toList == name.toList) with
    | false =>
      rw [h, if_neg (by simp)] at hp
      obtain rfl := Option.some.inj hp
      have := coarse1 x name gk W hn true (fun h' => by rw [h] at h'; cases h')
      rw [h] at this; exact this
    | true =>
      rw [h, if_pos rfl] at hp
      obtain ⟨q, hq, rfl⟩ := Option.map_eq_some_iff.1 hp
      have := coarse1 x name gk W hn q (fun _ => hq)
      rw [h] at this; exact this) A c l r w1 (Kd.C_below hC hb1) hc hL hk1 hr
  have HI := Aside0.mk hI
  clear hw1 hgk hk1 hb1 hI hr hC hL
  go_enter Try.func20, Try.ntmps20
  go_upto_region 1 with (fail)
  rw [← HW.out, ← HG.out]
  go_wp2_with (go_at_call 39; (with_reducible refine HI.out.mono ?_); rintro e w2 ⟨rfl, hb2⟩; have nB := Aside0.mk (HB.out.trans (hb2.mono HB.out.size)); clear HB hb2 HI; have HB := nB; clear nB)
  go_ret
  exact ⟨rfl, HB.out⟩
def farP (name : ByteArray) (x : S46) : Option Bool := if (x.f1.toList == name.toList) = true then (audit_Event_far.f x.f0 x.f1 x.f2 x.f3 x.f4.f0 x.f4.f1 x.f4.f2 x.f4.f3 x.f5 x.f6).map (fun q => x.f5 && (!x.f2 && q)) else some false
set_option maxRecDepth 100000 in
theorem far_walk (A : Option Addr) (c : Nat) (l : List S46) (name : ByteArray) (r : Int) (w : World) (hC : Kd.C k46 w A l.length l) (hc : l.length ≤ c) (hL : l.length ≤ 140737488351232) (hr : idx (farP name) l 0 = some r) :
    Calls Try.prog 22 #[.slice A l.length c, .string name] w fun e w' => e = .returned (.int .i64 r) ∧ Below w.heap.size w w' := by
  obtain ⟨w1, hw1⟩ : ∃ w1, w1 = w.alloc (.cells #[.string name] 9) := ⟨_, rfl⟩
  obtain ⟨gk, hgk⟩ : ∃ gk, gk = w.heap.size := ⟨_, rfl⟩
  have hk1 : w1.heap[gk]? = some (.cells #[.string name] 9 (0, 0)) := by rw [hw1, hgk]; exact heap_alloc_new w _
  have hb1 : Below w.heap.size w w1 := by rw [hw1]; exact (Below.refl _ w).alloc (Nat.le_refl _) _
  have HW := Lib.hid hw1
  have HG := Lib.hid hgk
  have HB := Aside0.mk hb1
  have hI := index_far (farP name) gk name (fun x b W hp hn => by
    unfold farP at hp
    cases h : (x.f1.toList == name.toList) with
    | false =>
      rw [h, if_neg (by simp)] at hp
      obtain rfl := Option.some.inj hp
      have := far1 x name gk W hn true (fun h' => by rw [h] at h'; cases h')
      rw [h] at this; exact this
    | true =>
      rw [h, if_pos rfl] at hp
      obtain ⟨q, hq, rfl⟩ := Option.map_eq_some_iff.1 hp
      have := far1 x name gk W hn q (fun _ => hq)
      rw [h] at this; exact this) A c l r w1 (Kd.C_below hC hb1) hc hL hk1 hr
  have HI := Aside0.mk hI
  clear hw1 hgk hk1 hb1 hI hr hC hL
  go_enter Try.func22, Try.ntmps22
  go_upto_region 1 with (fail)
  rw [← HW.out, ← HG.out]
  go_wp2_with (go_at_call 39; (with_reducible refine HI.out.mono ?_); rintro e w2 ⟨rfl, hb2⟩; have nB := Aside0.mk (HB.out.trans (hb2.mono HB.out.size)); clear HB hb2 HI; have HB := nB; clear nB)
  go_ret
  exact ⟨rfl, HB.out⟩
/-- one event more: the greatest so far, and whether it is below it -/
def bkS (name : ByteArray) (m : Int) (a : Bool) (x : S46) : Int × Bool × Bool :=
  if (!(x.f1.toList == name.toList) || x.f2) = true then (m, a, false)
  else (if a = true then (if m < x.f4.f0 then x.f4.f0 else m) else x.f4.f0, true, a && decide (x.f4.f0 < m))
set_option maxRecDepth 100000 in
set_option maxHeartbeats 2000000 in
theorem back1 (x : S46) (name : ByteArray) (gn ga gm : Nat) (m : Int) (a : Bool) (w0 w : World) (hB : Below w0.heap.size w0 w) (hla : w0.heap.size ≤ ga) (hlm : w0.heap.size ≤ gm) (h1 : gn ≠ ga) (h2 : gn ≠ gm) (h3 : ga ≠ gm)
    (hn : w.heap[gn]? = some (.cells #[.string name] 9 (0, 0))) (ha : w.heap[ga]? = some (.cells #[.bool a] 4 (0, 0))) (hm : w.heap[gm]? = some (.cells #[.int .i64 m] 2 (0, 0))) :
    Calls Try.prog 40 #[.agg #[.int .i64 x.f0, .string x.f1, .bool x.f2, .int .i64 x.f3, .int .i64 x.f4.f0, .int .i64 x.f4.f1, .int .i64 x.f4.f2, .int .i64 x.f4.f3, .bool x.f5, .int .i64 x.f6], .pointer (some ⟨gn, 0, none⟩), .pointer (some ⟨ga, 0, none⟩), .pointer (some ⟨gm, 0, none⟩)] w fun e w' => e = .returned (.bool (bkS name m a x).2.2) ∧ Below w0.heap.size w0 w' ∧ w'.heap[gn]? = some (.cells #[.string name] 9 (0, 0)) ∧ w'.heap[ga]? = some (.cells #[.bool (bkS name m a x).2.1] 4 (0, 0)) ∧ w'.heap[gm]? = some (.cells #[.int .i64 (bkS name m a x).1] 2 (0, 0)) := by
  obtain ⟨w1, hw1⟩ : ∃ w1, w1 = w.alloc (.cells #[.int .i64 x.f0, .string x.f1, .bool x.f2, .int .i64 x.f3, .int .i64 x.f4.f0, .int .i64 x.f4.f1, .int .i64 x.f4.f2, .int .i64 x.f4.f3, .bool x.f5, .int .i64 x.f6] 46) := ⟨_, rfl⟩
  obtain ⟨gk, hgk⟩ : ∃ gk, gk = w.heap.size := ⟨_, rfl⟩
  have hk1 : w1.heap[gk]? = some (.cells #[.int .i64 x.f0, .string x.f1, .bool x.f2, .int .i64 x.f3, .int .i64 x.f4.f0, .int .i64 x.f4.f1, .int .i64 x.f4.f2, .int .i64 x.f4.f3, .bool x.f5, .int .i64 x.f6] 46 (0, 0)) := by rw [hw1, hgk]; exact heap_alloc_new w _
  have hb1 : Below w.heap.size w w1 := by rw [hw1]; exact (Below.refl _ w).alloc (Nat.le_refl _) _
  have hB1 := hB.trans (hb1.mono hB.size)
  have hn1 := (hb1.block gn ((Array.getElem?_eq_some_iff.1 hn).1)).trans hn
  have ha1 := (hb1.block ga ((Array.getElem?_eq_some_iff.1 ha).1)).trans ha
  have hm1 := (hb1.block gm ((Array.getElem?_eq_some_iff.1 hm).1)).trans hm
  have n1 : gk ≠ ga := by have := (Array.getElem?_eq_some_iff.1 ha).1; omega
  have n2 : gk ≠ gm := by have := (Array.getElem?_eq_some_iff.1 hm).1; omega
  have HW := Lib.hid hw1
  have HG := Lib.hid hgk
  have HB := Aside0.mk hB1
  have HN := Aside0.mk hn1
  have HA := Aside0.mk ha1
  have HM := Aside0.mk hm1
  have H1 := Aside0.mk h1
  have H2 := Aside0.mk h2
  have H3 := Aside0.mk h3
  have c1 : w1.cell? ⟨gk, 1, none⟩ = some (.string x.f1) := (blk_cell hk1 1).trans rfl
  have f1 := blk_frozen hk1 1
  have c2 : w1.cell? ⟨gk, 2, none⟩ = some (.bool x.f2) := (blk_cell hk1 2).trans rfl
  have f2 := blk_frozen hk1 2
  have c4 : w1.cell? ⟨gk, 4, none⟩ = some (.int .i64 x.f4.f0) := (blk_cell hk1 4).trans rfl
  have f4 := blk_frozen hk1 4
  have cn : w1.cell? ⟨gn, 0, none⟩ = some (.string name) := (blk_cell hn1 0).trans rfl
  have fn := blk_frozen hn1 0
  have ca : w1.cell? ⟨ga, 0, none⟩ = some (.bool a) := (blk_cell ha1 0).trans rfl
  have fa := blk_frozen ha1 0
  have cm : w1.cell? ⟨gm, 0, none⟩ = some (.int .i64 m) := (blk_cell hm1 0).trans rfl
  have fm := blk_frozen hm1 0
  have ne1 := h3
  have ne2 : gm ≠ ga := fun e => h3 e.symm
  clear hw1 hgk hk1 hb1 hn1 ha1 hm1 hn ha hm hB hB1 h1 h2 h3
  have hpost : ∀ w2, w2 = (w1.setCell ⟨gm, 0, none⟩ (.int .i64 x.f4.f0)).setCell ⟨ga, 0, none⟩ (.bool true) → Below w0.heap.size w0 w2 ∧ w2.heap[gn]? = some (.cells #[.string name] 9 (0, 0)) ∧ w2.heap[ga]? = some (.cells #[.bool true] 4 (0, 0)) ∧ w2.heap[gm]? = some (.cells #[.int .i64 x.f4.f0] 2 (0, 0)) := by
    intro w2 e
    subst e
    refine ⟨(HB.out.setCell hlm _).setCell hla _, ?_, ?_, ?_⟩
    · exact (Below.heap_setCell _ ⟨ga, 0, none⟩ _ gn H1.out).trans ((Below.heap_setCell w1 ⟨gm, 0, none⟩ _ gn H2.out).trans HN.out)
    · exact blk_put (cs := #[.bool a]) ((Below.heap_setCell w1 ⟨gm, 0, none⟩ _ ga H3.out).trans HA.out) 0 _ rfl
    · exact (Below.heap_setCell _ ⟨ga, 0, none⟩ _ gm (fun e => H3.out e.symm)).trans (blk_put (cs := #[.int .i64 m]) HM.out 0 _ rfl)
  have HP := Aside0.mk hpost
  clear hpost
  go_enter Try.func40, Try.ntmps40
  go_upto_region 1 with (fail)
  rw [← HW.out, ← HG.out]
  cases h : (x.f1.toList == name.toList) with
  | false =>
    go_wp2
    go_ret
    have e : bkS name m a x = (m, a, false) := by unfold bkS; rw [h]; rfl
    rw [e]
    exact ⟨rfl, HB.out, HN.out, HA.out, HM.out⟩
  | true =>
    cases h2 : x.f2 with
    | true =>
      go_wp2
      go_ret
      have e : bkS name m a x = (m, a, false) := by unfold bkS; rw [h, h2]; rfl
      rw [e]
      exact ⟨rfl, HB.out, HN.out, HA.out, HM.out⟩
    | false =>
      cases a with
      | false =>
        go_wp2
        go_ret
        have e : bkS name m false x = (x.f4.f0, true, false) := by unfold bkS; rw [h, h2]; rfl
        rw [e]
        exact ⟨rfl, HP.out _ rfl⟩
      | true =>
        by_cases hv : x.f4.f0 < m
        · have v1 := decide_eq_true hv
          have v2 := decide_eq_false (show ¬ m < x.f4.f0 by omega)
          have e : bkS name m true x = (m, true, true) := by unfold bkS; rw [h, h2, if_neg (by simp), if_pos rfl, if_neg (by omega), v1]; rfl
          have E := Lib.hid e
          clear hv e
          go_wp2
          go_ret
          rw [E.out]
          exact ⟨rfl, HB.out, HN.out, HA.out, HM.out⟩
        · have v1 := decide_eq_false hv
          by_cases hg : m < x.f4.f0
          · have v2 := decide_eq_true hg
            have e : bkS name m true x = (x.f4.f0, true, false) := by unfold bkS; rw [h, h2, if_neg (by simp), if_pos rfl, if_pos hg, v1]; rfl
            have E := Lib.hid e
            clear hv hg e
            go_wp2
            go_ret
            rw [E.out]
            exact ⟨rfl, HP.out _ rfl⟩
          · have v2 := decide_eq_false hg
            have e : bkS name m true x = (m, true, false) := by unfold bkS; rw [h, h2, if_neg (by simp), if_pos rfl, if_neg hg, v1]; rfl
            have E := Lib.hid e
            clear hv hg e
            go_wp2
            go_ret
            rw [E.out]
            exact ⟨rfl, HB.out, HN.out, HA.out, HM.out⟩
/-- the first place at which a tenant's time went back, or -1 -/
def idxB (name : ByteArray) : Int → Bool → List S46 → Int → Int
  | _, _, [], _ => -1
  | m, a, x :: l, i => if (bkS name m a x).2.2 = true then i else idxB name (bkS name m a x).1 (bkS name m a x).2.1 l (i + 1)
set_option maxRecDepth 100000 in
set_option maxHeartbeats 2000000 in
theorem index_back (gn ga gm : Nat) (name : ByteArray) (m0 : Int) (a0 : Bool) (w0 : World) (hla : w0.heap.size ≤ ga) (hlm : w0.heap.size ≤ gm) (h1 : gn ≠ ga) (h2 : gn ≠ gm) (h3 : ga ≠ gm)
    (A : Option Addr) (c : Nat) (l : List S46) (w : World) (hC : Kd.C k46 w0 A l.length l) (hc : l.length ≤ c) (hL : l.length ≤ 140737488351232) (hB : Below w0.heap.size w0 w)
    (hn : w.heap[gn]? = some (.cells #[.string name] 9 (0, 0))) (ha : w.heap[ga]? = some (.cells #[.bool a0] 4 (0, 0))) (hm : w.heap[gm]? = some (.cells #[.int .i64 m0] 2 (0, 0))) :
    Calls Try.prog 39 #[.slice A l.length c, .func (.func 40) #[] #[.pointer (some ⟨gn, 0, none⟩), .pointer (some ⟨ga, 0, none⟩), .pointer (some ⟨gm, 0, none⟩)]] w fun e w' => e = .returned (.int .i64 (idxB name m0 a0 l 0)) ∧ Below w0.heap.size w0 w' := by
  obtain ⟨r, hr⟩ : ∃ r, idxB name m0 a0 l 0 = r := ⟨_, rfl⟩
  rw [hr]
  have HB := Aside0.mk hB
  have HS := Aside0.mk (And.intro hn (And.intro ha hm))
  have HC := Aside0.mk hC
  have HL := Aside0.mk hL
  have HD := Aside0.mk (And.intro hla (And.intro hlm (And.intro h1 (And.intro h2 h3))))
  have HR := Aside0.mk hr
  clear hn ha hm hC hr hL hB hla hlm h1 h2 h3
  go_enter Try.func39, Try.ntmps39
  go_wp2_with (fail)
  go_loopw [8] (fun v wr => ∃ (i : Nat) (x m : Int) (a : Bool), Aside0 (x = i ∧ i ≤ l.length) ∧ v = .int .i64 x ∧ Aside0 (idxB name m a (l.drop i) x = r) ∧ Aside0 (Below w0.heap.size w0 wr) ∧ Aside0 (wr.heap[gn]? = some (.cells #[.string name] 9 (0, 0)) ∧ wr.heap[ga]? = some (.cells #[.bool a] 4 (0, 0)) ∧ wr.heap[gm]? = some (.cells #[.int .i64 m] 2 (0, 0)))) (fun v _ => match v with | .int _ x => (l.length - x).toNat | _ => 0)
  case atStart => exact ⟨0, 0, m0, a0, ⟨rfl, Nat.zero_le _⟩, rfl, ⟨by rw [List.drop_zero]; exact HR.out⟩, ⟨by first | exact HB.out | exact HB.out.drew⟩, HS⟩
  case round =>
    clear HB HS
    obtain ⟨i, x, m, a, hi, rfl, hI, hB, hS⟩ := hrel
    by_cases h : x < (l.length : Int)
    · have h0 : 0 ≤ x := by have := hi.out.1; omega
      obtain ⟨ad, eA, q0, q1, q2, q3, q4, q5, q6, q7, q8, q9⟩ := at_T46 (Kd.C_below HC.out hB.out) x h0 h
      cases eA
      have hd := decide_eq_true h
      have p0 := eq_true h0
      have p1 := eq_true h
      have H0 := Aside0.mk (And.intro h0 h)
      have hs : ∃ (y : S46) (t : List S46), rd_T46 l x = y ∧ l.drop i = y :: t ∧ t = l.drop (i + 1) := ⟨_, l.drop (i + 1), rfl, by
        have hx := hi.out.1
        have hl : i < l.length := by omega
        rw [List.drop_eq_getElem_cons hl]
        congr 1
        unfold rd_T46
        rw [show x.toNat = i by omega]
        simp [List.getD, hl], rfl⟩
      obtain ⟨y, t, hy, ht, htt⟩ := hs
      rw [hy] at q0 q1 q2 q3 q4 q5 q6 q7 q8 q9
      rw [ht] at hI
      have HT := Aside0.mk htt
      have HF := Aside0.mk (back1 y name gn ga gm m a w0 wr hB.out HD.out.1 HD.out.2.1 HD.out.2.2.1 HD.out.2.2.2.1 HD.out.2.2.2.2 hS.out.1 hS.out.2.1 hS.out.2.2)
      clear htt ht hy h h0
      cases hb : (bkS name m a y).2.2 with
      | true =>
        rw [hb] at HF
        have Hb := Aside0.mk hb
        clear hb
        go_wp2_with (go_at_call 40; (with_reducible refine HF.out.mono ?_); rintro e w2 ⟨rfl, hb2⟩; have nB := Aside0.mk hb2; clear hB hb2 hS HF)
        go_ret
        refine ⟨?_, nB.out.1⟩
        have e := hI.out
        simp only [idxB] at e
        rw [if_pos Hb.out] at e
        rw [← e]; rfl
      | false =>
        rw [hb] at HF
        have Hb := Aside0.mk hb
        clear hb
        go_wp2_with (go_at_call 40; (with_reducible refine HF.out.mono ?_); rintro e w2 ⟨rfl, hb2⟩; have nB := Aside0.mk hb2; clear hB hb2 hS HF)
        have h1 := H0.out
        have hw : wrap64 (x + 1) = x + 1 := by have := HL.out; unfold wrap64; omega
        refine ⟨⟨i + 1, x + 1, (bkS name m a y).1, (bkS name m a y).2.1, ⟨by have := hi.out.1; omega, by have := hi.out.1; omega⟩, by rw [hw], ⟨?_⟩, ⟨nB.out.1⟩, ⟨nB.out.2⟩⟩, ?_⟩
        · have e := hI.out
          simp only [idxB] at e
          rw [if_neg (by rw [Hb.out]; simp)] at e
          rw [← HT.out]; exact e
        · rw [hw]
          show ((l.length : Int) - (x + 1)).toNat < ((l.length : Int) - x).toNat
          omega
    · have hd := decide_eq_false h
      go_wp2
      go_ret
      refine ⟨?_, hB.out⟩
      have e := hI.out
      rw [List.drop_of_length_le (by have := hi.out.1; omega)] at e
      simp only [idxB] at e
      rw [← e]; rfl
theorem alloc3 (w : World) (o1 o2 o3 : Obj) : Below w.heap.size w (((w.alloc o1).alloc o2).alloc o3) ∧ (((w.alloc o1).alloc o2).alloc o3).heap[w.heap.size]? = some o1 ∧ (((w.alloc o1).alloc o2).alloc o3).heap[w.heap.size + 1]? = some o2 ∧ (((w.alloc o1).alloc o2).alloc o3).heap[w.heap.size + 1 + 1]? = some o3 := by
  have s1 : (w.alloc o1).heap.size = w.heap.size + 1 := by simp
  have s2 : ((w.alloc o1).alloc o2).heap.size = w.heap.size + 1 + 1 := by simp
  have b1 : Below w.heap.size w (w.alloc o1) := (Below.refl _ w).alloc (Nat.le_refl _) _
  have b2 : Below w.heap.size w ((w.alloc o1).alloc o2) := b1.alloc (by omega) _
  refine ⟨b2.alloc (by omega) _, ?_, ?_, ?_⟩
  · rw [heap_alloc_old _ o3 (by omega), heap_alloc_old _ o2 (by omega)]; exact heap_alloc_new w o1
  · rw [heap_alloc_old _ o3 (by omega), ← s1]; exact heap_alloc_new _ o2
  · rw [← s2]; exact heap_alloc_new _ o3
set_option maxRecDepth 100000 in
set_option maxHeartbeats 2000000 in
theorem back_walk (A : Option Addr) (c : Nat) (l : List S46) (name : ByteArray) (w : World) (hC : Kd.C k46 w A l.length l) (hc : l.length ≤ c) (hL : l.length ≤ 140737488351232) :
    Calls Try.prog 18 #[.slice A l.length c, .string name] w fun e w' => e = .returned (.int .i64 (idxB name 0 false l 0)) ∧ Below w.heap.size w w' := by
  have HC := Aside0.mk hC
  have HL := Aside0.mk hL
  have HB := Aside0.mk (Below.refl w.heap.size w)
  have H3 := Aside0.mk (alloc3 w (.cells #[.string name] 9) (.cells #[.int .i64 0] 2) (.cells #[.bool false] 4))
  clear hC hL
  go_enter Try.func18, Try.ntmps18
  go_wp2_with (fail)
  refine (index_back w.heap.size (w.heap.size + 1 + 1) (w.heap.size + 1) name 0 false w (by omega) (by omega) (by omega) (by omega) (by omega) A c l _ HC.out hc HL.out H3.out.1 H3.out.2.1 H3.out.2.2.2 H3.out.2.2.1).mono ?_
  rintro e w2 ⟨rfl, hb2⟩
  have H2 := Aside0.mk hb2
  clear hb2 HB
  go_wp2
  go_ret
  exact ⟨rfl, H2.out⟩
def zA : Value := .agg #[.int .i64 0, .string ⟨#[]⟩, .bool false, .int .i64 0, .int .i64 0, .int .i64 0, .int .i64 0, .int .i64 0, .bool false, .int .i64 0]
theorem zeroA (w : World) : (zeroValue 46).run Try.prog w = .ok zA w := by kernel_rfl
theorem zA_one : ∀ i : Nat, (zA.cells[i % zA.cells.size]!).oneCell' = true := by
  intro i
  have h : i % 10 < 10 := Nat.mod_lt _ (by decide)
  show (zA.cells[i % 10]!).oneCell' = true
  generalize i % 10 = k at h
  have hk : k = 0 ∨ k = 1 ∨ k = 2 ∨ k = 3 ∨ k = 4 ∨ k = 5 ∨ k = 6 ∨ k = 7 ∨ k = 8 ∨ k = 9 := by omega
  rcases hk with rfl | rfl | rfl | rfl | rfl | rfl | rfl | rfl | rfl | rfl <;> rfl
theorem clear_run (W : World) (g o n c ty : Nat) (cur : Array Value) (hg : W.heap[g]? = some (.cells cur 46 (0, 0))) (hfit : o + n * 10 ≤ cur.size) (hn : 0 < n) :
    ∃ cs : List Value, (Builtin.clear_ #[39] ty #[.slice (some ⟨g, o, none⟩) n c]).run Try.prog W = .ok (.tuple #[]) (W.setRow g cs.toArray) ∧ cs.length = cur.size ∧ cs.take o = cur.toList.take o := by
  have hsz : (Builtin.zeroCells zA.cells n).toList.length = n * 10 := by rw [Array.length_toList, size_zeroCells]; rfl
  have h1 : ∀ v ∈ (Builtin.zeroCells zA.cells n).toList, v.oneCell' = true := by
    intro v hv
    simp only [Builtin.zeroCells, Array.toList_map, List.mem_map] at hv
    obtain ⟨i, _, rfl⟩ := hv
    exact zA_one i
  have hst := run_storeCells_at (P := Try.prog) g o 46 (Builtin.zeroCells zA.cells n).toList 0 cur W hg (by rw [hsz]; omega) h1
  refine ⟨cur.toList.take (o + 0) ++ (Builtin.zeroCells zA.cells n).toList ++ cur.toList.drop (o + 0 + (Builtin.zeroCells zA.cells n).toList.length), ?_, ?_, ?_⟩
  · obtain ⟨m, rfl⟩ : ∃ m, n = m + 1 := ⟨n - 1, by omega⟩
    have hst' : (storeCells ⟨g, o, none⟩ (Builtin.zeroCells (Value.agg #[.int .i64 0, .string ⟨#[]⟩, .bool false, .int .i64 0, .int .i64 0, .int .i64 0, .int .i64 0, .int .i64 0, .bool false, .int .i64 0]).cells (m + 1)).toList).run Try.prog W = _ := hst
    simp only [Builtin.clear_]
    simp [run_underlying Try.underlying39, zeroA, -List.append_assoc]
    rw [hst']
    simp only [Nat.add_zero, Array.length_toList]
    rfl
  · rw [List.length_append, List.length_append, List.length_take, List.length_drop, hsz, Array.length_toList]; omega
  · rw [Nat.add_zero, List.append_assoc, List.take_left' (by rw [List.length_take, Array.length_toList]; omega)]
/-- a row whose tail was written over: its head is as it was -/
theorem head_R (W W2 : World) (base g n cap m : Nat) (ok : Nat → Prop) (xs : List S46) (h : Kd.R k46 46 W base ok (.slice (some ⟨g, 0, none⟩) n cap) xs) (hm : m ≤ xs.length)
    (hw : ∀ cur, W.heap[g]? = some (.cells cur 46 (0, 0)) → ∃ cs : List Value, W2.heap[g]? = some (.cells cs.toArray 46 (0, 0)) ∧ cs.length = cur.size ∧ cs.take (m * 10) = cur.toList.take (m * 10)) :
    Kd.R k46 46 W2 base ok (.slice (some ⟨g, 0, none⟩) m cap) (xs.take m) := by
  obtain ⟨h0, inner, hown, hr⟩ := Kd.R_take h hm
  rcases hown.2 with ⟨hv, _⟩ | ⟨g', cap', cur, hv, hb, hh, hnc, hcm, hcs, ht⟩
  · cases hv
  injection hv with ha hn hc
  injection ha with ha
  injection ha with hg'
  subst hg'; subst hc
  obtain ⟨cs, e1, e2, e3⟩ := hw cur hh
  have hlen : (xs.take m).length = m := by rw [List.length_take]; omega
  refine ⟨h0, inner, ⟨hown.1, .inr ⟨g, cap, cs.toArray, by rw [hlen], hb, e1, hnc, hcm, by rw [List.size_toArray, e2]; exact hcs, ?_⟩⟩, hr.imp_ (fun x c hx => by obtain rfl := k46_openM hx; exact k46_mkM _ _ _ x)⟩
  rw [← ht, hlen]
  exact e3
theorem idx_total (q : S46 → Bool) : ∀ (l : List S46) (i : Int), (idx (fun x => some (q x)) l i = some (-1) ∧ ∀ x ∈ l, q x = false) ∨ ∃ j : Nat, idx (fun x => some (q x)) l i = some (i + j) ∧ j < l.length ∧ (∀ x ∈ l.take j, q x = false) ∧ ∀ h : j < l.length, q l[j] = true
  | [], i => .inl ⟨rfl, fun x hx => by cases hx⟩
  | x :: l, i => by
    cases hq : q x with
    | true =>
      refine .inr ⟨0, ?_, by simp, fun y hy => by simp at hy, fun _ => hq⟩
      simp [idx, hq]
    | false =>
      rcases idx_total q l (i + 1) with ⟨h1, h2⟩ | ⟨j, h1, h2, h3, h4⟩
      · refine .inl ⟨by simp [idx, hq, h1], fun y hy => ?_⟩
        rcases List.mem_cons.1 hy with rfl | hy
        · exact hq
        · exact h2 y hy
      · refine .inr ⟨j + 1, ?_, by simp; omega, fun y hy => ?_, fun _ => h4 h2⟩
        · simp [idx, hq, h1]; omega
        · rw [List.take_succ_cons] at hy
          rcases List.mem_cons.1 hy with rfl | hy
          · exact hq
          · exact h3 y hy
def nm (name : ByteArray) (x : S46) : Bool := x.f1.toList == name.toList
theorem clear_event {ops : Array Oper} {rest : List Oper} {o : Oper} {a : Act} {W : World} {Q : Exit → Act → World → Prop} (hgd : o.guard = none) (hN : o.dst = none) (s : Operand)
    (ho : o.op = .call { callee := .builtin .clear, args := #[s], argTypes := #[39] }) (g off n c : Nat) (cur : Array Value) (hs : a.eval s = .slice (some ⟨g, off, none⟩) n c) (hg : W.heap[g]? = some (.cells cur 46 (0, 0))) (hfit : off + n * 10 ≤ cur.size) (hn : 0 < n)
    (h : ∀ cs : List Value, cs.length = cur.size → cs.take off = cur.toList.take off → wpList Try.prog ops Q rest a (W.setRow g cs.toArray)) : wpList Try.prog ops Q (o :: rest) a W := by
  obtain ⟨cs, h1, h2, h3⟩ := clear_run W g off n c o.type cur hg hfit hn
  refine wpList_plain hgd fun K hK => ?_
  unfold Oper.wp execOp
  simp only [ho, resolve, invoke, builtin, Sem.run_bind, Sem.run_pure, Result.andThen_ok, List.map_toArray, List.map_cons, List.map_nil, hs, h1]
  have e := h cs h2 h3
  have ha : a.put o.dst (.tuple #[]) = a := by rw [hN]; rfl
  rw [← ha] at e
  exact hK _ _ e
theorem own_block {W : World} {base n cap : Nat} {ok : Nat → Prop} {A : Option Addr} {xs : List S46} (h : Kd.R k46 46 W base ok (.slice A n cap) xs) (h0 : 0 < xs.length) : ∃ g, A = some ⟨g, 0, none⟩ := by
  obtain ⟨_, inner, hown, _⟩ := h
  rcases hown.2 with ⟨hv, hl⟩ | ⟨g', cap', cur, hv, _⟩
  · injection hv with h1 h2 h3
    omega
  · injection hv with h1 h2 h3
    exact ⟨g', h1⟩
theorem row_cur {W : World} {base n cap g : Nat} {ok : Nat → Prop} {xs : List S46} (h : Kd.R k46 46 W base ok (.slice (some ⟨g, 0, none⟩) n cap) xs) : ∃ cur, W.heap[g]? = some (.cells cur 46 (0, 0)) ∧ n * 10 ≤ cur.size ∧ base ≤ g := by
  obtain ⟨_, inner, hown, hr⟩ := h
  rcases hown.2 with ⟨hv, hl⟩ | ⟨g', cap', cur, hv, hb, hh, hnc, hcm, hcs, ht⟩
  · cases hv
  · injection hv with h1 h2 h3
    injection h1 with h1
    injection h1 with h1
    subst h1
    subst h2
    subst h3
    have hsz : k46.sz = 10 := rfl
    rw [hsz] at hcs
    exact ⟨cur, hh, by omega, hb⟩
theorem get_same {α : Type} {xs l : List α} {j : Nat} {d z : α} (hj : j < l.length) (hl : xs.length = l.length) (hd : xs.drop j = l.drop j) (hz : xs.getD j d = z) : l[j] = z := by
  have hx : j < xs.length := by omega
  rw [List.drop_eq_getElem_cons hx, List.drop_eq_getElem_cons hj] at hd
  injection hd with h1 h2
  rw [← h1, ← hz]
  simp [List.getD, hx]
theorem drop_same {α : Type} {xs l : List α} {j : Nat} (hd : xs.drop j = l.drop j) : xs.drop (j + 1) = l.drop (j + 1) := by
  rw [← List.drop_drop, ← List.drop_drop, hd]
theorem keep_step {α : Type} (p : α → Bool) (xs l : List α) (i j : Nat) (z d : α) (hij : i < j) (hj : j < l.length) (hl : xs.length = l.length) (ht : xs.take i = (l.take j).filter p) (hd : xs.drop j = l.drop j) (hz : xs.getD j d = z) (hp : p z = true) :
    (xs.set i z).length = l.length ∧ (xs.set i z).take (i + 1) = (l.take (j + 1)).filter p ∧ (xs.set i z).drop (j + 1) = l.drop (j + 1) := by
  have e := get_same hj hl hd hz
  refine ⟨by rw [List.length_set]; exact hl, ?_, ?_⟩
  · rw [List.take_succ_eq_append_getElem (by rw [List.length_set]; omega), List.take_succ_eq_append_getElem hj, List.filter_append, ← ht, List.take_set_of_le (Nat.le_refl _), List.getElem_set_self, e]
    simp [hp]
  · rw [List.drop_set_of_lt (by omega)]
    exact drop_same hd
theorem skip_step {α : Type} (p : α → Bool) (xs l : List α) (i j : Nat) (z d : α) (hj : j < l.length) (hl : xs.length = l.length) (ht : xs.take i = (l.take j).filter p) (hd : xs.drop j = l.drop j) (hz : xs.getD j d = z) (hp : p z = false) :
    xs.take i = (l.take (j + 1)).filter p ∧ xs.drop (j + 1) = l.drop (j + 1) := by
  have e := get_same hj hl hd hz
  refine ⟨?_, drop_same hd⟩
  rw [List.take_succ_eq_append_getElem hj, List.filter_append, ← ht, e]
  simp [hp]
theorem add0 (g k : Nat) : (⟨g, 0, none⟩ : Addr).add k = ⟨g, k, none⟩ := by unfold Addr.add; split <;> simp_all
theorem set_ready {W : World} {base n c g : Nat} {ok : Nat → Prop} {xs : List S46} {x : Int} (h : Kd.R k46 46 W base ok (.slice (some ⟨g, 0, none⟩) n c) xs) (h0 : 0 ≤ x) (h1 : x < n) :
    ∃ cs : List Value, cs.length = 10 ∧ ∀ j u, cs[j]? = some u → W.cell? ⟨g, x.toNat * 10 + j, none⟩ = some u := by
  have hr := Kd.R_reads' h
  obtain ⟨ad2, cs, e, hcl, hK, hc0⟩ := Kd.C_get hr.2.2 z46 x h0 (by rw [← hr.1]; exact h1)
  injection e with e
  subst e
  refine ⟨cs, hcl, fun j u hj => ?_⟩
  rw [← add0]
  exact hc0 j u hj
theorem set_mk (W : World) (base : Nat) (z : S46) (cs : List Value) (h : cs.length = 10) : k46.M W base (fun _ => False) z (cs.take 0 ++ [.int .i64 z.f0, .string z.f1, .bool z.f2, .int .i64 z.f3, .int .i64 z.f4.f0, .int .i64 z.f4.f1, .int .i64 z.f4.f2, .int .i64 z.f4.f3, .bool z.f5, .int .i64 z.f6] ++ cs.drop (0 + 10)) := by
  rw [List.drop_eq_nil_of_le (by omega), List.append_nil]
  exact k46_mkM W base _ z
set_option maxRecDepth 100000 in
set_option maxHeartbeats 4000000 in
theorem delete_walk (gn : Nat) (name : ByteArray) (base : Nat) (hgb : gn < base) (v : Value) (l : List S46) (w0 w : World) (HR : Kd.R k46 46 w base (fun _ => True) v l) (hn0 : w0.heap[gn]? = some (.cells #[.string name] 9 (0, 0))) (hbw : base ≤ w.heap.size) (hB : Below base w0 w) (hL : l.length ≤ 140737488351232) :
    Calls Try.prog 36 #[v, .func (.func 38) #[] #[.pointer (some ⟨gn, 0, none⟩)]] w fun e w' => ∃ v', e = .returned v' ∧ Kd.R k46 46 w' base (fun _ => True) v' (l.filter (nm name)) ∧ Below base w0 w' := by
  obtain ⟨A, c, rfl⟩ := Kd.R_slice HR
  have hr0 := Kd.R_reads' HR
  have hF : ∀ (x : S46) (b : Bool) (W : World), (fun x : S46 => some (!nm name x)) x = some b → W.heap[gn]? = some (.cells #[.string name] 9 (0, 0)) → Calls Try.prog 38 #[.agg #[.int .i64 x.f0, .string x.f1, .bool x.f2, .int .i64 x.f3, .int .i64 x.f4.f0, .int .i64 x.f4.f1, .int .i64 x.f4.f2, .int .i64 x.f4.f3, .bool x.f5, .int .i64 x.f6], .pointer (some ⟨gn, 0, none⟩)] W fun e w' => e = .returned (.bool b) ∧ Below W.heap.size W w' := fun x b W hp hn => by
    obtain rfl := Option.some.inj hp
    exact seen1 x name gn W hn
  have hn := (hB.block gn hgb).trans hn0
  rcases idx_total (fun x => !nm name x) l 0 with ⟨h1, h2⟩ | ⟨j0, h1, h2, h3, h4⟩
  · have hI := index_seen (fun x => some (!nm name x)) gn name hF A c l (-1) w hr0.2.2 hr0.2.1 hL hn h1
    have HI := Aside0.mk hI
    have HRa := Aside0.mk HR
    have HBa := Aside0.mk hB
    have HW := Aside0.mk hbw
    have HE := Aside0.mk (show l.filter (nm name) = l from List.filter_eq_self.2 (fun x hx => by have := h2 x hx; simpa using this))
    clear hI HR hr0 hF h1 h2 hn hL hB hbw hn0 hgb
    go_enter Try.func36, Try.ntmps36
    go_wp2_with (go_at_call 39; (with_reducible refine HI.out.mono ?_); rintro e w2 ⟨rfl, hb2⟩; have nB := Aside0.mk (HBa.out.trans (hb2.mono HW.out)); have nR := Aside0.mk (Kd.R_below HRa.out hb2); clear HI hb2 HBa HRa)
    go_ret
    exact ⟨_, rfl, by rw [HE.out]; exact nR.out, nB.out⟩
  · have hI := index_seen (fun x => some (!nm name x)) gn name hF A c l (j0 : Int) w hr0.2.2 hr0.2.1 hL hn (by rw [h1]; simp)
    obtain ⟨g, hA⟩ := own_block HR (by omega)
    obtain ⟨ad, hAd, rfl⟩ : ∃ ad : Addr, ad = ⟨g, 0, none⟩ ∧ A = some ad := ⟨_, rfl, hA⟩
    have HAd := Aside0.mk hAd
    clear hA hAd
    have HI := Aside0.mk hI
    have HRa := Aside0.mk HR
    have HBa := Aside0.mk hB
    have HW := Aside0.mk hbw
    have HL := Aside0.mk hL
    have HN := Aside0.mk (And.intro hgb hn0)
    have HF := Aside0.mk hF
    have HS := Aside0.mk (show l.take j0 = (l.take (j0 + 1)).filter (nm name) by
      rw [List.take_succ_eq_append_getElem h2, List.filter_append]
      have e1 : (l.take j0).filter (nm name) = l.take j0 := List.filter_eq_self.2 (fun x hx => by have := h3 x hx; simpa using this)
      have e2 : nm name l[j0] = false := by have := h4 h2; simpa using this
      rw [e1]
      simp [e2])
    have H2 := Aside0.mk h2
    have hc := hr0.2.1
    have m1 : ((j0 : Int) == -1) = false := by simp
    have m2 := decide_eq_false (show ¬ (j0 : Int) = -1 by omega)
    have m3 : (0 : Int) ≤ (j0 : Int) := by omega
    have m4 : (j0 : Int) ≤ 140737488351232 := by omega
    clear hI HR hr0 hF h1 h2 h3 h4 hn hL hB hbw hn0 hgb
    go_enter Try.func36, Try.ntmps36
    go_wp2_with (go_at_call 39; (with_reducible refine HI.out.mono ?_); rintro e w2 ⟨rfl, hb2⟩; have nB := Aside0.mk (HBa.out.trans (hb2.mono HW.out)); have nR := Aside0.mk (Kd.R_below HRa.out hb2); have nW := Aside0.mk (Nat.le_trans HW.out hb2.size); clear HI hb2 HBa HRa HW)
    clear m1 m2 m3 m4
    go_loopw [5, 6] (fun v5 v6 wr => ∃ (i j : Nat) (x y : Int) (xs : List S46), Aside0 (x = i ∧ y = j ∧ i < j ∧ j ≤ l.length ∧ xs.length = l.length ∧ xs.take i = (l.take j).filter (nm name) ∧ xs.drop j = l.drop j) ∧ v5 = .int .i64 x ∧ v6 = .int .i64 y ∧ Aside0 (Kd.R k46 46 wr base (fun _ => True) (.slice (some ad) l.length c) xs) ∧ Aside0 (Below base w0 wr) ∧ Aside0 (base ≤ wr.heap.size)) (fun _ v _ => match v with | .int _ y => (l.length - y).toNat | _ => 0)
    case atStart => exact ⟨j0, j0 + 1, j0, j0 + 1, l, ⟨rfl, by simp, by omega, by have := H2.out; omega, rfl, HS.out, rfl⟩, rfl, rfl, nR, nB, nW⟩
    case round =>
      clear nR nB nW HS H2
      obtain ⟨i, j, x, y, xs, hx, rfl, rfl, hR, hB, hW⟩ := hrel
      by_cases h : y < (l.length : Int)
      · have h0 : 0 ≤ y := by have := hx.out.2.1; omega
        obtain ⟨z, hz⟩ : ∃ z, rd_T46 xs y = z := ⟨_, rfl⟩
        have hC := (Kd.R_reads' hR.out).2.2
        rw [hx.out.2.2.2.2.1] at hC
        obtain ⟨ad', eA, q0, q1, q2, q3, q4, q5, q6, q7, q8, q9⟩ := at_T46 hC y h0 h
        cases eA
        rw [hz] at q0 q1 q2 q3 q4 q5 q6 q7 q8 q9
        have hd := decide_eq_true h
        have p0 := eq_true h0
        have p1 := eq_true h
        have H0 := Aside0.mk (And.intro h0 h)
        have HZ := Aside0.mk hz
        clear hC hz h h0
        go_upto_region 8 with (fail)
        clear q0 q1 q2 q3 q4 q5 q6 q7 q8 q9 hd p0 p1
        refine name_w (fun W1 hq_ => ?_)
        have hb1 : Below wr.heap.size wr W1 := by rw [hq_]; exact (Below.refl _ wr).alloc (Nat.le_refl _) _
        obtain ⟨gk, hgk⟩ : ∃ gk, gk = wr.heap.size := ⟨_, rfl⟩
        have hk1 : W1.heap[gk]? = some (.cells #[.int .i64 z.f0, .string z.f1, .bool z.f2, .int .i64 z.f3, .int .i64 z.f4.f0, .int .i64 z.f4.f1, .int .i64 z.f4.f2, .int .i64 z.f4.f3, .bool z.f5, .int .i64 z.f6] 46 (0, 0)) := by rw [hq_, hgk]; exact heap_alloc_new wr _
        rw [← hgk]
        have nR := Aside0.mk (Kd.R_below hR.out hb1)
        have nB := Aside0.mk (hB.out.trans (hb1.mono hW.out))
        have nW := Aside0.mk (Nat.le_trans hW.out hb1.size)
        have HK := Aside0.mk hk1
        have c0 : W1.cell? ⟨gk, 0, none⟩ = some (.int .i64 z.f0) := (blk_cell hk1 0).trans rfl
        have c1 : W1.cell? ⟨gk, 1, none⟩ = some (.string z.f1) := (blk_cell hk1 1).trans rfl
        have c2 : W1.cell? ⟨gk, 2, none⟩ = some (.bool z.f2) := (blk_cell hk1 2).trans rfl
        have c3 : W1.cell? ⟨gk, 3, none⟩ = some (.int .i64 z.f3) := (blk_cell hk1 3).trans rfl
        have c4 : W1.cell? ⟨gk, 4, none⟩ = some (.int .i64 z.f4.f0) := (blk_cell hk1 4).trans rfl
        have c5 : W1.cell? ⟨gk, 5, none⟩ = some (.int .i64 z.f4.f1) := (blk_cell hk1 5).trans rfl
        have c6 : W1.cell? ⟨gk, 6, none⟩ = some (.int .i64 z.f4.f2) := (blk_cell hk1 6).trans rfl
        have c7 : W1.cell? ⟨gk, 7, none⟩ = some (.int .i64 z.f4.f3) := (blk_cell hk1 7).trans rfl
        have c8 : W1.cell? ⟨gk, 8, none⟩ = some (.bool z.f5) := (blk_cell hk1 8).trans rfl
        have c9 : W1.cell? ⟨gk, 9, none⟩ = some (.int .i64 z.f6) := (blk_cell hk1 9).trans rfl
        clear hq_ hb1 hgk hk1 hR hB hW
        cases hnm : nm name z with
        | true =>
          have HV := Aside0.mk hnm
          have hP : (fun x : S46 => some (!nm name x)) z = some false := by show some (!nm name z) = some false; rw [hnm]; rfl
          have HP := Aside0.mk hP
          clear hP hnm
          go_upto_region 9 with (go_at_call 38; (with_reducible refine (HF.out z _ _ HP.out ((nB.out.block gn HN.out.1).trans HN.out.2)).mono ?_); rintro e w3 ⟨rfl, hb3⟩; have mB := Aside0.mk (nB.out.trans (hb3.mono nW.out)); have mR := Aside0.mk (Kd.R_below nR.out hb3); have mW := Aside0.mk (Nat.le_trans nW.out hb3.size); have mK := Aside0.mk ((hb3.block gk (Array.getElem?_eq_some_iff.1 HK.out).1).trans HK.out); clear hb3 nB nR nW HK c0 c1 c2 c3 c4 c5 c6 c7 c8 c9)
          have x0 : 0 ≤ x := by have := hx.out.1; omega
          have x1 : x < (l.length : Int) := by have := hx.out.1; have := hx.out.2.2.1; have := hx.out.2.2.2.1; omega
          have mR2 := mR.out
          rw [HAd.out] at mR2
          obtain ⟨cs, hcs, hcc⟩ := set_ready mR2 x0 x1
          have HCC := Aside0.mk hcc
          have HCS := Aside0.mk hcs
          have MR2 := Aside0.mk mR2
          have ha : ad.add (x.toNat * 10) = ⟨g, x.toNat * 10, none⟩ := by rw [HAd.out]; exact add0 _ _
          have HA := Aside0.mk ha
          have HX := Aside0.mk (And.intro x0 x1)
          have p0 := eq_true x0
          have p1 := eq_true x1
          have c0 : w3.cell? ⟨gk, 0, none⟩ = some (.int .i64 z.f0) := (blk_cell mK.out 0).trans rfl
          have c1 : w3.cell? ⟨gk, 1, none⟩ = some (.string z.f1) := (blk_cell mK.out 1).trans rfl
          have c2 : w3.cell? ⟨gk, 2, none⟩ = some (.bool z.f2) := (blk_cell mK.out 2).trans rfl
          have c3 : w3.cell? ⟨gk, 3, none⟩ = some (.int .i64 z.f3) := (blk_cell mK.out 3).trans rfl
          have c4 : w3.cell? ⟨gk, 4, none⟩ = some (.int .i64 z.f4.f0) := (blk_cell mK.out 4).trans rfl
          have c5 : w3.cell? ⟨gk, 5, none⟩ = some (.int .i64 z.f4.f1) := (blk_cell mK.out 5).trans rfl
          have c6 : w3.cell? ⟨gk, 6, none⟩ = some (.int .i64 z.f4.f2) := (blk_cell mK.out 6).trans rfl
          have c7 : w3.cell? ⟨gk, 7, none⟩ = some (.int .i64 z.f4.f3) := (blk_cell mK.out 7).trans rfl
          have c8 : w3.cell? ⟨gk, 8, none⟩ = some (.bool z.f5) := (blk_cell mK.out 8).trans rfl
          have c9 : w3.cell? ⟨gk, 9, none⟩ = some (.int .i64 z.f6) := (blk_cell mK.out 9).trans rfl
          clear hcc hcs mR2 ha mK x0 x1 mR
          go_wp2_with ((with_reducible refine gate_store (t := 46) (p := 33) rfl ?_); refine Kd.R_store k46 base rfl rfl 46 (.tmp 33) (.tmp 32) rfl 46 x 0 xs z _ [.int .i64 z.f0, .string z.f1, .bool z.f2, .int .i64 z.f3, .int .i64 z.f4.f0, .int .i64 z.f4.f1, .int .i64 z.f4.f2, .int .i64 z.f4.f3, .bool z.f5, .int .i64 z.f6] cs (fun _ => True) (fun _ => False) (congrArg (fun q => Value.pointer (some q)) HA.out) rfl rfl rfl (by kernel_rfl) (by simp [Value.oneCell']) MR2.out HX.out.1 HX.out.2 HCS.out HCC.out (Nat.le_refl 10) (set_mk _ _ _ _ HCS.out) (fun k hk => hk.elim) mB.out ?_; intro w4 hR4 hB4 hG4; have nR := Aside0.mk hR4; have nB := Aside0.mk hB4; have nW := Aside0.mk (Nat.le_trans mW.out hG4.size); clear hR4 hB4 hG4 mW mB MR2 HCC HCS c0 c1 c2 c3 c4 c5 c6 c7 c8 c9)
          have hw : wrap64 (y + 1) = y + 1 := by have := HL.out; have := H0.out; unfold wrap64; omega
          have hv : wrap64 (x + 1) = x + 1 := by have := HL.out; have := HX.out; unfold wrap64; omega
          have hs := keep_step (nm name) xs l i j z z46 hx.out.2.2.1 (by have := H0.out; have := hx.out.2.1; omega) hx.out.2.2.2.2.1 hx.out.2.2.2.2.2.1 hx.out.2.2.2.2.2.2 (by have := HZ.out; unfold rd_T46 at this; rw [show y.toNat = j by have := hx.out.2.1; omega] at this; exact this) HV.out
          have nR' := nR.out
          rw [← HAd.out, show x.toNat = i by have := hx.out.1; omega] at nR'
          refine ⟨⟨i + 1, j + 1, x + 1, y + 1, xs.set i z, ⟨by have := hx.out.1; omega, by have := hx.out.2.1; omega, by have := hx.out.2.2.1; omega, by have := H0.out; have := hx.out.2.1; omega, hs.1, hs.2.1, hs.2.2⟩, by rw [hv], by rw [hw], ⟨nR'⟩, nB, nW⟩, ?_⟩
          rw [hw]
          show ((l.length : Int) - (y + 1)).toNat < ((l.length : Int) - y).toNat
          have := H0.out
          omega
        | false =>
          have HV := Aside0.mk hnm
          have hP : (fun x : S46 => some (!nm name x)) z = some true := by show some (!nm name z) = some true; rw [hnm]; rfl
          have HP := Aside0.mk hP
          clear hP hnm
          go_wp2_with (go_at_call 38; (with_reducible refine (HF.out z _ _ HP.out ((nB.out.block gn HN.out.1).trans HN.out.2)).mono ?_); rintro e w3 ⟨rfl, hb3⟩; have mB := Aside0.mk (nB.out.trans (hb3.mono nW.out)); have mR := Aside0.mk (Kd.R_below nR.out hb3); have mW := Aside0.mk (Nat.le_trans nW.out hb3.size); clear hb3 nB nR nW HK c0 c1 c2 c3 c4 c5 c6 c7 c8 c9)
          have hw : wrap64 (y + 1) = y + 1 := by have := HL.out; have := H0.out; unfold wrap64; omega
          have hs := skip_step (nm name) xs l i j z z46 (by have := H0.out; have := hx.out.2.1; omega) hx.out.2.2.2.2.1 hx.out.2.2.2.2.2.1 hx.out.2.2.2.2.2.2 (by have := HZ.out; unfold rd_T46 at this; rw [show y.toNat = j by have := hx.out.2.1; omega] at this; exact this) HV.out
          refine ⟨⟨i, j + 1, x, y + 1, xs, ⟨hx.out.1, by have := hx.out.2.1; omega, by have := hx.out.2.2.1; omega, by have := H0.out; have := hx.out.2.1; omega, hx.out.2.2.2.2.1, hs.1, hs.2⟩, rfl, by rw [hw], mR, mB, mW⟩, ?_⟩
          rw [hw]
          show ((l.length : Int) - (y + 1)).toNat < ((l.length : Int) - y).toNat
          have := H0.out
          omega
      · have hd := decide_eq_false h
        have x0 : 0 ≤ x := by have := hx.out.1; omega
        have x1 : x < (l.length : Int) := by have := hx.out.1; have := hx.out.2.2.1; have := hx.out.2.2.2.1; omega
        have p0 := eq_true x0
        have p1 := eq_true (show x ≤ (l.length : Int) by omega)
        have p2 := eq_true (show x ≤ (c : Int) by omega)
        have p3 := eq_true (show (l.length : Int) ≤ (c : Int) by omega)
        have HX := Aside0.mk (And.intro x0 x1)
        have hfin : l.filter (nm name) = xs.take x.toNat := by
          have e1 := hx.out.2.2.2.2.2.1
          rw [List.take_of_length_le (show l.length ≤ j by have := hx.out.2.1; omega)] at e1
          rw [← e1, show x.toNat = i by have := hx.out.1; omega]
        have HFI := Aside0.mk hfin
        have p4 : ((x.toNat : Nat) == c) = false := by simp; omega
        have p5 : (c == (x.toNat : Nat)) = false := by simp; omega
        have p6 := eq_false (show ¬ c = x.toNat by omega)
        have p7 := eq_false (show ¬ x.toNat = c by omega)
        have p8 := eq_false (show ¬ c - x.toNat = 0 by omega)
        have p9 : ((c - x.toNat : Nat) == 0) = false := by simp; omega
        have ha : ad.add (x.toNat * 10) = ⟨g, x.toNat * 10, none⟩ := by rw [HAd.out]; exact add0 _ _
        have HA := Aside0.mk ha
        have hR2 := hR.out
        rw [HAd.out] at hR2
        obtain ⟨cur, hcu, hfit, hbg⟩ := row_cur hR2
        have HCU := Aside0.mk hcu
        have HFT := Aside0.mk hfit
        have HBG := Aside0.mk hbg
        have HR2 := Aside0.mk hR2
        clear hfin h x0 x1 ha hR2 hcu hfit hbg hR
        go_wp2_with ((with_reducible refine gate_builtin (b := .clear) rfl ?_); refine clear_event rfl rfl (.tmp 38) rfl g (x.toNat * 10) (l.length - x.toNat) (c - x.toNat) cur (congrArg (fun q => Value.slice (some q) (l.length - x.toNat) (c - x.toNat)) HA.out) HCU.out (by have := HFT.out; have := HX.out; omega) (by have := HX.out; omega) ?_; intro cs hcs1 hcs2; have HC1 := Aside0.mk hcs1; have HC2 := Aside0.mk hcs2; clear hcs1 hcs2)
        go_ret
        have e : x.toNat ≤ xs.length := by have := hx.out.2.2.2.2.1; have := HX.out; omega
        have r := head_R wr (wr.setRow g cs.toArray) base g l.length c x.toNat _ xs HR2.out e (fun cur' hc' => by
          have e2 := HCU.out.symm.trans hc'
          injection e2 with e2
          injection e2 with e2
          subst e2
          exact ⟨cs, setRow_heap wr g cur _ _ _ HCU.out, HC1.out, HC2.out⟩)
        rw [← HAd.out, ← HFI.out] at r
        exact ⟨_, rfl, r, below_setRow hB.out HBG.out _⟩
/-- what Seen gives -/
def seenV (name : ByteArray) (l : List S46) : List S46 := l.filter (nm name)
set_option maxRecDepth 100000 in
set_option maxHeartbeats 4000000 in
theorem seen_walk (A : Option Addr) (c : Nat) (l : List S46) (name : ByteArray) (w : World) (hC : Kd.C k46 w A l.length l) (hc : l.length ≤ c) (hL : l.length < 1599289640401) :
    Calls Try.prog 16 #[.slice A l.length c, .string name] w fun e w' => ∃ v', e = .returned v' ∧ Kd.R k46 46 w' w.heap.size (fun _ => True) v' (seenV name l) ∧ Below w.heap.size w w' := by
  have hb1 : Below w.heap.size w (w.alloc (.cells #[.string name] 9)) := (Below.refl _ w).alloc (Nat.le_refl _) _
  have HC := Aside0.mk (Kd.C_below hC hb1)
  have HL := Aside0.mk hL
  have HB := Aside0.mk hb1
  have HN := Aside0.mk (heap_alloc_new w (.cells #[.string name] 9))
  have HE := Aside0.mk (show audit_Event_37.f l = some l by unfold audit_Event_37.f; rw [Option.bind_some, if_pos (by simpa using hL)]; rfl)
  clear hC hL hb1
  go_enter Try.func16, Try.ntmps16
  go_wp2_with (fail)
  refine (audit_Event_37.calls A c l l _ HC.out hc HE.out).mono ?_
  rintro e w2 ⟨v1, rfl, hR, hb2⟩
  have nR := Aside0.mk hR
  have nB := Aside0.mk hb2
  clear hR hb2 HC
  go_wp2_with (fail)
  refine (delete_walk w.heap.size name (w.alloc (.cells #[.string name] 9)).heap.size (by simp) v1 l _ w2 nR.out HN.out nB.out.size nB.out (by have := HL.out; omega)).mono ?_
  rintro e w3 ⟨v2, rfl, hR, hb3⟩
  have mR := Aside0.mk hR
  have mB := Aside0.mk hb3
  clear hR hb3 nR nB
  go_wp2
  go_ret
  exact ⟨_, rfl, Kd.R_lower mR.out HB.out.size, HB.out.trans (mB.out.mono HB.out.size)⟩
def audit_Seen.f (l0 : List (S46)) (a1 : ByteArray) : Option (List (S46)) := if l0.length < 1599289640401 then some (seenV a1 l0) else none
theorem audit_Seen.calls (A0 : Option Addr) (c0 : Nat) (l0 : List (S46)) (a1 : ByteArray) (r : List (S46)) (w : World) (hr0 : Kd.C k46 w A0 l0.length l0) (hc0 : l0.length ≤ c0) (h : audit_Seen.f l0 a1 = some r) :
    Calls Try.prog 16 #[.slice A0 l0.length c0, .string a1] w fun e w' => ∃ v0_ : Value, e = .returned (v0_) ∧ Kd.R k46 46 w' w.heap.size (fun _ => True) v0_ r ∧ Below w.heap.size w w' := by
  unfold audit_Seen.f at h
  split at h
  · rename_i hL
    obtain rfl := Option.some.inj h
    exact seen_walk A0 c0 l0 a1 w hr0 hc0 hL
  · cases h

end Go.Proofs.Ytiljnlhmeolhfaa.MAuditAlone
