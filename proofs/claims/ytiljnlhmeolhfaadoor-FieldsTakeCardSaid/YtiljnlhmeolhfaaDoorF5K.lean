/-
  The reference's reader: Take, Done, walked; the reader's methods on nil.
-/
import Derived.Test.YtiljnlhmeolhfaaDoorF5
import Derived.LoopTactic
namespace Go.Proofs.YtiljnlhmeolhfaaDoor.MFd
open Go.RowKit Go.Proofs.YtiljnlhmeolhfaaDoorW.PrintWords Go.Proofs.YtiljnlhmeolhfaaDoorW.PrintLast Go.Proofs.YtiljnlhmeolhfaaDoorW.PrintMore
set_option linter.unusedVariables false
set_option linter.unusedSimpArgs false

theorem Sl.drop {w : World} {A : Option Addr} {n c k : Nat} {l : List Int} (h : Sl w A n c l) (hk : k ≤ n) : Sl w (if c = k then A else A.map (·.add (k * 1))) (n - k) (c - k) (l.drop k) := by
  have hl := h.len
  have hc := h.cap
  have hr := h.rd
  have hC := Kd.C_drop (m := k) hr (by omega) (show l.length ≤ c by omega)
  have hsz : (Kd.int .u8).sz = 1 := rfl
  rw [hsz] at hC
  exact ⟨hC, by rw [List.length_drop]; omega, by omega⟩
theorem same_block {A : Option Addr} {c k : Nat} {a : Addr} (h : (if c = k then A else A.map (·.add (k * 1))) = some a) : ∃ a0, A = some a0 ∧ a.block = a0.block := by
  split at h
  · exact ⟨a, h, rfl⟩
  · cases A with
    | none => cases h
    | some b => injection h with h; subst h; exact ⟨b, rfl, add_block b _⟩
theorem leV_step (l : List Int) (hby : ∀ x ∈ l, 0 ≤ x ∧ x < 256) (hl : l.length ≤ 8) (j : Nat) (c : Int) (hj : l[j]? = some c) : IntKind.u64.wrap (IntKind.u64.wrap (256 * leV (l.drop (j + 1))) + IntKind.u64.wrap c) = leV (l.drop j) := by
  obtain ⟨h, hc⟩ := List.getElem?_eq_some_iff.1 hj
  have e : leV (l.drop j) = c + 256 * leV (l.drop (j + 1)) := by rw [List.drop_eq_getElem_cons h, hc]; rfl
  have r1 := leV_range (l.drop (j + 1)) (fun x hx => hby x (List.mem_of_mem_drop hx))
  have r0 := leV_range (l.drop j) (fun x hx => hby x (List.mem_of_mem_drop hx))
  have rc := hby c (by rw [← hc]; exact List.getElem_mem h)
  have hp : (256 : Int) ^ (l.drop j).length ≤ 18446744073709551616 := by
    have h8 : (l.drop j).length ≤ 8 := by rw [List.length_drop]; omega
    have : (l.drop j).length = 0 ∨ (l.drop j).length = 1 ∨ (l.drop j).length = 2 ∨ (l.drop j).length = 3 ∨ (l.drop j).length = 4 ∨ (l.drop j).length = 5 ∨ (l.drop j).length = 6 ∨ (l.drop j).length = 7 ∨ (l.drop j).length = 8 := by omega
    rcases this with e | e | e | e | e | e | e | e | e <;> rw [e] <;> decide
  rw [e] at r0 ⊢
  rw [IntKind.wrap_u64, IntKind.wrap_u64, IntKind.wrap_u64]
  omega
set_option maxRecDepth 100000 in
theorem ref_take (n : Nat) (h1n : 1 ≤ n) (hn8 : n ≤ 8) (A : Option Addr) (m c : Nat) (l : List Int) (bad : Bool) (w : World) (h : Sl w A m c l) (hby : ∀ x ∈ l, 0 ≤ x ∧ x < 256) (hm : m ≤ 1000) :
    Calls Tryd.prog 38 #[.agg #[.slice A m c, .bool bad], .int .i64 (n : Int)] w fun e w' => ∃ A' m' c', e = .returned (.tuple #[.agg #[.slice A' m' c', .bool (rdBad l bad n)], .int .u64 (rdNum l bad n)]) ∧ Sl w' A' m' c' (rdLeft l bad n) ∧ (∀ a, A' = some a → ∃ a0, A = some a0 ∧ a.block = a0.block) ∧ Below w.heap.size w w' := by
  have hlen : Aside0 (m = l.length) := ⟨h.len⟩
  obtain ⟨w1, hw1⟩ : ∃ w1, w1 = w.alloc (.cells #[.slice A m c, .bool bad] 60) := ⟨_, rfl⟩
  obtain ⟨w2, hw2⟩ : ∃ w2, w2 = w1.alloc (.cells #[.slice none 0 0, .bool false] 60) := ⟨_, rfl⟩
  have hb1 : Below w.heap.size w w1 := by rw [hw1]; exact (Below.refl _ w).alloc (Nat.le_refl _) _
  have hb2 : Below w.heap.size w w2 := by rw [hw2]; exact hb1.alloc hb1.size _
  have h1 : w1.heap[w.heap.size]? = some (.cells #[.slice A m c, .bool bad] 60 (0, 0)) := by rw [hw1]; exact heap_alloc_new w _
  have hlt : w.heap.size < w1.heap.size := (Array.getElem?_eq_some_iff.1 h1).1
  have h2 : w2.heap[w.heap.size]? = some (.cells #[.slice A m c, .bool bad] 60 (0, 0)) := by rw [hw2]; exact (heap_alloc_old w1 _ _ hlt).trans h1
  have h3 : w2.heap[w1.heap.size]? = some (.cells #[.slice none 0 0, .bool false] 60 (0, 0)) := by rw [hw2]; exact heap_alloc_new w1 _
  have hsz : w1.heap.size = w.heap.size + 1 := by rw [hw1]; simp
  rw [hsz] at h3
  have hS2 := h.below hb2
  have HX := Lib.hid (And.intro h2 (And.intro h3 (And.intro hb2 (And.intro hS2 hsz))))
  have HW1 := Lib.hid hw1
  have HW2 := Lib.hid hw2
  have b0 : w2.cell? ⟨w.heap.size, 0, none⟩ = some (.slice A m c) := (blk_cell h2 0).trans rfl
  have b1 : w2.cell? ⟨w.heap.size, 1, none⟩ = some (.bool bad) := (blk_cell h2 1).trans rfl
  have bf0 := blk_frozen h2 0
  have bf1 := blk_frozen h2 1
  have hd0 : w2.cell? ⟨w.heap.size + 1, 0, none⟩ = some (.slice none 0 0) := (blk_cell h3 0).trans rfl
  have hd1 : w2.cell? ⟨w.heap.size + 1, 1, none⟩ = some (.bool false) := (blk_cell h3 1).trans rfl
  have hg0 := blk_frozen h3 0
  have hg1 := blk_frozen h3 1
  have HC := Lib.hid (And.intro b0 (And.intro b1 (And.intro bf0 (And.intro bf1 (And.intro hd0 (And.intro hd1 (And.intro hg0 hg1)))))))
  clear b0 b1 bf0 bf1 hd0 hd1 hg0 hg1
  clear h1 h2 h3 hb1 hb2 hS2 hw1 hw2 hlt
  have HSZ := Lib.hid hsz
  clear hsz
  have H0 := Lib.hid (And.intro h hby)
  clear h hby
  by_cases hs : bad = true ∨ l.length < n
  · have e1 : rdBad l bad n = true := by unfold rdBad; rcases hs with h | h <;> simp [h]
    have e2 : rdLeft l bad n = [] := by unfold rdLeft; rw [if_pos hs]
    have e3 : rdNum l bad n = 0 := by unfold rdNum; rw [if_pos hs]
    rw [e1, e2, e3]
    obtain ⟨wz, hwz⟩ : ∃ wz, wz = w1.alloc (.cells #[.slice none 0 0, .bool true] 60) := ⟨_, rfl⟩
    have hz3 : wz.heap[w.heap.size + 1]? = some (.cells #[.slice none 0 0, .bool true] 60 (0, 0)) := by rw [hwz, ← HSZ.out]; exact heap_alloc_new w1 _
    have hzb : Below w.heap.size w wz := by
      have hb1 : Below w.heap.size w w1 := by rw [HW1.out]; exact (Below.refl _ w).alloc (Nat.le_refl _) _
      rw [hwz]; exact hb1.alloc hb1.size _
    have HZ := Lib.hid (And.intro hwz (And.intro hz3 hzb))
    clear hwz hz3 hzb e1 e2 e3
    have hend : ∃ A' m' c', Ending.returned (.tuple #[.agg #[.slice none 0 0, .bool true], .int .u64 0]) = .returned (.tuple #[.agg #[.slice A' m' c', .bool true], .int .u64 0]) ∧ Sl wz A' m' c' [] ∧ (∀ a, A' = some a → ∃ a0, A = some a0 ∧ a.block = a0.block) ∧ Below w.heap.size w wz := ⟨none, 0, 0, rfl, Sl.nil wz, (fun a ha => nomatch ha), HZ.out.2.2⟩
    have HE := Lib.hid hend
    clear hend
    cases bad with
    | true =>
      clear hs
      go_enter Tryd.func38, Tryd.ntmps38
      go_wp2_with (fail)
      rw [← HW1.out, ← HZ.out.1]
      refine bodyPost_ret (results_ct rfl _ wz (w.heap.size + 1) 60 #[.slice none 0 0, .bool true] (0, 0) _ rfl HZ.out.2.1 Tryd.underlying60 rfl (by kernel_rfl)) rfl ?_
      exact HE.out
    | false =>
      have hq : (m : Int) < (n : Int) := by have := hs.resolve_left (by simp); have := hlen.out; omega
      clear hs
      go_enter Tryd.func38, Tryd.ntmps38
      go_wp2_with (fail)
      rw [← HW1.out, ← HZ.out.1]
      refine bodyPost_ret (results_ct rfl _ wz (w.heap.size + 1) 60 #[.slice none 0 0, .bool true] (0, 0) _ rfl HZ.out.2.1 Tryd.underlying60 rfl (by kernel_rfl)) rfl ?_
      exact HE.out
  · obtain ⟨hbad, hnl⟩ : bad = false ∧ n ≤ l.length := by
      cases bad
      · exact ⟨rfl, by omega⟩
      · exact absurd (Or.inl rfl) hs
    subst hbad
    have hnm : n ≤ m := by have := hlen.out; omega
    have e1 : rdBad l false n = false := by unfold rdBad; simp; omega
    have e2 : rdLeft l false n = l.drop n := by unfold rdLeft; rw [if_neg hs]
    have e3 : rdNum l false n = numV (l.take n) := by unfold rdNum; rw [if_neg hs]
    obtain ⟨lt, hlt⟩ : ∃ lt, lt = l.take n := ⟨_, rfl⟩
    have hll : lt.length = n := by rw [hlt, List.length_take]; omega
    have hbt : ∀ x ∈ lt, 0 ≤ x ∧ x < 256 := fun x hx => H0.out.2 x (by rw [hlt] at hx; exact List.mem_of_mem_take hx)
    rw [e1, e2, e3, ← hlt, numV_leV lt (by omega) hbt]
    have HT := Lib.hid (And.intro hlt (And.intro hll hbt))
    have HB := Lib.hid (And.intro hnl hnm)
    have hnq : ¬ (m : Int) < (n : Int) := by omega
    have hn0 : (0 : Int) ≤ (n : Int) := by omega
    have hn1 : (n : Int) ≤ 8 := by omega
    clear hs e1 e2 e3 hlt hll hbt hnl hnm h1n hn8
    go_enter Tryd.func38, Tryd.ntmps38
    go_wp2_with (fail)
    rw [← HW1.out, ← HW2.out]
    go_loopw [6, 7] (fun v6 v7 wr => wr = w2 ∧ ∃ (j : Nat) (x : Int), Aside0 (j ≤ n ∧ x = (j : Int) - 1) ∧ v7 = .int .i64 x ∧ v6 = .int .u64 (leV (lt.drop j)))
      (fun _ v7 _ => match v7 with | .int _ n => (n + 1).toNat | _ => 0)
    case atStart => exact ⟨rfl, n, _, ⟨Nat.le_refl _, rfl⟩, rfl, by rw [List.drop_eq_nil_of_le (by have := HT.out.2.1; omega)]; rfl⟩
    case round =>
      obtain ⟨rfl, j, x, hj, rfl, rfl⟩ := hrel
      by_cases h0 : 0 ≤ x
      · have hq : x < (l.length : Int) := by have := hj.out; have := HB.out; omega
        have hC8 : (Kd.int .u8).C wr A l.length l := HX.out.2.2.2.1.rd
        obtain ⟨ad, e_, hx0⟩ := Kd.at_int hC8 x h0 hq
        subst e_
        have hqm : x < (m : Int) := by have := hlen.out; omega
        have hc0 := HC.out.1
        have hf0 := HC.out.2.2.1
        have hstep : Aside0 (IntKind.u64.wrap (IntKind.u64.wrap (256 * leV (lt.drop j)) + IntKind.u64.wrap (rd l x)) = leV (lt.drop (j - 1))) := ⟨by
          have hjj := hj.out
          have hll := HT.out.2.1
          have e1 : lt[j - 1]? = some (rd l x) := by
            have : x.toNat = j - 1 := by omega
            rw [HT.out.1, List.getElem?_take_of_lt (by omega), rd, this, List.getD, List.getElem?_eq_getElem (by have := HB.out; omega)]; rfl
          have := leV_step lt HT.out.2.2 (by omega) (j - 1) _ e1
          rw [show j - 1 + 1 = j by omega] at this
          exact this⟩
        have p_ := eq_true h0
        have q_ := eq_true hqm
        clear hC8 hq
        go_wp2
        refine ⟨⟨trivial, j - 1, x - 1, ⟨by have := hj.out; omega⟩, rfl, by rw [← hstep.out]⟩, ?_⟩
        show (x - 1 + 1).toNat < (x + 1).toNat
        omega
      · have hj0 : j = 0 := by have := hj.out; omega
        subst hj0
        have hx : x = -1 := by have := hj.out; omega
        subst hx
        obtain ⟨i0, hi0, _, hsz, _⟩ := info_parts info5
        have cut2 := cut_from (P := Tryd.prog) 36 5 .i64 Tryd.underlying36 hi0 1 hsz A m c (n : Int) (by omega) (by have := HB.out; omega)
        have hc0 := HC.out.1
        have hf0 := HC.out.2.2.1
        have hd0 := HC.out.2.2.2.2.1
        have hd1 := HC.out.2.2.2.2.2.1
        have hg0 := HC.out.2.2.2.2.2.2.1
        have hg1 := HC.out.2.2.2.2.2.2.2
        simp only [Int.toNat_natCast] at cut2
        obtain ⟨A3, hA3⟩ : ∃ A3, A3 = (if c = n then A else A.map (·.add (n * 1))) := ⟨_, rfl⟩
        rw [← hA3] at cut2
        have HA3 := Lib.hid hA3
        clear hi0 hsz hA3
        go_wp2_with (fail)
        obtain ⟨wz, hwz⟩ : ∃ wz, wz = (wr.setCell ⟨w.heap.size + 1, 0, none⟩ (.slice A3 (m - n) (c - n))).setCell ⟨w.heap.size + 1, 1, none⟩ (.bool false) := ⟨_, rfl⟩
        have hz3 : wz.heap[w.heap.size + 1]? = some (.cells #[.slice A3 (m - n) (c - n), .bool false] 60 (0, 0)) := by
          rw [hwz]
          exact blk_put (cs := #[.slice A3 (m - n) (c - n), .bool false]) (blk_put (cs := #[.slice none 0 0, .bool false]) HX.out.2.1 0 _ rfl) 1 _ rfl
        have hzb : Below w.heap.size w wz := by
          rw [hwz]
          exact (HX.out.2.2.1.setCell (Nat.le_succ _) _).setCell (Nat.le_succ _) _
        rw [← hwz]
        refine bodyPost_ret (results_ct rfl _ wz (w.heap.size + 1) 60 #[.slice A3 (m - n) (c - n), .bool false] (0, 0) _ rfl hz3 Tryd.underlying60 rfl (by kernel_rfl)) rfl ?_
        refine ⟨A3, m - n, c - n, rfl, ?_, ?_, hzb⟩
        · rw [HA3.out]; exact (H0.out.1.drop HB.out.2).below hzb
        · intro a ha; rw [HA3.out] at ha; exact same_block ha
set_option maxRecDepth 100000 in
theorem ref_done (A : Option Addr) (m c : Nat) (bad : Bool) (w : World) :
    Calls Tryd.prog 40 #[.agg #[.slice A m c, .bool bad]] w fun e w' => e = .returned (.bool (!bad && decide (m = 0))) ∧ Below w.heap.size w w' := by
  cases bad with
  | true =>
    go_enter Tryd.func40, Tryd.ntmps40
    go_wp2_with (fail)
    go_ret
    exact ⟨by simp, (Below.refl _ w).alloc (Nat.le_refl _) _⟩
  | false =>
    obtain ⟨d, hd⟩ : ∃ d, d = decide (m = 0) := ⟨_, rfl⟩
    have h1 : (((m : Nat) : Int) == 0) = d := by rw [hd]; by_cases h : m = 0 <;> simp [h]
    rw [← hd]
    clear hd
    go_enter Tryd.func40, Tryd.ntmps40
    go_wp2_with (fail)
    go_ret
    exact ⟨by simp, (Below.refl _ w).alloc (Nat.le_refl _) _⟩
set_option maxRecDepth 100000 in
theorem u8_nil (w : World) : Calls Tryd.prog 36 #[.pointer none] w fun e w' => e = .returned (.int .u8 0) ∧ Below w.heap.size w w' := by
  have hN : Calls Tryd.prog 61 #[.pointer none, .int .i64 1] w fun e w' => e = .returned (.int .u64 0) ∧ Below w.heap.size w w' := number_nil 1 w
  go_enter Tryd.func36, Tryd.ntmps36
  go_wp2_with (go_at_call 61; (with_reducible refine hN.mono ?_); rintro e w2 ⟨rfl, hb⟩)
  go_ret
  exact ⟨rfl, hb⟩
set_option maxRecDepth 100000 in
theorem u16_nil (w : World) : Calls Tryd.prog 31 #[.pointer none] w fun e w' => e = .returned (.int .u16 0) ∧ Below w.heap.size w w' := by
  have hN : Calls Tryd.prog 61 #[.pointer none, .int .i64 2] w fun e w' => e = .returned (.int .u64 0) ∧ Below w.heap.size w w' := number_nil 2 w
  go_enter Tryd.func31, Tryd.ntmps31
  go_wp2_with (go_at_call 61; (with_reducible refine hN.mono ?_); rintro e w2 ⟨rfl, hb⟩)
  go_ret
  exact ⟨rfl, hb⟩
set_option maxRecDepth 100000 in
theorem u32_nil (w : World) : Calls Tryd.prog 32 #[.pointer none] w fun e w' => e = .returned (.int .u32 0) ∧ Below w.heap.size w w' := by
  have hN : Calls Tryd.prog 61 #[.pointer none, .int .i64 4] w fun e w' => e = .returned (.int .u64 0) ∧ Below w.heap.size w w' := number_nil 4 w
  go_enter Tryd.func32, Tryd.ntmps32
  go_wp2_with (go_at_call 61; (with_reducible refine hN.mono ?_); rintro e w2 ⟨rfl, hb⟩)
  go_ret
  exact ⟨rfl, hb⟩
set_option maxRecDepth 100000 in
theorem i64_nil (w : World) : Calls Tryd.prog 33 #[.pointer none] w fun e w' => e = .returned (.int .i64 0) ∧ Below w.heap.size w w' := by
  have hN : Calls Tryd.prog 61 #[.pointer none, .int .i64 8] w fun e w' => e = .returned (.int .u64 0) ∧ Below w.heap.size w w' := number_nil 8 w
  go_enter Tryd.func33, Tryd.ntmps33
  go_wp2_with (go_at_call 61; (with_reducible refine hN.mono ?_); rintro e w2 ⟨rfl, hb⟩)
  go_ret
  exact ⟨rfl, hb⟩
set_option maxRecDepth 100000 in
theorem text_nil (w : World) : Calls Tryd.prog 34 #[.pointer none] w fun e w' => e = .returned (.string ⟨#[]⟩) ∧ Below w.heap.size w w' := by
  have hU := u8_nil w
  have hT : ∀ w, Calls Tryd.prog 62 #[.pointer none, .int .i64 0] w fun e w' => e = .returned (.slice none 0 0) ∧ w' = w := fun w => take_nil 0 w
  have hS : ∀ w, Sl w none 0 0 [] := Sl.nil
  go_enter Tryd.func34, Tryd.ntmps34
  go_wp2_with (first | (go_at_call 36; (with_reducible refine hU.mono ?_); rintro e w2 ⟨rfl, hb⟩) | (go_at_call 62; (with_reducible refine (hT _).mono ?_); rintro e w3 ⟨rfl, rfl⟩; have hcv := Kd.C_string (P := Tryd.prog) (A := none) (c := 0) Tryd.underlying36 Tryd.underlying5 Tryd.underlying9 (Sl.nil w3).rd; simp only [List.length_nil] at hcv))
  go_ret
  exact ⟨rfl, hb⟩
set_option maxRecDepth 100000 in
theorem left_nil (w : World) : Calls Tryd.prog 37 #[.pointer none] w fun e w' => e = .returned (.int .i64 0) ∧ w = w' := by
  go_enter Tryd.func37, Tryd.ntmps37
  go_wp2
  go_ret
  exact ⟨rfl, rfl⟩
set_option maxRecDepth 100000 in
theorem done_nil (w : World) : Calls Tryd.prog 35 #[.pointer none] w fun e w' => e = .returned (.iface 75 (.int .i64 3)) ∧ w = w' := by
  go_enter Tryd.func35, Tryd.ntmps35
  go_wp2
  go_ret
  exact ⟨rfl, rfl⟩
end Go.Proofs.YtiljnlhmeolhfaaDoor.MFd
