/-
  The reference's reader: Words, walked.
-/
import Derived.Test.YtiljnlhmeolhfaaDoorF5K
namespace Go.Proofs.YtiljnlhmeolhfaaDoor.MFd
open Go.RowKit Go.Proofs.YtiljnlhmeolhfaaDoorW.PrintWords Go.Proofs.YtiljnlhmeolhfaaDoorW.PrintLast Go.Proofs.YtiljnlhmeolhfaaDoorW.PrintMore
set_option linter.unusedVariables false
set_option linter.unusedSimpArgs false

theorem Sl.takeN {w : World} {A : Option Addr} {n c k : Nat} {l : List Int} (h : Sl w A n c l) (hk : k ≤ n) : Sl w A k c (l.take k) := by
  have hl := h.len
  have hC := Kd.C_take (m := k) h.rd (by omega)
  exact ⟨hC, by rw [List.length_take]; omega, by have := h.cap; omega⟩
theorem rdByte_num (l : List Int) (bad : Bool) (hby : ∀ x ∈ l, 0 ≤ x ∧ x < 256) : rdNum l bad 1 = (rdByte l bad : Int) ∧ rdByte l bad < 256 := by
  have h : 0 ≤ rdNum l bad 1 ∧ rdNum l bad 1 < 256 := by
    unfold rdNum
    split
    · omega
    · rw [numV_leV _ (by rw [List.length_take]; omega) (fun x hx => hby x (List.mem_of_mem_take hx))]
      have := leV_range (l.take 1) (fun x hx => hby x (List.mem_of_mem_take hx))
      have hl : (l.take 1).length = 1 := by rw [List.length_take]; omega
      rw [hl] at this
      omega
  rw [rdByte_eq]
  have e : IntKind.u8.wrap (rdNum l bad 1) = rdNum l bad 1 := by show (rdNum l bad 1) % 256 = _; omega
  refine ⟨e.symm, ?_⟩
  have := rdByte_eq l bad
  rw [e] at this
  omega
theorem rdLeft_by (l : List Int) (bad : Bool) (n : Nat) (hby : ∀ x ∈ l, 0 ≤ x ∧ x < 256) : ∀ x ∈ rdLeft l bad n, 0 ≤ x ∧ x < 256 := by
  unfold rdLeft
  split
  · simp
  · exact fun x hx => hby x (List.mem_of_mem_drop hx)
set_option maxRecDepth 100000 in
theorem ref_words (A : Option Addr) (m c : Nat) (l : List Int) (bad : Bool) (w : World) (h : Sl w A m c l) (hby : ∀ x ∈ l, 0 ≤ x ∧ x < 256) (hm : m ≤ 1000) :
    Calls Tryd.prog 39 #[.agg #[.slice A m c, .bool bad]] w fun e w' => ∃ A' m' c', e = .returned (.tuple #[.agg #[.slice A' m' c', .bool (rdBad (rdLeft l bad 1) (rdBad l bad 1) (rdByte l bad))], .string (strOfNums (rdTake (rdLeft l bad 1) (rdBad l bad 1) (rdByte l bad)))]) ∧ Sl w' A' m' c' (rdLeft (rdLeft l bad 1) (rdBad l bad 1) (rdByte l bad)) ∧ (∀ a, A' = some a → ∃ a0, A = some a0 ∧ a.block = a0.block) ∧ Below w.heap.size w w' := by
  obtain ⟨w1, hw1⟩ : ∃ w1, w1 = w.alloc (.cells #[.slice A m c, .bool bad] 60) := ⟨_, rfl⟩
  obtain ⟨w2, hw2⟩ : ∃ w2, w2 = w1.alloc (.cells #[.slice none 0 0, .bool false] 60) := ⟨_, rfl⟩
  have hb1 : Below w.heap.size w w1 := by rw [hw1]; exact (Below.refl _ w).alloc (Nat.le_refl _) _
  have hb2 : Below w.heap.size w w2 := by rw [hw2]; exact hb1.alloc hb1.size _
  have h1 : w1.heap[w.heap.size]? = some (.cells #[.slice A m c, .bool bad] 60 (0, 0)) := by rw [hw1]; exact heap_alloc_new w _
  have hlt : w.heap.size < w1.heap.size := (Array.getElem?_eq_some_iff.1 h1).1
  have h2 : w2.heap[w.heap.size]? = some (.cells #[.slice A m c, .bool bad] 60 (0, 0)) := by rw [hw2]; exact (heap_alloc_old w1 _ _ hlt).trans h1
  have h3 : w2.heap[w1.heap.size]? = some (.cells #[.slice none 0 0, .bool false] 60 (0, 0)) := by rw [hw2]; exact heap_alloc_new w1 _
  have hsz : w1.heap.size = w.heap.size + 1 := by rw [hw1]; simp
  have hsz2 : w2.heap.size = w.heap.size + 2 := by rw [hw2]; simp [hsz]
  rw [hsz] at h3
  have hT : Calls Tryd.prog 38 #[.agg #[.slice A m c, .bool bad], .int .i64 1] w2 fun e w' => ∃ A' m' c', e = .returned (.tuple #[.agg #[.slice A' m' c', .bool (rdBad l bad 1)], .int .u64 (rdNum l bad 1)]) ∧ Sl w' A' m' c' (rdLeft l bad 1) ∧ (∀ a, A' = some a → ∃ a0, A = some a0 ∧ a.block = a0.block) ∧ Below w2.heap.size w2 w' := ref_take 1 (by omega) (by omega) A m c l bad w2 (h.below hb2) hby hm
  have hlA : ∀ a, A = some a → 0 < m → a.block < w.heap.size := fun a ha hp => h.lt ha hp
  obtain ⟨nb, hnb⟩ : ∃ nb, nb = rdByte l bad := ⟨_, rfl⟩
  obtain ⟨L, hL⟩ : ∃ L, L = rdLeft l bad 1 := ⟨_, rfl⟩
  obtain ⟨b, hb⟩ : ∃ b, b = rdBad l bad 1 := ⟨_, rfl⟩
  have hnn := rdByte_num l bad hby
  rw [hnn.1, ← hnb, ← hL, ← hb] at hT
  rw [← hnb, ← hL, ← hb]
  rw [← hnb] at hnn
  have hn0 : (0 : Int) ≤ (nb : Int) := by omega
  have hn1 : (nb : Int) ≤ 255 := by omega
  have hLl : Aside0 (L.length ≤ m) := ⟨by rw [hL]; unfold rdLeft; split <;> simp [← h.len]⟩
  have HX := Lib.hid (And.intro h2 (And.intro h3 (And.intro hb2 (And.intro hsz2 hlA))))
  have HW1 := Lib.hid hw1
  have HW2 := Lib.hid hw2
  clear h1 h2 h3 hb1 hb2 hw1 hw2 hlt hsz hsz2 hlA h hby hnb hL hb hnn
  have hu : Tryd.prog.underlying 60 = _ := Tryd.underlying60
  go_enter Tryd.func39, Tryd.ntmps39
  go_upto_region 2 with (first | (go_at_call 38; rw [← HW1.out, ← HW2.out]; (with_reducible refine hT.mono ?_); rintro e w3 ⟨A1, m1, c1, rfl, hS3, hA3, hb3⟩; have HS3 := Lib.hid (And.intro hS3 (And.intro hA3 hb3)); have hk1 : w3.heap[w.heap.size]? = _ := (hb3.block _ (by rw [HX.out.2.2.2.1]; omega)).trans HX.out.1; have hk2 : w3.heap[w.heap.size + 1]? = _ := (hb3.block _ (by rw [HX.out.2.2.2.1]; omega)).trans HX.out.2.1; have k0 : w3.cell? ⟨w.heap.size, 0, none⟩ = some (.slice A m c) := (blk_cell hk1 0).trans rfl; have k1 : w3.cell? ⟨w.heap.size, 1, none⟩ = some (.bool bad) := (blk_cell hk1 1).trans rfl; have kf0 := blk_frozen hk1 0; have kf1 := blk_frozen hk1 1; have HK := Lib.hid (And.intro hk1 hk2); clear hk1 hk2 hS3 hA3 hb3 hT))
  obtain ⟨w4, hw4⟩ : ∃ w4, w4 = (w3.setCell ⟨w.heap.size, 0, none⟩ (.slice A1 m1 c1)).setCell ⟨w.heap.size, 1, none⟩ (.bool b) := ⟨_, rfl⟩
  rw [← hw4]
  have hlt2 : w.heap.size + 1 < w3.heap.size := (Array.getElem?_eq_some_iff.1 HK.out.2).1
  have hk1 : w4.heap[w.heap.size]? = some (.cells #[.slice A1 m1 c1, .bool b] 60 (0, 0)) := by
    rw [hw4]; exact blk_put (cs := #[.slice A1 m1 c1, .bool bad]) (blk_put (cs := #[.slice A m c, .bool bad]) HK.out.1 0 _ rfl) 1 _ rfl
  have hbut : But w.heap.size w3 w4 := by rw [hw4]; exact ((But.refl _ w3).setCell 0 _).setCell 1 _
  have hk2 : w4.heap[w.heap.size + 1]? = some (.cells #[.slice none 0 0, .bool false] 60 (0, 0)) := (hbut.block _ hlt2 (by omega)).trans HK.out.2
  have hmm : m1 ≤ m := by have := HS3.out.1.len; have := hLl.out; omega
  have hS4 : Sl w4 A1 m1 c1 L := HS3.out.1.but hbut (fun a ha hp => by
    obtain ⟨a0, e0, e1⟩ := HS3.out.2.1 a ha
    have := HX.out.2.2.2.2 a0 e0 (by omega)
    omega)
  have hB4 : Below w.heap.size w w4 := but_below hbut (HX.out.2.2.1.trans (HS3.out.2.2.mono HX.out.2.2.1.size)) (Nat.le_refl _) (by omega)
  have k0 : w4.cell? ⟨w.heap.size, 0, none⟩ = some (.slice A1 m1 c1) := (blk_cell hk1 0).trans rfl
  have k1 : w4.cell? ⟨w.heap.size, 1, none⟩ = some (.bool b) := (blk_cell hk1 1).trans rfl
  have kf0 := blk_frozen hk1 0
  have kf1 := blk_frozen hk1 1
  have q0 : w4.cell? ⟨w.heap.size + 1, 0, none⟩ = some (.slice none 0 0) := (blk_cell hk2 0).trans rfl
  have q1 : w4.cell? ⟨w.heap.size + 1, 1, none⟩ = some (.bool false) := (blk_cell hk2 1).trans rfl
  have qf0 := blk_frozen hk2 0
  have qf1 := blk_frozen hk2 1
  have fin : ∀ (v : Value) (d : Bool) (v0 : v.oneCell' = true), Aside0 (∃ wz, wz = (w4.setCell ⟨w.heap.size + 1, 0, none⟩ v).setCell ⟨w.heap.size + 1, 1, none⟩ (.bool d) ∧ wz.heap[w.heap.size + 1]? = some (.cells #[v, .bool d] 60 (0, 0)) ∧ Below w.heap.size w wz ∧ But (w.heap.size + 1) w4 wz) := fun v d v0 =>
    ⟨⟨_, rfl, blk_put (cs := #[v, .bool false]) (blk_put (cs := #[.slice none 0 0, .bool false]) hk2 0 _ (by cases v <;> first | rfl | exact v0)) 1 _ rfl, (hB4.setCell (Nat.le_succ _) _).setCell (Nat.le_succ _) _, ((But.refl _ w4).setCell 0 _).setCell 1 _⟩⟩
  have fin2 : ∀ (v : Value) (d : Bool) (v0 : v.oneCell' = true), Aside0 (∃ wz, wz = ((w4.setCell ⟨w.heap.size + 1, 0, none⟩ v).setCell ⟨w.heap.size + 1, 1, none⟩ (.bool d)).drew ∧ wz.heap[w.heap.size + 1]? = some (.cells #[v, .bool d] 60 (0, 0)) ∧ Below w.heap.size w wz ∧ But (w.heap.size + 1) w4 wz) := fun v d v0 => by
    obtain ⟨wz, h0, h1, h2, h3⟩ := (fin v d v0).out
    exact ⟨⟨wz.drew, by rw [h0], h1, h2.drew, h3.drew⟩⟩
  have HS4 := Lib.hid (And.intro hS4 (And.intro HS3.out.2.1 (And.intro hmm HX.out.2.2.2.2)))
  clear hS4 hB4 hbut hk1 hk2 HK hw4 hlt2 HW1 HW2 hmm HX HS3
  have hwm : IntKind.u64.wrap (m1 : Int) = (m1 : Int) := by rw [IntKind.wrap_u64]; have := HS4.out.2.2.1; omega
  by_cases hs : b = true ∨ L.length < nb
  · have e1 : rdBad L b nb = true := by unfold rdBad; rcases hs with h | h <;> simp [h]
    have e2 : rdLeft L b nb = [] := by unfold rdLeft; rw [if_pos hs]
    have e3 : rdTake L b nb = [] := by unfold rdTake; rw [if_pos hs]
    have HE := Lib.hid (And.intro e1 (And.intro e2 e3))
    clear e1 e2 e3
    have hlen : Aside0 (m1 = L.length) := ⟨HS4.out.1.len⟩
    cases b with
    | true =>
      clear hs
      go_wp2_with (fail)
      obtain ⟨wz, hwz, hz3, hzb, _⟩ := (fin (.slice none 0 0) true rfl).out
      rw [← hwz]
      refine bodyPost_ret (results_ct rfl _ wz (w.heap.size + 1) 60 #[.slice none 0 0, .bool true] (0, 0) _ rfl hz3 Tryd.underlying60 rfl (by kernel_rfl)) rfl ?_
      rw [HE.out.1, HE.out.2.1, HE.out.2.2]
      exact ⟨none, 0, 0, rfl, Sl.nil _, (fun a ha => nomatch ha), hzb⟩
    | false =>
      have hq : (m1 : Int) < (nb : Int) := by have := hs.resolve_left (by simp); have := hlen.out; omega
      clear hs
      go_wp2_with (fail)
      obtain ⟨wz, hwz, hz3, hzb, _⟩ := (fin (.slice none 0 0) true rfl).out
      rw [← hwz]
      refine bodyPost_ret (results_ct rfl _ wz (w.heap.size + 1) 60 #[.slice none 0 0, .bool true] (0, 0) _ rfl hz3 Tryd.underlying60 rfl (by kernel_rfl)) rfl ?_
      rw [HE.out.1, HE.out.2.1, HE.out.2.2]
      exact ⟨none, 0, 0, rfl, Sl.nil _, (fun a ha => nomatch ha), hzb⟩
  · obtain ⟨hbad, hnl⟩ : b = false ∧ nb ≤ L.length := by
      cases b
      · exact ⟨rfl, by omega⟩
      · exact absurd (Or.inl rfl) hs
    subst hbad
    have e1 : rdBad L false nb = false := by unfold rdBad; simp; omega
    have e2 : rdLeft L false nb = L.drop nb := by unfold rdLeft; rw [if_neg hs]
    have e3 : rdTake L false nb = L.take nb := by unfold rdTake; rw [if_neg hs]
    have hnm : nb ≤ m1 := by have := HS4.out.1.len; omega
    have hnq : ¬ (m1 : Int) < (nb : Int) := by omega
    have hni : (nb : Int) ≤ (m1 : Int) := by omega
    have hcap := HS4.out.1.cap
    obtain ⟨i0, hi0, _, hsz, _⟩ := info_parts info5
    have cut1 := cut_to (P := Tryd.prog) 36 5 .u64 Tryd.underlying36 hi0 A1 m1 c1 (nb : Int) hn0 hni hcap
    have cut2 := cut_from (P := Tryd.prog) 36 5 .u64 Tryd.underlying36 hi0 1 hsz A1 m1 c1 (nb : Int) hn0 hni
    simp only [Int.toNat_natCast] at cut1 cut2
    obtain ⟨A3, hA3⟩ : ∃ A3, A3 = (if c1 = nb then A1 else A1.map (·.add (nb * 1))) := ⟨_, rfl⟩
    rw [← hA3] at cut2
    obtain ⟨wz, hwz, hz3, hzb, hzk⟩ := (fin2 (.slice A3 (m1 - nb) (c1 - nb)) false rfl).out
    have hSz : Sl wz A1 m1 c1 L := HS4.out.1.but hzk (fun a ha hp => by
      obtain ⟨a0, f0, f1⟩ := HS4.out.2.1 a ha
      have := HS4.out.2.2.2 a0 f0 (by have := HS4.out.2.2.1; omega)
      omega)
    have hS5 : Sl w4.drew A1 m1 c1 L := HS4.out.1.below (Below.refl _ w4).drew
    have hcv4 := Kd.C_string (P := Tryd.prog) (A := A1) (c := c1) Tryd.underlying36 Tryd.underlying5 Tryd.underlying9 (hS5.takeN hnm).rd
    have hcvz := Kd.C_string (P := Tryd.prog) (A := A1) (c := c1) Tryd.underlying36 Tryd.underlying5 Tryd.underlying9 (hSz.takeN hnm).rd
    rw [← (hS5.takeN hnm).len] at hcv4
    rw [← (hSz.takeN hnm).len, hwz] at hcvz
    obtain ⟨X, hX⟩ : ∃ X, X = strOfNums (L.take nb) := ⟨_, rfl⟩
    rw [← hX] at hcv4 hcvz
    have HE := Lib.hid (And.intro e1 (And.intro e2 (And.intro e3 (And.intro hX (And.intro hA3 (And.intro hwz (And.intro hz3 (And.intro hzb (hSz.drop hnm)))))))))
    clear fin2 hS5 e1 e2 e3 hX hA3 hwz hz3 hzb hzk hSz fin hs hnl hnm hi0 hsz
    go_wp2_with (fail)
    go_region
    all_goals (
      go_wp2_with (fail)
      rw [← HE.out.2.2.2.2.2.1]
      refine bodyPost_ret (results_ct rfl _ wz (w.heap.size + 1) 60 #[.slice A3 (m1 - nb) (c1 - nb), .bool false] (0, 0) _ rfl HE.out.2.2.2.2.2.2.1 Tryd.underlying60 rfl (by kernel_rfl)) rfl ?_
      rw [HE.out.1, HE.out.2.1, HE.out.2.2.1, ← HE.out.2.2.2.1]
      refine ⟨A3, m1 - nb, c1 - nb, rfl, ?_, ?_, HE.out.2.2.2.2.2.2.2.1⟩
      · rw [HE.out.2.2.2.2.1]; exact HE.out.2.2.2.2.2.2.2.2
      · intro a ha
        rw [HE.out.2.2.2.2.1] at ha
        obtain ⟨a1, f1, f2⟩ := same_block ha
        obtain ⟨a0, f3, f4⟩ := HS4.out.2.1 a1 f1
        exact ⟨a0, f3, f2.trans f4⟩)
end Go.Proofs.YtiljnlhmeolhfaaDoor.MFd
