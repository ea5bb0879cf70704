/-
  leap.Decode, walked.
-/
import Derived.Test.YtnlaiiophongmaaDoorT9P
import Derived.Deep.RegionHeld3
import Derived.LoopTactic
namespace Go.Proofs.YtnlaiiophongmaaDoor.MCb
open Go.RowKit Go.Proofs.YtnlaiiophongmaaDoorW.PrintWords Go.Proofs.YtnlaiiophongmaaDoorW.PrintLast Go.Proofs.YtnlaiiophongmaaDoorW.PrintMore
set_option linter.unusedVariables false
set_option linter.unusedSimpArgs false

/-- a reader whose bytes lie ahead of B -/
def RdrB (B : Nat) (w : World) (g : Nat) (l : List Int) (bad : Bool) : Prop :=
  ∃ A c, w.heap[g]? = some (.cells #[.slice A l.length c, .bool bad] 195 (0, 0)) ∧ l.length ≤ c ∧ c ≤ maxLen ∧ l.length ≤ 140737488351232 ∧ Bytes B g w A l
theorem RdrB.lt {B : Nat} {w : World} {g : Nat} {l : List Int} {bad : Bool} (h : RdrB B w g l bad) : g < w.heap.size := by
  obtain ⟨A, c, hb, _⟩ := h
  exact (Array.getElem?_eq_some_iff.1 hb).1
theorem RdrB.kept {B : Nat} {w w' : World} {g : Nat} {l : List Int} {bad : Bool} (h : RdrB B w g l bad) (hg : w'.heap[g]? = w.heap[g]?) (hk : ∀ k, k < B → k ≠ g → w'.heap[k]? = w.heap[k]?) : RdrB B w' g l bad := by
  obtain ⟨A, c, h1, h2, h3, h5, h4⟩ := h
  exact ⟨A, c, hg.trans h1, h2, h3, h5, h4.kept hk⟩
theorem RdrB.rdr {B : Nat} {w : World} {g : Nat} {l : List Int} {bad : Bool} (h : RdrB B w g l bad) (hB : B ≤ w.heap.size) : Rdr w g l bad := by
  obtain ⟨A, c, h1, h2, h3, h5, h4⟩ := h
  refine ⟨A, c, h1, h2, h3, h5, ?_⟩
  rcases h4 with e | ⟨a, e, k1, k2, k3⟩
  · exact .inl e
  · exact .inr ⟨a, e, by omega, k2, k3⟩
set_option maxHeartbeats 1000000 in
theorem number_callsB (B g n : Nat) (l : List Int) (bad : Bool) (w : World) (h : RdrB B w g l bad) (hBw : B ≤ w.heap.size) :
    Calls Tryd.prog 125 #[.pointer (some ⟨g, 0, none⟩), .int .i64 n] w fun e w' => e = .returned (.int .u64 (rdNum l bad n)) ∧ RdrB B w' g (rdLeft l bad n) (rdBad l bad n) ∧ But g w w' := by
  have hg := h.lt
  have hA : Below w.heap.size w (w.alloc (.cells #[.int .u64 0] 157)) := (Below.refl _ w).alloc (Nat.le_refl _) _
  obtain ⟨A, c, hb, hl, hc, hL, hB⟩ := h
  have hb1 : (w.alloc (.cells #[.int .u64 0] 157)).heap[g]? = some (.cells #[.slice A l.length c, .bool bad] 195 (0, 0)) := (hA.block g hg).trans hb
  by_cases hs : bad = true ∨ l.length < n
  · have hT : Calls Tryd.prog 139 #[.pointer (some ⟨g, 0, none⟩), .int .i64 n] (w.alloc (.cells #[.int .u64 0] 157)) fun e w' => e = .returned (.slice none 0 0) ∧ w'.heap[g]? = some (.cells #[.slice none 0 0, .bool true] 195 (0, 0)) ∧ But g (w.alloc (.cells #[.int .u64 0] 157)) w' := by
      cases bad with
      | true => exact take_bad g _ n _ hb1 rfl
      | false => exact take_short g A l.length c n _ hb1 (by have : l.length < n := hs.resolve_left (by simp); omega)
    refine (number_gen _ n g none 0 [] (fun w' => w'.heap[g]? = some (.cells #[.slice none 0 0, .bool true] 195 (0, 0))) w hT (Nat.ne_of_lt hg) (by simp) (fun _ _ _ => .inl rfl) (fun w' w'' h1 h2 => (h2 (Array.getElem?_eq_some_iff.1 h1).1).trans h1)).mono ?_
    rintro e w' ⟨he, h1, h2⟩
    refine ⟨by rw [he]; simp [rdNum, hs, numV], ⟨none, 0, ?_, ?_, Nat.zero_le _, by simp [rdLeft, hs], .inl (by simp [rdLeft, hs])⟩, h2⟩
    · rw [h1]
      have : rdBad l bad n = true := by unfold rdBad; rcases hs with h | h <;> simp [h]
      simp [rdLeft, hs, this]
    · simp [rdLeft, hs]
  · obtain ⟨hbad, hn⟩ : bad = false ∧ n ≤ l.length := by
      cases bad
      · exact ⟨rfl, by omega⟩
      · exact absurd (Or.inl rfl) hs
    subst hbad
    have hT := take_ok g A l.length c n _ hb1 hn hl hc
    have hBy : ∀ w', But g (w.alloc (.cells #[.int .u64 0] 157)) w' → Bytes B g w' A l := fun w' hk => hB.kept (fun k h1 h2 => (hk.block k (by simp; omega) h2).trans (by first | exact heap_alloc_old w _ k (by omega) | exact heap_alloc_old w _ (by omega)))
    have hlt : (l.take n).length = n := by rw [List.length_take]; omega
    refine (number_gen _ n g A c (l.take n) (fun w' => w'.heap[g]? = some (.cells #[.slice (if c = n then A else A.map (·.add (n * 1))) (l.length - n) (c - n), .bool false] 195 (0, 0))) w (by rw [hlt]; exact hT) (Nat.ne_of_lt hg) (by omega) ?_ (fun w' w'' h1 h2 => (h2 (Array.getElem?_eq_some_iff.1 h1).1).trans h1)).mono ?_
    · intro w' _ hk
      rcases hBy w' hk with e | ⟨a, e, k1, k2, k3⟩
      · exact .inl (by rw [e]; simp)
      · have := hk.size
        simp at this
        exact .inr ⟨a, e, by omega, by omega, fun j hj => by rw [k3 j (by omega)]; rw [List.getElem?_take_of_lt (by omega)]⟩
    · rintro e w' ⟨he, h1, h2⟩
      have e1 : rdNum l false n = numV (l.take n) := by unfold rdNum; rw [if_neg hs]
      have e2 : rdLeft l false n = l.drop n := by unfold rdLeft; rw [if_neg hs]
      have e3 : rdBad l false n = false := by unfold rdBad; simp; omega
      refine ⟨by rw [he, e1], ?_, h2⟩
      rw [e2, e3]
      refine ⟨_, _, by rw [List.length_drop]; exact h1, by rw [List.length_drop]; omega, by omega, by rw [List.length_drop]; omega, ?_⟩
      by_cases hz : l.length = n
      · exact .inl (by rw [List.drop_eq_nil_iff]; omega)
      · have hBw2 : Bytes B g w' A l := hB.kept (fun k h1 h3 => h2.block k (by omega) h3)
        rcases hBw2 with e | ⟨a, rfl, k1, k2, k3⟩
        · subst e; simp at hn; simp at hz; omega
        · rw [if_neg (by omega)]
          refine .inr ⟨a.add (n * 1), rfl, by rw [add_block]; exact k1, by rw [add_block]; exact k2, fun j hj => ?_⟩
          rw [List.length_drop] at hj
          rw [add_add, Nat.mul_one, k3 (n + j) (by omega), List.getElem?_drop]
set_option maxRecDepth 100000 in
theorem i64_calls (B g : Nat) (l : List Int) (bad : Bool) (w : World) (h : RdrB B w g l bad) (hB : B ≤ w.heap.size) :
    Calls Tryd.prog 98 #[.pointer (some ⟨g, 0, none⟩)] w fun e w' => e = .returned (.int .i64 (wrap64 (rdNum l bad 8))) ∧ RdrB B w' g (rdLeft l bad 8) (rdBad l bad 8) ∧ But g w w' := by
  have hN : Calls Tryd.prog 125 #[.pointer (some ⟨g, 0, none⟩), .int .i64 8] w fun e w' => e = .returned (.int .u64 (rdNum l bad 8)) ∧ RdrB B w' g (rdLeft l bad 8) (rdBad l bad 8) ∧ But g w w' := number_callsB B g 8 l bad w h hB
  go_enter Tryd.func98, Tryd.ntmps98
  go_wp2_with (go_at_call 125; (with_reducible refine hN.mono ?_); rintro e w2 ⟨rfl, hr, hb⟩)
  go_ret
  exact ⟨rfl, hr, hb⟩
set_option maxRecDepth 100000 in
theorem u8_calls (B g : Nat) (l : List Int) (bad : Bool) (w : World) (h : RdrB B w g l bad) (hB : B ≤ w.heap.size) :
    Calls Tryd.prog 99 #[.pointer (some ⟨g, 0, none⟩)] w fun e w' => e = .returned (.int .u8 (IntKind.u8.wrap (rdNum l bad 1))) ∧ RdrB B w' g (rdLeft l bad 1) (rdBad l bad 1) ∧ But g w w' := by
  have hN : Calls Tryd.prog 125 #[.pointer (some ⟨g, 0, none⟩), .int .i64 1] w fun e w' => e = .returned (.int .u64 (rdNum l bad 1)) ∧ RdrB B w' g (rdLeft l bad 1) (rdBad l bad 1) ∧ But g w w' := number_callsB B g 1 l bad w h hB
  go_enter Tryd.func99, Tryd.ntmps99
  go_wp2_with (go_at_call 125; (with_reducible refine hN.mono ?_); rintro e w2 ⟨rfl, hr, hb⟩)
  go_ret
  exact ⟨rfl, hr, hb⟩
set_option maxRecDepth 100000 in
theorem done_calls (g : Nat) (l : List Int) (bad : Bool) (w : World) (h : Rdr w g l bad) :
    Calls Tryd.prog 100 #[.pointer (some ⟨g, 0, none⟩)] w fun e w' => e = .returned (errV (rdDone l bad)) ∧ w = w' := by
  obtain ⟨A, c, hb, h2, h3, h5, h4⟩ := h
  have c0 : w.cell? ⟨g, 0, none⟩ = some (.slice A l.length c) := (blk_cell hb 0).trans rfl
  have c1 : w.cell? ⟨g, 1, none⟩ = some (.bool bad) := (blk_cell hb 1).trans rfl
  have f0 := blk_frozen hb 0
  have f1 := blk_frozen hb 1
  clear hb h4
  cases bad with
  | true =>
    have e : rdDone l true = some 3 := by simp [rdDone]
    rw [e]
    go_enter Tryd.func100, Tryd.ntmps100
    go_wp2
    go_ret
    exact ⟨rfl, rfl⟩
  | false =>
    by_cases hl : 0 < l.length
    · have e : rdDone l false = some 3 := by simp [rdDone, hl]
      rw [e]
      have d1 : decide ((0 : Int) < (l.length : Int)) = true := decide_eq_true (by omega)
      go_enter Tryd.func100, Tryd.ntmps100
      go_wp2
      go_ret
      exact ⟨rfl, rfl⟩
    · have e : rdDone l false = none := by simp [rdDone, hl]
      rw [e]
      have h0 : l.length = 0 := by omega
      rw [h0] at c0
      clear h0 h2 h5 hl
      go_enter Tryd.func100, Tryd.ntmps100
      go_wp2
      go_ret
      exact ⟨rfl, rfl⟩
/-- a table's struct in memory -/
def Tab (w : World) (g : Nat) (b l : Int) (v : Value) : Prop := w.heap[g]? = some (.cells #[.int .i64 b, .int .i64 l, v] 96 (0, 0))
theorem Tab.but {w w' : World} {g gr : Nat} {b l : Int} {v : Value} (h : Tab w g b l v) (hb : But gr w w') (hne : g ≠ gr) : Tab w' g b l v := (hb.block g (Array.getElem?_eq_some_iff.1 h).1 hne).trans h
theorem Tab.below {w w' : World} {g : Nat} {b l : Int} {v : Value} (h : Tab w g b l v) (hb : Below w.heap.size w w') : Tab w' g b l v := (hb.block g (Array.getElem?_eq_some_iff.1 h).1).trans h
theorem Tab.lt {w : World} {g : Nat} {b l : Int} {v : Value} (h : Tab w g b l v) : g < w.heap.size := (Array.getElem?_eq_some_iff.1 h).1
theorem Tab.put {w : World} {g : Nat} {b l : Int} {v : Value} (h : Tab w g b l v) (b' l' : Int) (v' : Value) : Tab (((w.setCell ⟨g, 0, none⟩ (.int .i64 b')).setCell ⟨g, 1, none⟩ (.int .i64 l')).setCell ⟨g, 2, none⟩ v') g b' l' v' :=
  blk_put (cs := #[.int .i64 b', .int .i64 l', v]) (blk_put (cs := #[.int .i64 b', .int .i64 l, v]) (blk_put (cs := #[.int .i64 b, .int .i64 l, v]) h 0 _ rfl) 1 _ rfl) 2 _ rfl
theorem Tab.put2 {w : World} {g : Nat} {b l : Int} {v : Value} (h : Tab w g b l v) (v' : Value) : Tab (w.setCell ⟨g, 2, none⟩ v') g b l v' :=
  blk_put (cs := #[.int .i64 b, .int .i64 l, v]) h 2 _ rfl
/-- what the reader's loop keeps -/
structure DS (B : Nat) (w : World) (g g7 : Nat) (bs ls : Int) (i : List Int) (j : Nat) (W : World) : Prop where
  bel : Below w.heap.size w W
  res : Tab W w.heap.size 0 0 (.slice none 0 0)
  rdr : RdrB B W g (stp (s3 i).1 (s3 i).2 j).1 (stp (s3 i).1 (s3 i).2 j).2
  row : ∃ v, Tab W g7 bs ls v ∧ Kd.R (Kd.int .i64) 2 W B (fun _ => True) v (vals (s3 i).1 (s3 i).2 j)
  lt1 : w.heap.size < g
  lt2 : g < B
  lt3 : B ≤ g7
  lt4 : B ≤ W.heap.size
theorem info64 : (Tryd.prog.info? 2).map (fun i => (i.zero, i.size, i.bytes)) = some (some (.int .i64 0), 1, 8) := by kernel_rfl
set_option maxRecDepth 100000 in
set_option maxHeartbeats 4000000 in
theorem dec_walk {w : World} {A : Option Addr} {n c : Nat} {b : List Int} (h : Sl w A n c b) (hby : ∀ x ∈ b, B8 x) (hn : n ≤ 1000) :
    Calls Tryd.prog 63 #[.slice A n c] w fun e w' => ∃ A' c', e = .returned (.tuple #[.agg #[.int .i64 (decR b).1.1, .int .i64 (decR b).1.2.1, .slice A' (decR b).1.2.2.length c'], errV (decR b).2]) ∧ (Kd.int .i64).C w' A' (decR b).1.2.2.length (decR b).1.2.2 ∧ (decR b).1.2.2.length ≤ c' ∧ Below w.heap.size w w' := by
  obtain ⟨w1, hw1⟩ : ∃ w1, w1 = w.alloc (.cells #[.int .i64 0, .int .i64 0, .slice none 0 0] 96) := ⟨_, rfl⟩
  have hb1 : Below w.heap.size w w1 := by rw [hw1]; exact (Below.refl _ w).alloc (Nat.le_refl _) _
  have hT1 : Tab w1 w.heap.size 0 0 (.slice none 0 0) := by rw [hw1]; exact heap_alloc_new w _
  obtain ⟨i, hi⟩ : ∃ i, i = (openR 5 b).1 := ⟨_, rfl⟩
  obtain ⟨o, ho⟩ : ∃ o, o = (openR 5 b).2 := ⟨_, rfl⟩
  obtain ⟨m, hm⟩ : ∃ m, m = i.length := ⟨_, rfl⟩
  have hO : Calls Tryd.prog 96 #[.int .u8 5, .slice A n c] w1 fun e w' => ∃ A' c', e = .returned (.tuple #[.slice A' m c', errV o]) ∧ Sl w' A' m c' i ∧ Below w1.heap.size w1 w' := by
    rw [hm, hi, ho]; exact open_sl 5 (h.below hb1) hby (by omega) _ rfl
  have HW1 := Lib.hid hw1
  have H1 := Lib.hid (And.intro hb1 hT1)
  have hsz : w1.heap.size = w.heap.size + 1 := by rw [hw1]; simp
  have hlen := h.len
  have hil : i.length ≤ 1000 := by rw [hi]; exact openR_len 5 b (by omega)
  clear hw1 hb1 hT1
  cases o with
  | some e =>
    have e1 : decR b = ((0, 0, []), some e) := by unfold decR; rw [← ho, if_neg (by simp)]
    rw [e1]
    have HO : Hid (Calls Tryd.prog 96 #[.int .u8 5, .slice A n c] w1 fun e_ w' => ∃ A' c', e_ = .returned (.tuple #[.slice A' m c', .iface 128 (.int .i64 e)]) ∧ Sl w' A' m c' i ∧ Below w1.heap.size w1 w') := Lib.hid hO
    clear hO hi ho h hm hby e1 hlen hil
    go_enter Tryd.func63, Tryd.ntmps63
    go_wp2_with (first | (go_at_call 96; rw [← HW1.out]; (with_reducible refine HO.out.mono ?_); rintro e_ w2 ⟨A2, c2, rfl, h2, hb2⟩; have hT2 : Tab w2 w.heap.size 0 0 (.slice none 0 0) := H1.out.2.below hb2; have k0 : w2.cell? ⟨w.heap.size, 0, none⟩ = some (.int .i64 0) := (blk_cell hT2 0).trans rfl; have k1 : w2.cell? ⟨w.heap.size, 1, none⟩ = some (.int .i64 0) := (blk_cell hT2 1).trans rfl; have k2 : w2.cell? ⟨w.heap.size, 2, none⟩ = some (.slice none 0 0) := (blk_cell hT2 2).trans rfl; have f0 := blk_frozen hT2 0; have f1 := blk_frozen hT2 1; have f2 := blk_frozen hT2 2; have H2 := Lib.hid (And.intro hT2 (H1.out.1.trans (hb2.mono H1.out.1.size))); clear hT2 hb2 h2))
    obtain ⟨wz, hwz⟩ : ∃ wz, wz = ((w2.setCell ⟨w.heap.size, 0, none⟩ (.int .i64 0)).setCell ⟨w.heap.size, 1, none⟩ (.int .i64 0)).setCell ⟨w.heap.size, 2, none⟩ (.slice none 0 0) := ⟨_, rfl⟩
    rw [← hwz]
    have hz : Tab wz w.heap.size 0 0 (.slice none 0 0) := by rw [hwz]; exact Tab.put H2.out.1 0 0 _
    have hzb : Below w.heap.size w wz := by rw [hwz]; exact ((H2.out.2.setCell (Nat.le_refl _) _).setCell (Nat.le_refl _) _).setCell (Nat.le_refl _) _
    refine bodyPost_ret (results_ct rfl _ wz w.heap.size 96 #[.int .i64 0, .int .i64 0, .slice none 0 0] (0, 0) _ rfl hz Tryd.underlying96 rfl (by kernel_rfl)) rfl ?_
    exact ⟨none, 0, rfl, Kd.C_nil _ _, Nat.le_refl _, hzb⟩
  | none =>
    have hiby : ∀ x ∈ i, B8 x := by rw [hi]; exact openR_byte 5 b hby
    have hD : decR b = decRes i := by unfold decR; rw [← ho, if_pos rfl, ← hi]
    rw [hD]
    have HO : Hid (Calls Tryd.prog 96 #[.int .u8 5, .slice A n c] w1 fun e_ w' => ∃ A' c', e_ = .returned (.tuple #[.slice A' m c', .nilIface]) ∧ Sl w' A' m c' i ∧ Below w1.heap.size w1 w') := Lib.hid hO
    have HI := Lib.hid (And.intro hil (And.intro hsz hiby))
    obtain ⟨bs, hbs⟩ : ∃ x, x = tB i := ⟨_, rfl⟩
    obtain ⟨ls, hls⟩ : ∃ x, x = tE i := ⟨_, rfl⟩
    obtain ⟨N, hN⟩ : ∃ x, x = tN i := ⟨_, rfl⟩
    have hN8 : (N : Int) < 256 := by have := tN_lt i; omega
    have hNe := tN_eq i
    rw [← hN] at hNe
    have HN := Lib.hid (And.intro hbs (And.intro hls (And.intro hN hNe)))
    clear hO hi ho h hm hby hlen hil hsz hiby hD hbs hls hN hNe
    go_enter Tryd.func63, Tryd.ntmps63
    go_upto_region 6 with (first
      | (go_at_call 96; rw [← HW1.out]; (with_reducible refine HO.out.mono ?_); rintro e_ w2 ⟨A2, c2, rfl, h2, hb2⟩; have H2 := Lib.hid (And.intro h2 (And.intro (H1.out.2.below hb2) (And.intro (H1.out.1.trans (hb2.mono H1.out.1.size)) hb2.size))); clear hb2 h2)
      | (go_at_call 97; (with_reducible refine (new_sl H2.out.1 (by have := HI.out.1; omega)).mono ?_); rintro e_ w3 ⟨g, rfl, hg, hr, hb3⟩; have H3 := Lib.hid (And.intro (show RdrB w3.heap.size w3 g i false from hr) (And.intro (H2.out.2.1.below hb3) (And.intro (H2.out.2.2.1.trans (hb3.mono H2.out.2.2.1.size)) (show w.heap.size < g by have := H2.out.2.1.lt; omega)))); clear hg hr hb3)
      | (go_at_call 98; first
          | ((with_reducible refine (i64_calls w3.heap.size g _ _ _ H3.out.1 (Nat.le_refl _)).mono ?_); rintro e_ w4 ⟨rfl, hr, hb⟩; rw [show wrap64 (rdNum i false 8) = bs from HN.out.1.symm]; have H4 := Lib.hid (And.intro (show RdrB w3.heap.size w4 g (s1 i).1 (s1 i).2 from hr) (And.intro (H3.out.2.1.but hb (by have := H3.out.2.2.2; omega)) (And.intro (but_below hb H3.out.2.2.1 (by have := H3.out.2.2.2; omega) H3.out.2.2.1.size) hb.size))); clear hr hb)
          | ((with_reducible refine (i64_calls w3.heap.size g _ _ _ H4.out.1 H4.out.2.2.2).mono ?_); rintro e_ w5 ⟨rfl, hr, hb⟩; rw [show wrap64 (rdNum (s1 i).1 (s1 i).2 8) = ls from HN.out.2.1.symm]; have H5 := Lib.hid (And.intro (show RdrB w3.heap.size w5 g (s2 i).1 (s2 i).2 from hr) (And.intro (H4.out.2.1.but hb (by have := H3.out.2.2.2; omega)) (And.intro (but_below hb H4.out.2.2.1 (by have := H3.out.2.2.2; omega) H4.out.2.2.1.size) (Nat.le_trans H4.out.2.2.2 hb.size)))); clear hr hb)))
    obtain ⟨w6, hw6⟩ : ∃ w6, w6 = w5.alloc (.cells #[.int .i64 bs, .int .i64 ls, .slice none 0 0] 96) := ⟨_, rfl⟩
    obtain ⟨g7, hg7⟩ : ∃ g7, g7 = w5.heap.size := ⟨_, rfl⟩
    rw [← hw6, ← hg7]
    have hA6 : Below w5.heap.size w5 w6 := by rw [hw6]; exact (Below.refl _ w5).alloc (Nat.le_refl _) _
    have H6 := Lib.hid (And.intro (H5.out.1.kept (hA6.block g H5.out.1.lt) (fun k hk _ => hA6.block k (by have := H5.out.2.2.2; omega))) (And.intro (H5.out.2.1.below hA6) (And.intro (show Tab w6 g7 bs ls (.slice none 0 0) by rw [hw6, hg7]; exact heap_alloc_new w5 _) (And.intro (H5.out.2.2.1.trans (hA6.mono H5.out.2.2.1.size)) (And.intro (show w3.heap.size ≤ g7 by have := H5.out.2.2.2; omega) (show w3.heap.size ≤ w6.heap.size by have := hA6.size; have := H5.out.2.2.2; omega))))))
    clear hw6 hg7 hA6
    go_wp2_with (first
      | (go_at_call 99; (with_reducible refine (u8_calls w3.heap.size g _ _ _ H6.out.1 H6.out.2.2.2.2.2).mono ?_); rintro e_ w7 ⟨rfl, hr, hb⟩; rw [← HN.out.2.2.2]; have H7 := Lib.hid (DS.mk (B := w3.heap.size) (w := w) (g := g) (g7 := g7) (bs := bs) (ls := ls) (i := i) (j := 0) (W := w7) (but_below hb H6.out.2.2.2.1 (by have := H3.out.2.2.2; omega) H6.out.2.2.2.1.size) (H6.out.2.1.but hb (by have := H3.out.2.2.2; omega)) hr ⟨_, H6.out.2.2.1.but hb (by have := H6.out.2.2.2.2.1; have := H3.out.1.lt; omega), Kd.R_nil _ _ _ _ _⟩ H3.out.2.2.2 H3.out.1.lt H6.out.2.2.2.2.1 (Nat.le_trans H6.out.2.2.2.2.2 hb.size)); clear hr hb))
    go_loopw [26] (fun v26 wr => ∃ j : Nat, v26 = .int .u8 (j : Int) ∧ Aside0 (j ≤ N) ∧ Aside0 (DS w3.heap.size w g g7 bs ls i j wr)) (fun v26 _ => match v26 with | .int _ x => ((N : Int) - x).toNat | _ => 0)
    case atStart => exact ⟨0, rfl, ⟨by omega⟩, ⟨H7.out⟩⟩
    case round =>
      obtain ⟨j, rfl, hj, hD⟩ := hrel
      by_cases hlt : j < N
      · have hq : (j : Int) < (N : Int) := by omega
        have hj0 : (0 : Int) ≤ (j : Int) := by omega
        have hj8 : (j : Int) < 255 := by omega
        obtain ⟨v, hT, hR⟩ := hD.out.row
        have hvl := vals_length (s3 i).1 (s3 i).2 j
        obtain ⟨Av, cv, e_⟩ := Kd.R_slice hR
        rw [hvl] at e_
        subst e_
        have hc2 : wr.cell? ⟨g7, 2, none⟩ = some (.slice Av j cv) := (blk_cell hT 2).trans rfl
        obtain ⟨x, hx⟩ : ∃ x, x = wrap64 (rdNum (stp (s3 i).1 (s3 i).2 j).1 (stp (s3 i).1 (s3 i).2 j).2 8) := ⟨_, rfl⟩
        have HR := Lib.hid (And.intro hT hR)
        clear hT hR
        go_upto_region 8 with (fail)
        refine name_w (fun W hW => ?_)
        have HWr := Lib.hid hW
        clear hW
        refine start_ (n := 8) (S := fun w' => w'.cell? ⟨g7, 2, none⟩ = some (.slice Av j cv)) (ds := [7]) #[false, false, false, false, false, false, false, false] (by kernel_rfl) rfl rfl (by rw [HWr.out]; exact hc2) (fun hHeld => ?_)
        refine pure_ (i := 0) (N := some 28) (v := ?_) (a' := ?_) #[true, false, false, false, false, false, false, false] rfl rfl (by kernel_rfl) (fun _ _ _ h => h) (Or.inl ⟨by rfl, ?_⟩) ?_ ?_
        rotate_left
        · intro w'
          go_simp
          with_reducible rfl
        rotate_left
        · simp only [Act.put, List.setIfInBounds_toArray, List.set_cons_zero, List.set_cons_succ, i64_w, i32_w]
          rfl
        refine pure_ (i := 2) (N := some 30) (v := ?_) (a' := ?_) #[true, false, true, false, false, false, false, false] rfl rfl (by kernel_rfl) (fun _ _ _ h => h) (Or.inl ⟨by rfl, ?_⟩) ?_ ?_
        rotate_left
        · intro w'
          go_simp
          with_reducible rfl
        rotate_left
        · simp only [Act.put, List.setIfInBounds_toArray, List.set_cons_zero, List.set_cons_succ, i64_w, i32_w]
          rfl
        refine take_ (i := 1) (N := some 29) (v := ?_) (a' := ?_) #[true, true, true, false, false, false, false, false] rfl rfl (by kernel_rfl) (fun _ _ _ h => h) (Or.inl ⟨by rfl, ?_⟩) hHeld ?_ ?_
        rotate_left
        · rintro w' s0
          go_simp
          with_reducible rfl
        rotate_left
        · simp only [Act.put, List.setIfInBounds_toArray, List.set_cons_zero, List.set_cons_succ, i64_w, i32_w]
          rfl
        have hWd : Below wr.heap.size wr W.drew := by rw [HWr.out]; exact (Below.refl _ _).drew
        obtain ⟨W9, hW9⟩ : ∃ W9, W9 = W.drew := ⟨_, rfl⟩
        rw [← hW9] at hWd ⊢
        have hrd : RdrB w3.heap.size W9 g (stp (s3 i).1 (s3 i).2 j).1 (stp (s3 i).1 (s3 i).2 j).2 := hD.out.rdr.kept (hWd.block g hD.out.rdr.lt) (fun k hk _ => hWd.block k (by have := hD.out.lt4; omega))
        have H9 := Lib.hid (And.intro hrd (And.intro hWd (And.intro (HR.out.1.below hWd) (And.intro (Kd.R_tight rfl (Kd.R_below HR.out.2 hWd)) (show w3.heap.size ≤ W9.heap.size from Nat.le_trans hD.out.lt4 hWd.size)))))
        clear hrd hWd hHeld hW9
        refine one_ (i := 3) (N := some 31) #[true, true, true, true, false, false, false, false] rfl rfl (by kernel_rfl) (by decide) (fun K hK => ?_)
        refine goes_ Tryd.func98 (by kernel_rfl) rfl #[.pointer (some ⟨g, 0, none⟩)] (by rfl) rfl rfl (by simp only [List.map_toArray, List.map_cons, List.map_nil]; rfl) ?_
        (with_reducible refine (i64_calls w3.heap.size g _ _ _ H9.out.1 H9.out.2.2.2.2).mono ?_)
        rintro e_ w10 ⟨rfl, hr, hb⟩
        rw [← hx]
        have hne7 : g7 ≠ g := by have := hD.out.lt2; have := hD.out.lt3; omega
        have hgO : some g ≠ (Value.slice Av j cv).ownBlock := by
          obtain ⟨A_, c_, h1, _⟩ := H9.out.1
          exact Kd.R_ne H9.out.2.2.2.1 h1 (by decide)
        have hT10 : Tab w10 g7 bs ls (.slice Av j cv) := H9.out.2.2.1.but hb hne7
        have hR10 : Kd.R (Kd.int .i64) 2 w10 w3.heap.size (fun _ => True) (.slice Av j cv) (vals (s3 i).1 (s3 i).2 j) := Kd.R_mono (Kd.R_step H9.out.2.2.2.1 (fun k ho hk => hb.block k hk (fun e => hgO (by rw [← e]; exact ho)))) (fun _ _ => trivial)
        have hB10 : Below w.heap.size w w10 := but_below hb (hD.out.bel.trans (H9.out.2.1.mono hD.out.bel.size)) (by have := hD.out.lt1; omega) (by have := hD.out.bel.size; have := H9.out.2.1.size; omega)
        have hr10 : Tab w10 w.heap.size 0 0 (.slice none 0 0) := (hD.out.res.below H9.out.2.1).but hb (by have := hD.out.lt1; omega)
        have H10 := Lib.hid (And.intro (show RdrB w3.heap.size w10 g (stp (s3 i).1 (s3 i).2 (j + 1)).1 (stp (s3 i).1 (s3 i).2 (j + 1)).2 from hr) (And.intro hT10 (And.intro hR10 (And.intro hB10 (And.intro hr10 (Nat.le_trans H9.out.2.2.2.2 hb.size))))))
        clear hr hb hgO hT10 hR10 hB10 hr10
        refine ⟨_, rfl, ?_⟩
        refine hK.out _ _ ((blk_cell H10.out.2.1 2).trans rfl) (fun hHeld => ?_)
        clear hK K
        refine norm_ (a' := ?_) ?_ ?_
        rotate_left
        · show Act.put _ (some 31) _ = _
          simp only [Act.put, List.setIfInBounds_toArray, List.set_cons_zero, List.set_cons_succ, i64_w, i32_w]
          rfl
        refine one_ (i := 4) (N := some 32) #[true, true, true, true, true, false, false, false] rfl rfl (by kernel_rfl) (by decide) (fun K hK => ?_)
        refine value_ (v := .slice (some ⟨w10.heap.size, 0, none⟩) 1 1) (w1 := w10.alloc (.cells #[.int .i64 x] 2)) (by rfl) rfl (by go_simp) ?_
        refine hK.out _ _ ((blk_cell (H10.out.2.1.below ((Below.refl _ w10).alloc (Nat.le_refl _) _)) 2).trans rfl) (fun hHeld => ?_)
        clear hK K
        refine norm_ (a' := ?_) ?_ ?_
        rotate_left
        · show Act.put _ (some 32) _ = _
          simp only [Act.put, List.setIfInBounds_toArray, List.set_cons_zero, List.set_cons_succ, i64_w, i32_w]
          rfl
        refine one_ (i := 5) (N := some 33) #[true, true, true, true, true, true, false, false] rfl rfl (by kernel_rfl) (by decide) (fun K hK => ?_)
        refine Kd.R_append_step (Kd.int .i64) (w0 := w10) w3.heap.size (by rfl) (.tmp 29) (.tmp 32) 90 2 (.int .i64 0) 8 rfl Tryd.underlying90 info64 rfl (by decide) (by decide) (.slice Av j cv) (vals (s3 i).1 (s3 i).2 j) x [.int .i64 x] (fun _ => True) (fun _ => False) rfl rfl rfl (fun _ h => h.elim) (fun _ _ => trivial) H10.out.2.2.1 (Below.refl _ _) H10.out.2.2.2.2.2 (by rw [hvl]; omega) ?_
        intro v1 w11 hR11 hB11 hg11 hat11
        have hT11 : Tab w11 g7 bs ls (.slice Av j cv) := (hg11.block g7 H10.out.2.1.lt (fun e => Kd.R_ne H10.out.2.2.1 H10.out.2.1 (by decide) e)).trans H10.out.2.1
        have H11 := Lib.hid (And.intro hR11 (And.intro hB11 (And.intro hT11 hg11)))
        clear hR11 hB11 hT11 hg11 hat11
        refine hK.out _ _ ((blk_cell H11.out.2.2.1 2).trans rfl) (fun hHeld => ?_)
        clear hK K
        refine norm_ (a' := ?_) ?_ ?_
        rotate_left
        · show Act.put _ (some 33) _ = _
          simp only [Act.put, List.setIfInBounds_toArray, List.set_cons_zero, List.set_cons_succ, i64_w, i32_w]
          rfl
        refine pure_ (i := 6) (N := some 34) (v := ?_) (a' := ?_) #[true, true, true, true, true, true, true, false] rfl rfl (by kernel_rfl) (fun _ _ _ h => h) (Or.inl ⟨by rfl, ?_⟩) ?_ ?_
        rotate_left
        · intro w'
          go_simp
          with_reducible rfl
        rotate_left
        · simp only [Act.put, List.setIfInBounds_toArray, List.set_cons_zero, List.set_cons_succ, i64_w, i32_w]
          rfl
        have hk2 : w11.cell? ⟨g7, 2, none⟩ = some (.slice Av j cv) := (blk_cell H11.out.2.2.1 2).trans rfl
        have kf2 := blk_frozen H11.out.2.2.1 2
        obtain ⟨Av2, cv2, e_⟩ := Kd.R_slice H11.out.1
        subst e_
        refine last_ (i := 7) (N := none) #[true, true, true, true, true, true, true, true] rfl rfl (by kernel_rfl) (by decide) (fun K hK => ?_)
        refine skip_ (w1 := w11.setCell ⟨g7, 2, none⟩ (.slice Av2 (vals (s3 i).1 (s3 i).2 j ++ [x]).length cv2)) (by rfl) rfl (by go_simp) ?_
        refine hK.out _ _ ?_
        clear hK K
        refine done_ (by kernel_rfl) ?_
        have hw1 : IntKind.u8.wrap ((j : Int) + 1) = ((j + 1 : Nat) : Int) := by rw [IntKind.wrap_u8]; omega
        have hw2 : ((j : Int) + 1) % 256 = ((j + 1 : Nat) : Int) := by omega
        obtain ⟨w12, hw12⟩ : ∃ w12, w12 = w11.setCell ⟨g7, 2, none⟩ (.slice Av2 (vals (s3 i).1 (s3 i).2 j ++ [x]).length cv2) := ⟨_, rfl⟩
        have hBut : But g7 w11 w12 := by rw [hw12]; exact (But.refl _ _).setCell 2 _
        have hwB : w.heap.size < w3.heap.size := by have := hD.out.lt1; have := hD.out.lt2; omega
        have hD' : Aside0 (DS w3.heap.size w g g7 bs ls i (j + 1) w12) := ⟨by
          have h7 := hD.out.lt3
          have hres : Tab w11 w.heap.size 0 0 (.slice none 0 0) := (H11.out.2.1.block _ hwB).trans H10.out.2.2.2.2.1
          have hrdr := H10.out.1.kept (w' := w11) (H11.out.2.1.block g hD.out.lt2) (fun k hk _ => H11.out.2.1.block k hk)
          refine ⟨?_, hres.but hBut (by omega), hrdr.kept (hBut.block g hrdr.lt (by have := hD.out.lt2; omega)) (fun k hk _ => hBut.block k (by have := H11.out.2.1.size; have := H10.out.2.2.2.2.2; omega) (by omega)), ⟨_, by rw [hw12]; exact Tab.put2 H11.out.2.2.1 _, ?_⟩, hD.out.lt1, hD.out.lt2, hD.out.lt3, Nat.le_trans H10.out.2.2.2.2.2 (Nat.le_trans H11.out.2.1.size hBut.size)⟩
          · exact but_below hBut (H10.out.2.2.2.1.trans (H11.out.2.1.mono (by omega))) (by omega) (Nat.le_trans H10.out.2.2.2.1.size H11.out.2.1.size)
          · show Kd.R (Kd.int .i64) 2 w12 w3.heap.size (fun _ => True) _ (vals (s3 i).1 (s3 i).2 j ++ [wrap64 (rdNum (stp (s3 i).1 (s3 i).2 j).1 (stp (s3 i).1 (s3 i).2 j).2 8)])
            rw [← hx]
            have hne := Kd.R_ne H11.out.1 H11.out.2.2.1 (by decide)
            exact Kd.R_mono (Kd.R_step (Kd.R_tight rfl H11.out.1) (fun k ho hk => hBut.block k hk (fun e => hne (by rw [← e]; exact ho)))) (fun _ _ => trivial)⟩
        rw [← hw12]
        clear hw12 hBut hwB hk2 kf2 hHeld
        go_wp2_with (fail)
        refine ⟨⟨j + 1, congrArg _ (by omega), ⟨by omega⟩, hD'⟩, ?_⟩
        show ((N : Int) - ((j : Int) + 1)).toNat < ((N : Int) - (j : Int)).toNat
        omega
      · have hjN : j = N := by have := hj.out; omega
        subst hjN
        have hq : ¬ (j : Int) < (j : Int) := by omega
        have hfin := fin_eq i
        rw [← HN.out.2.2.1] at hfin
        obtain ⟨v, hT, hR⟩ := hD.out.row
        have hvl := vals_length (s3 i).1 (s3 i).2 j
        obtain ⟨Av, cv, e_⟩ := Kd.R_slice hR
        rw [hvl] at e_
        subst e_
        have k0 : wr.cell? ⟨g7, 0, none⟩ = some (.int .i64 bs) := (blk_cell hT 0).trans rfl
        have k1 : wr.cell? ⟨g7, 1, none⟩ = some (.int .i64 ls) := (blk_cell hT 1).trans rfl
        have k2 : wr.cell? ⟨g7, 2, none⟩ = some (.slice Av j cv) := (blk_cell hT 2).trans rfl
        have f0 := blk_frozen hT 0
        have f1 := blk_frozen hT 1
        have f2 := blk_frozen hT 2
        have HR := Lib.hid (And.intro hT hR)
        clear hT hR
        by_cases hok : lenOk i
        · rw [if_pos hok] at hfin
          have hDo : Hid (Calls Tryd.prog 100 #[.pointer (some ⟨g, 0, none⟩)] wr fun e w' => e = .returned .nilIface ∧ wr = w') := Lib.hid (by have := done_calls g _ _ wr (hD.out.rdr.rdr hD.out.lt4); rw [hfin] at this; exact this)
          have hLl : (vals (s3 i).1 (s3 i).2 j).length = j := hvl
          have hCr : (Kd.int .i64).C wr Av j (vals (s3 i).1 (s3 i).2 j) ∧ j ≤ cv := by
            have := Kd.R_reads' HR.out.2
            rw [hvl] at this
            exact ⟨this.2.2, this.2.1⟩
          have htl : tL i = vals (s3 i).1 (s3 i).2 j := by unfold tL; rw [← HN.out.2.2.1]
          have hCk : Hid (Calls Tryd.prog 52 #[.agg #[.int .i64 bs, .int .i64 ls, .slice Av j cv]] wr fun e w' => e = .returned (errV (if tabOk bs ls (vals (s3 i).1 (s3 i).2 j) = true then none else some 1)) ∧ Below wr.heap.size wr w') := Lib.hid (by
            have h0 := leap_Check.calls 400 bs ls Av cv (vals (s3 i).1 (s3 i).2 j) _ wr (by rw [hvl]; exact hCr.1) (by rw [hvl]; exact hCr.2) (check_eq 400 bs ls _ (by rw [hvl]; omega) (by omega))
            rw [hvl] at h0
            refine h0.mono ?_
            rintro e w' ⟨rfl, hd⟩
            exact ⟨congrArg _ ((fun x => by cases x <;> rfl : ∀ x, errW x = errV x) _), hd⟩)
          by_cases htab : tabOk bs ls (vals (s3 i).1 (s3 i).2 j) = true
          · have hend : decRes i = ((bs, ls, vals (s3 i).1 (s3 i).2 j), none) := by
              unfold decRes
              rw [htl, ← HN.out.1, ← HN.out.2.1, if_pos ⟨hok, htab⟩]
            have HE := Lib.hid hend
            have hCk' : Hid (Calls Tryd.prog 52 #[.agg #[.int .i64 bs, .int .i64 ls, .slice Av j cv]] wr fun e w' => e = .returned .nilIface ∧ Below wr.heap.size wr w') := Lib.hid (by have := hCk.out; rw [if_pos htab] at this; exact this)
            have HCr := Lib.hid hCr
            have HVL := Lib.hid hvl
            clear hfin hend hok htl hCk htab hCr hLl hvl
            go_wp2_with (first
              | (go_at_call 100; (with_reducible refine hDo.out.mono ?_); rintro e_ w8 ⟨rfl, rfl⟩)
              | (go_at_call 52; (with_reducible refine hCk'.out.mono ?_); rintro e_ w9 ⟨rfl, hb9⟩; have hR9 := hD.out.res.below hb9; have hT9 := HR.out.1.below hb9; clear k0 k1 k2 f0 f1 f2; have k0 : w9.cell? ⟨g7, 0, none⟩ = some (.int .i64 bs) := (blk_cell hT9 0).trans rfl; have k1 : w9.cell? ⟨g7, 1, none⟩ = some (.int .i64 ls) := (blk_cell hT9 1).trans rfl; have k2 : w9.cell? ⟨g7, 2, none⟩ = some (.slice Av j cv) := (blk_cell hT9 2).trans rfl; have z0 : w9.cell? ⟨w.heap.size, 0, none⟩ = some (.int .i64 0) := (blk_cell hR9 0).trans rfl; have z1 : w9.cell? ⟨w.heap.size, 1, none⟩ = some (.int .i64 0) := (blk_cell hR9 1).trans rfl; have z2 : w9.cell? ⟨w.heap.size, 2, none⟩ = some (.slice none 0 0) := (blk_cell hR9 2).trans rfl; have zf0 := blk_frozen hR9 0; have zf1 := blk_frozen hR9 1; have zf2 := blk_frozen hR9 2; have H9 := Lib.hid (And.intro hb9 hR9); clear hb9 hR9 hT9))
            obtain ⟨wz, hwz⟩ : ∃ wz, wz = ((w9.setCell ⟨w.heap.size, 0, none⟩ (.int .i64 bs)).setCell ⟨w.heap.size, 1, none⟩ (.int .i64 ls)).setCell ⟨w.heap.size, 2, none⟩ (.slice Av j cv) := ⟨_, rfl⟩
            rw [← hwz]
            have hz : Tab wz w.heap.size bs ls (.slice Av j cv) := by rw [hwz]; exact Tab.put H9.out.2 bs ls _
            have hzb : Below w.heap.size w wz := by rw [hwz]; exact (((hD.out.bel.trans (H9.out.1.mono hD.out.bel.size)).setCell (Nat.le_refl _) _).setCell (Nat.le_refl _) _).setCell (Nat.le_refl _) _
            have hBz : But w.heap.size w9 wz := by rw [hwz]; exact (((But.refl _ _).setCell 0 _).setCell 1 _).setCell 2 _
            refine bodyPost_ret (results_ct rfl _ wz w.heap.size 96 #[.int .i64 bs, .int .i64 ls, .slice Av j cv] (0, 0) _ rfl hz Tryd.underlying96 rfl (by kernel_rfl)) rfl ?_
            rw [HE.out]
            show ∃ A' c', _ = Ending.returned (.tuple #[.agg #[.int .i64 bs, .int .i64 ls, .slice A' (vals (s3 i).1 (s3 i).2 j).length c'], errV none]) ∧ (Kd.int .i64).C wz A' (vals (s3 i).1 (s3 i).2 j).length (vals (s3 i).1 (s3 i).2 j) ∧ (vals (s3 i).1 (s3 i).2 j).length ≤ c' ∧ Below w.heap.size w wz
            rw [HVL.out]
            refine ⟨Av, cv, rfl, ?_, HCr.out.2, hzb⟩
            have hR9 := Kd.R_below HR.out.2 H9.out.1
            have hne := Kd.R_ne hR9 H9.out.2 (by decide)
            have := (Kd.R_reads' (Kd.R_step (Kd.R_tight rfl hR9) (fun k ho hk => hBz.block k hk (fun e => hne (by rw [← e]; exact ho))))).2.2
            rwa [HVL.out] at this
          · have hend : decRes i = ((0, 0, []), some 3) := by
              unfold decRes
              rw [if_neg]
              intro q
              rw [htl, ← HN.out.1, ← HN.out.2.1] at q
              exact htab q.2
            have HE := Lib.hid hend
            have hCk' : Hid (Calls Tryd.prog 52 #[.agg #[.int .i64 bs, .int .i64 ls, .slice Av j cv]] wr fun e w' => e = .returned (.iface 128 (.int .i64 1)) ∧ Below wr.heap.size wr w') := Lib.hid (by have := hCk.out; rw [if_neg htab] at this; exact this)
            clear hfin hend hok htl hCk htab hCr hLl hvl
            go_wp2_with (first
              | (go_at_call 100; (with_reducible refine hDo.out.mono ?_); rintro e_ w8 ⟨rfl, rfl⟩)
              | (go_at_call 52; (with_reducible refine hCk'.out.mono ?_); rintro e_ w9 ⟨rfl, hb9⟩; have hR9 := hD.out.res.below hb9; have z0 : w9.cell? ⟨w.heap.size, 0, none⟩ = some (.int .i64 0) := (blk_cell hR9 0).trans rfl; have z1 : w9.cell? ⟨w.heap.size, 1, none⟩ = some (.int .i64 0) := (blk_cell hR9 1).trans rfl; have z2 : w9.cell? ⟨w.heap.size, 2, none⟩ = some (.slice none 0 0) := (blk_cell hR9 2).trans rfl; have zf0 := blk_frozen hR9 0; have zf1 := blk_frozen hR9 1; have zf2 := blk_frozen hR9 2; have H9 := Lib.hid (And.intro hb9 hR9); clear hb9 hR9))
            obtain ⟨wz, hwz⟩ : ∃ wz, wz = ((w9.setCell ⟨w.heap.size, 0, none⟩ (.int .i64 0)).setCell ⟨w.heap.size, 1, none⟩ (.int .i64 0)).setCell ⟨w.heap.size, 2, none⟩ (.slice none 0 0) := ⟨_, rfl⟩
            rw [← hwz]
            have hz : Tab wz w.heap.size 0 0 (.slice none 0 0) := by rw [hwz]; exact Tab.put H9.out.2 0 0 _
            have hzb : Below w.heap.size w wz := by rw [hwz]; exact (((hD.out.bel.trans (H9.out.1.mono hD.out.bel.size)).setCell (Nat.le_refl _) _).setCell (Nat.le_refl _) _).setCell (Nat.le_refl _) _
            refine bodyPost_ret (results_ct rfl _ wz w.heap.size 96 #[.int .i64 0, .int .i64 0, .slice none 0 0] (0, 0) _ rfl hz Tryd.underlying96 rfl (by kernel_rfl)) rfl ?_
            rw [HE.out]
            exact ⟨none, 0, rfl, Kd.C_nil _ _, Nat.le_refl _, hzb⟩
        · rw [if_neg hok] at hfin
          have hend : decRes i = ((0, 0, []), some 3) := by unfold decRes; rw [if_neg (fun q => hok q.1)]
          have HE := Lib.hid hend
          have hDo : Hid (Calls Tryd.prog 100 #[.pointer (some ⟨g, 0, none⟩)] wr fun e w' => e = .returned (.iface 128 (.int .i64 3)) ∧ wr = w') := Lib.hid (by have := done_calls g _ _ wr (hD.out.rdr.rdr hD.out.lt4); rw [hfin] at this; exact this)
          clear hfin hend hok
          go_wp2_with (go_at_call 100; (with_reducible refine hDo.out.mono ?_); rintro e_ w8 ⟨rfl, rfl⟩; have z0 : wr.cell? ⟨w.heap.size, 0, none⟩ = some (.int .i64 0) := (blk_cell hD.out.res 0).trans rfl; have z1 : wr.cell? ⟨w.heap.size, 1, none⟩ = some (.int .i64 0) := (blk_cell hD.out.res 1).trans rfl; have z2 : wr.cell? ⟨w.heap.size, 2, none⟩ = some (.slice none 0 0) := (blk_cell hD.out.res 2).trans rfl; have zf0 := blk_frozen hD.out.res 0; have zf1 := blk_frozen hD.out.res 1; have zf2 := blk_frozen hD.out.res 2)
          obtain ⟨wz, hwz⟩ : ∃ wz, wz = ((wr.setCell ⟨w.heap.size, 0, none⟩ (.int .i64 0)).setCell ⟨w.heap.size, 1, none⟩ (.int .i64 0)).setCell ⟨w.heap.size, 2, none⟩ (.slice none 0 0) := ⟨_, rfl⟩
          rw [← hwz]
          have hz : Tab wz w.heap.size 0 0 (.slice none 0 0) := by rw [hwz]; exact Tab.put hD.out.res 0 0 _
          have hzb : Below w.heap.size w wz := by rw [hwz]; exact ((hD.out.bel.setCell (Nat.le_refl _) _).setCell (Nat.le_refl _) _).setCell (Nat.le_refl _) _
          refine bodyPost_ret (results_ct rfl _ wz w.heap.size 96 #[.int .i64 0, .int .i64 0, .slice none 0 0] (0, 0) _ rfl hz Tryd.underlying96 rfl (by kernel_rfl)) rfl ?_
          rw [HE.out]
          exact ⟨none, 0, rfl, Kd.C_nil _ _, Nat.le_refl _, hzb⟩
open Go.RowKit Go.Proofs.YtnlaiiophongmaaDoorW.PrintWords Go.Proofs.YtnlaiiophongmaaDoorW.PrintLast Go.Proofs.YtnlaiiophongmaaDoorW.PrintMore

def TabR (w : World) (g : Nat) (b l : Int) (v : Value) : Prop := w.heap[g]? = some (.cells #[.int .i64 b, .int .i64 l, v] 95 (0, 0))
theorem TabR.lt {w : World} {g : Nat} {b l : Int} {v : Value} (h : TabR w g b l v) : g < w.heap.size := (Array.getElem?_eq_some_iff.1 h).1
theorem TabR.below {w w' : World} {g : Nat} {b l : Int} {v : Value} (h : TabR w g b l v) (hb : Below w.heap.size w w') : TabR w' g b l v := (hb.block g h.lt).trans h
theorem TabR.but {w w' : World} {g gr : Nat} {b l : Int} {v : Value} (h : TabR w g b l v) (hb : But gr w w') (hne : g ≠ gr) : TabR w' g b l v := (hb.block g h.lt hne).trans h
theorem TabR.put {w : World} {g : Nat} {b l : Int} {v : Value} (h : TabR w g b l v) (b' l' : Int) (v' : Value) : TabR (((w.setCell ⟨g, 0, none⟩ (.int .i64 b')).setCell ⟨g, 1, none⟩ (.int .i64 l')).setCell ⟨g, 2, none⟩ v') g b' l' v' :=
  blk_put (cs := #[.int .i64 b', .int .i64 l', v]) (blk_put (cs := #[.int .i64 b', .int .i64 l, v]) (blk_put (cs := #[.int .i64 b, .int .i64 l, v]) h 0 _ rfl) 1 _ rfl) 2 _ rfl
theorem TabR.put2 {w : World} {g : Nat} {b l : Int} {v : Value} (h : TabR w g b l v) (v' : Value) : TabR (w.setCell ⟨g, 2, none⟩ v') g b l v' :=
  blk_put (cs := #[.int .i64 b, .int .i64 l, v]) h 2 _ rfl
/-- the reference's reader in its box -/
structure RS (B : Nat) (w : World) (l : List Int) (bad : Bool) (W : World) (A : Option Addr) (m c : Nat) : Prop where
  bel : Below w.heap.size w W
  box : W.heap[B]? = some (.cells #[.slice A m c, .bool bad] 165 (0, 0))
  sl : Sl W A m c l
  blk : ∀ a, A = some a → 0 < m → a.block < B
  byt : ∀ x ∈ l, 0 ≤ x ∧ x < 256
  len : m ≤ 1000
  res : TabR W w.heap.size 0 0 (.slice none 0 0)
  lt : w.heap.size < B
theorem RS.keep {B m c : Nat} {w W W' : World} {l : List Int} {bad : Bool} {A : Option Addr} (h : RS B w l bad W A m c) (hb : Below (B + 1) W W') : RS B w l bad W' A m c := by
  refine ⟨h.bel.trans (hb.mono (by have := h.lt; omega)), (hb.block B (by omega)).trans h.box, ?_, h.blk, h.byt, h.len, (hb.block _ (by have := h.lt; omega)).trans h.res, h.lt⟩
  refine ⟨?_, h.sl.len, h.sl.cap⟩
  have hR := Kd.reads_of_C (enc := Value.int .u8) (d := (0 : Int)) (h1 := fun _ => rfl) h.sl.rd
  refine Kd.C_of_reads (enc := Value.int .u8) (d := (0 : Int)) (h1 := fun _ => rfl) ⟨hR.1, hR.2.1, fun hp => ?_⟩
  obtain ⟨a, e, hc⟩ := hR.2.2 hp
  refine ⟨a, e, fun j hj => ?_⟩
  rw [← hc j hj]
  unfold World.cell?
  rw [hb.block _ (by rw [add_block]; have := h.blk a e (by have := h.sl.len; omega); omega)]
theorem RS.take {B m c m' c' : Nat} {w W W1 : World} {l l' : List Int} {bad bad' : Bool} {A A' : Option Addr} (h : RS B w l bad W A m c) (hb : Below W.heap.size W W1) (hS : Sl W1 A' m' c' l') (hA : ∀ a, A' = some a → ∃ a0, A = some a0 ∧ a.block = a0.block) (hl : l'.length ≤ l.length) (hby : ∀ x ∈ l', 0 ≤ x ∧ x < 256) :
    RS B w l' bad' ((W1.setCell ⟨B, 0, none⟩ (.slice A' m' c')).setCell ⟨B, 1, none⟩ (.bool bad')) A' m' c' := by
  have hlt : B < W.heap.size := (Array.getElem?_eq_some_iff.1 h.box).1
  have hbut : But B W1 ((W1.setCell ⟨B, 0, none⟩ (.slice A' m' c')).setCell ⟨B, 1, none⟩ (.bool bad')) := ((But.refl _ _).setCell 0 _).setCell 1 _
  have hbox : W1.heap[B]? = some (.cells #[.slice A m c, .bool bad] 165 (0, 0)) := (hb.block B hlt).trans h.box
  have hmm : m' ≤ m := by have := h.sl.len; have := hS.len; omega
  have hbk : ∀ a, A' = some a → 0 < m' → a.block < B := fun a e hp => by
    obtain ⟨a0, e0, e1⟩ := hA a e
    rw [e1]; exact h.blk a0 e0 (by omega)
  have hsz := h.bel.size
  refine ⟨but_below hbut (h.bel.trans (hb.mono hsz)) (by have := h.lt; omega) (Nat.le_trans hsz hb.size), blk_put (cs := #[.slice A' m' c', .bool bad]) (blk_put (cs := #[.slice A m c, .bool bad]) hbox 0 _ rfl) 1 _ rfl, ?_, hbk, hby, by have := h.len; omega, (h.res.below hb).but hbut (by have := h.lt; omega), h.lt⟩
  refine ⟨?_, hS.len, hS.cap⟩
  have hR := Kd.reads_of_C (enc := Value.int .u8) (d := (0 : Int)) (h1 := fun _ => rfl) hS.rd
  refine Kd.C_of_reads (enc := Value.int .u8) (d := (0 : Int)) (h1 := fun _ => rfl) ⟨hR.1, hR.2.1, fun hp => ?_⟩
  obtain ⟨a, e, hc⟩ := hR.2.2 hp
  refine ⟨a, e, fun j hj => ?_⟩
  rw [← hc j hj]
  have hq := hbk a e (by have := hS.len; omega)
  unfold World.cell?
  rw [hbut.block _ (by rw [add_block]; have := hb.size; omega) (by rw [add_block]; omega)]
theorem rdLeft_by (l : List Int) (bad : Bool) (n : Nat) (hby : ∀ x ∈ l, 0 ≤ x ∧ x < 256) : ∀ x ∈ rdLeft l bad n, 0 ≤ x ∧ x < 256 := by
  unfold rdLeft
  split
  · simp
  · exact fun x hx => hby x (List.mem_of_mem_drop hx)
theorem rdLeft_len (l : List Int) (bad : Bool) (n : Nat) : (rdLeft l bad n).length ≤ l.length := by
  unfold rdLeft
  split <;> simp
theorem wrap_succ (j : Nat) (h : j < 1000) : wrap64 ((j : Int) + 1) = ((j + 1 : Nat) : Int) := by unfold wrap64; omega
theorem n_facts (N : Nat) (h : (N : Int) < 256) : wrap64 (8 * (N : Int)) = 8 * (N : Int) ∧ wrap64 (17 + 8 * (N : Int)) = 17 + 8 * (N : Int) ∧ wrap64 (N : Int) = (N : Int) := by
  unfold wrap64; refine ⟨?_, ?_, ?_⟩ <;> omega
theorem n_ne (m N : Nat) (h : ¬ m = 17 + 8 * N) : ((m : Int) == 17 + 8 * (N : Int)) = false ∧ ¬ (m : Int) = 17 + 8 * (N : Int) ∧ ((m : Int) != 17 + 8 * (N : Int)) = true := by
  have h1 : ¬ (m : Int) = 17 + 8 * (N : Int) := by omega
  have h2 : ((m : Int) == 17 + 8 * (N : Int)) = false := beq_eq_false_iff_ne.2 h1
  exact ⟨h2, h1, by simp only [bne, h2]; rfl⟩
theorem n_eq (m N : Nat) (h : m = 17 + 8 * N) : ((m : Int) == 17 + 8 * (N : Int)) = true ∧ (m : Int) = 17 + 8 * (N : Int) ∧ ((m : Int) != 17 + 8 * (N : Int)) = false := by
  have h1 : (m : Int) = 17 + 8 * (N : Int) := by omega
  have h2 : ((m : Int) == 17 + 8 * (N : Int)) = true := beq_iff_eq.2 h1
  exact ⟨h2, h1, by simp only [bne, h2]; rfl⟩
theorem not_len {i : List Int} {m N : Nat} (hm : m = i.length) (hN : N = tN i) (h : ¬ m = 17 + 8 * N) : ¬ (lenOk i ∧ tabOk (tB i) (tE i) (tL i) = true) := by
  intro q
  have := q.1.2
  rw [← hm, ← hN] at this
  exact h this
theorem n1_ok {i : List Int} (hi : ∀ c ∈ i, B8 c) (h : 17 ≤ i.length) : rdNum (s2 i).1 (s2 i).2 1 = (tN i : Int) := by
  have hN := tN_ok hi h
  have hx := hN.2.2
  have hb := hN.2.1
  have e2 : rdNum (i.drop 16) false 1 = rd i 16 := by
    have ht : (i.drop 16).take 1 = [rd i 16] := by
      rw [List.drop_eq_getElem_cons (by omega)]
      simp only [List.take_succ_cons, List.take_zero]
      congr 1
      unfold rd
      rw [show (16 : Int).toNat = 16 from rfl, List.getD, List.getElem?_eq_getElem (by omega)]; rfl
    unfold rdNum
    rw [if_neg (by simp [List.length_drop]; omega), ht, numV_one hb]
  rw [(s_ok h).2.1, e2, hN.1]
  unfold B8 at hb
  omega
theorem take8 (A : Option Addr) (m c : Nat) (l : List Int) (bad : Bool) (w : World) (h : Sl w A m c l) (hby : ∀ x ∈ l, 0 ≤ x ∧ x < 256) (hm : m ≤ 1000) :
    Calls Tryd.prog 102 #[.agg #[.slice A m c, .bool bad], .int .i64 8] w fun e w' => ∃ A' m' c', e = .returned (.tuple #[.agg #[.slice A' m' c', .bool (rdBad l bad 8)], .int .u64 (rdNum l bad 8)]) ∧ Sl w' A' m' c' (rdLeft l bad 8) ∧ (∀ a, A' = some a → ∃ a0, A = some a0 ∧ a.block = a0.block) ∧ Below w.heap.size w w' := ref_take 8 (by decide) (by decide) A m c l bad w h hby hm
theorem take1 (A : Option Addr) (m c : Nat) (l : List Int) (bad : Bool) (w : World) (h : Sl w A m c l) (hby : ∀ x ∈ l, 0 ≤ x ∧ x < 256) (hm : m ≤ 1000) :
    Calls Tryd.prog 102 #[.agg #[.slice A m c, .bool bad], .int .i64 1] w fun e w' => ∃ A' m' c', e = .returned (.tuple #[.agg #[.slice A' m' c', .bool (rdBad l bad 1)], .int .u64 (rdNum l bad 1)]) ∧ Sl w' A' m' c' (rdLeft l bad 1) ∧ (∀ a, A' = some a → ∃ a0, A = some a0 ∧ a.block = a0.block) ∧ Below w.heap.size w w' := ref_take 1 (by decide) (by decide) A m c l bad w h hby hm
/-- what the reference's loop keeps -/
structure ES (B : Nat) (w : World) (g10 : Nat) (bs ls : Int) (i : List Int) (j : Nat) (W : World) : Prop where
  rs : ∃ A m c, RS B w (stp (s3 i).1 (s3 i).2 j).1 (stp (s3 i).1 (s3 i).2 j).2 W A m c
  row : ∃ v, TabR W g10 bs ls v ∧ Kd.R (Kd.int .i64) 2 W (B + 1) (fun _ => True) v (vals (s3 i).1 (s3 i).2 j)
  lt : B + 1 ≤ g10
set_option maxRecDepth 100000 in
set_option maxHeartbeats 4000000 in
theorem rdec_walk {w : World} {A : Option Addr} {n c : Nat} {b : List Int} (h : Sl w A n c b) (hby : ∀ x ∈ b, B8 x) (hn : n ≤ 1000) :
    Calls Tryd.prog 64 #[.slice A n c] w fun e w' => ∃ A' c', e = .returned (.tuple #[.agg #[.int .i64 (decR b).1.1, .int .i64 (decR b).1.2.1, .slice A' (decR b).1.2.2.length c'], .int .i64 (numE (decR b).2)]) ∧ (Kd.int .i64).C w' A' (decR b).1.2.2.length (decR b).1.2.2 ∧ (decR b).1.2.2.length ≤ c' ∧ Below w.heap.size w w' := by
  obtain ⟨w1, hw1⟩ : ∃ w1, w1 = w.alloc (.cells #[.int .i64 0, .int .i64 0, .slice none 0 0] 95) := ⟨_, rfl⟩
  have hb1 : Below w.heap.size w w1 := by rw [hw1]; exact (Below.refl _ w).alloc (Nat.le_refl _) _
  have hT1 : TabR w1 w.heap.size 0 0 (.slice none 0 0) := by rw [hw1]; exact heap_alloc_new w _
  obtain ⟨i, hi⟩ : ∃ i, i = (openR 5 b).1 := ⟨_, rfl⟩
  obtain ⟨o, ho⟩ : ∃ o, o = (openR 5 b).2 := ⟨_, rfl⟩
  obtain ⟨m, hm⟩ : ∃ m, m = i.length := ⟨_, rfl⟩
  have hO : Calls Tryd.prog 101 #[.int .u8 5, .slice A n c] w1 fun e w' => ∃ A' c', e = .returned (.tuple #[.slice A' m c', .int .i64 (numE o)]) ∧ Sl w' A' m c' i ∧ Below w1.heap.size w1 w' := by
    rw [hm, hi, ho]; exact ropen_sl 5 (h.below hb1) hby (by omega) _ rfl
  have HW1 := Lib.hid hw1
  have H1 := Lib.hid (And.intro hb1 hT1)
  have hsz : w1.heap.size = w.heap.size + 1 := by rw [hw1]; simp
  have hlen := h.len
  have hil : i.length ≤ 1000 := by rw [hi]; exact openR_len 5 b (by omega)
  have hiby : ∀ x ∈ i, B8 x := by rw [hi]; exact openR_byte 5 b hby
  have fin3 : ∀ (W : World) (e : Int), Below w.heap.size w W → TabR W w.heap.size 0 0 (.slice none 0 0) → decR b = ((0, 0, []), some e) → Aside0 (∃ wz, wz = ((W.setCell ⟨w.heap.size, 0, none⟩ (.int .i64 0)).setCell ⟨w.heap.size, 1, none⟩ (.int .i64 0)).setCell ⟨w.heap.size, 2, none⟩ (.slice none 0 0) ∧ TabR wz w.heap.size 0 0 (.slice none 0 0) ∧ Below w.heap.size w wz) := fun W e hB hT _ =>
    ⟨_, rfl, TabR.put hT 0 0 _, ((hB.setCell (Nat.le_refl _) _).setCell (Nat.le_refl _) _).setCell (Nat.le_refl _) _⟩
  have FIN := Lib.hid fin3
  clear hw1 hb1 hT1 fin3
  cases o with
  | some e =>
    have e1 : decR b = ((0, 0, []), some e) := by unfold decR; rw [← ho, if_neg (by simp)]
    have ne : ¬ e = 0 := by intro q; rw [q] at ho; exact openR_ne 5 b ho.symm
    have nb : (e == 0) = false := beq_eq_false_iff_ne.2 ne
    have HO : Hid (Calls Tryd.prog 101 #[.int .u8 5, .slice A n c] w1 fun e_ w' => ∃ A' c', e_ = .returned (.tuple #[.slice A' m c', .int .i64 e]) ∧ Sl w' A' m c' i ∧ Below w1.heap.size w1 w') := Lib.hid hO
    have HE := Lib.hid e1
    clear hO hi ho h hm hby e1 hlen hil hiby
    go_enter Tryd.func64, Tryd.ntmps64
    go_wp2_with (first | (go_at_call 101; rw [← HW1.out]; (with_reducible refine HO.out.mono ?_); rintro e_ w2 ⟨A2, c2, rfl, h2, hb2⟩; have hT2 : TabR w2 w.heap.size 0 0 (.slice none 0 0) := H1.out.2.below hb2; have k0 : w2.cell? ⟨w.heap.size, 0, none⟩ = some (.int .i64 0) := (blk_cell hT2 0).trans rfl; have k1 : w2.cell? ⟨w.heap.size, 1, none⟩ = some (.int .i64 0) := (blk_cell hT2 1).trans rfl; have k2 : w2.cell? ⟨w.heap.size, 2, none⟩ = some (.slice none 0 0) := (blk_cell hT2 2).trans rfl; have f0 := blk_frozen hT2 0; have f1 := blk_frozen hT2 1; have f2 := blk_frozen hT2 2; have H2 := Lib.hid (And.intro hT2 (H1.out.1.trans (hb2.mono H1.out.1.size))); clear hT2 hb2 h2))
    obtain ⟨wz, hwz, hz, hzb⟩ := (FIN.out w2 e H2.out.2 H2.out.1 HE.out).out
    rw [← hwz]
    refine bodyPost_ret (results_ct rfl _ wz w.heap.size 95 #[.int .i64 0, .int .i64 0, .slice none 0 0] (0, 0) _ rfl hz Tryd.underlying95 rfl (by kernel_rfl)) rfl ?_
    rw [HE.out]
    exact ⟨none, 0, rfl, Kd.C_nil _ _, Nat.le_refl _, hzb⟩
  | none =>
    have hD : decR b = decRes i := by unfold decR; rw [← ho, if_pos rfl, ← hi]
    have HO : Hid (Calls Tryd.prog 101 #[.int .u8 5, .slice A n c] w1 fun e_ w' => ∃ A' c', e_ = .returned (.tuple #[.slice A' m c', .int .i64 0]) ∧ Sl w' A' m c' i ∧ Below w1.heap.size w1 w') := Lib.hid hO
    by_cases h17 : m < 17
    · have q17 : (m : Int) < 17 := by omega
      have HE : Hid (decR b = ((0, 0, []), some 3)) := Lib.hid (by rw [hD]; unfold decRes; rw [if_neg (fun q => by have := q.1.1; omega)])
      clear hO hi ho h hm hby hlen hil hiby hD h17
      go_enter Tryd.func64, Tryd.ntmps64
      go_wp2_with (first | (go_at_call 101; rw [← HW1.out]; (with_reducible refine HO.out.mono ?_); rintro e_ w2 ⟨A2, c2, rfl, h2, hb2⟩; have hT2 : TabR w2 w.heap.size 0 0 (.slice none 0 0) := H1.out.2.below hb2; have k0 : w2.cell? ⟨w.heap.size, 0, none⟩ = some (.int .i64 0) := (blk_cell hT2 0).trans rfl; have k1 : w2.cell? ⟨w.heap.size, 1, none⟩ = some (.int .i64 0) := (blk_cell hT2 1).trans rfl; have k2 : w2.cell? ⟨w.heap.size, 2, none⟩ = some (.slice none 0 0) := (blk_cell hT2 2).trans rfl; have f0 := blk_frozen hT2 0; have f1 := blk_frozen hT2 1; have f2 := blk_frozen hT2 2; have H2 := Lib.hid (And.intro hT2 (H1.out.1.trans (hb2.mono H1.out.1.size))); clear hT2 hb2 h2))
      obtain ⟨wz, hwz, hz, hzb⟩ := (FIN.out w2 3 H2.out.2 H2.out.1 HE.out).out
      rw [← hwz]
      refine bodyPost_ret (results_ct rfl _ wz w.heap.size 95 #[.int .i64 0, .int .i64 0, .slice none 0 0] (0, 0) _ rfl hz Tryd.underlying95 rfl (by kernel_rfl)) rfl ?_
      rw [HE.out]
      exact ⟨none, 0, rfl, Kd.C_nil _ _, Nat.le_refl _, hzb⟩
    have q17 : ¬ (m : Int) < 17 := by omega
    obtain ⟨N, hN⟩ : ∃ N, N = tN i := ⟨_, rfl⟩
    have hNt := tN_ok hiby (by omega)
    have hNx : (N : Int) = rd i 16 := by rw [hN, hNt.1]; have := hNt.2.1; unfold B8 at this; omega
    have hN8 : (N : Int) < 256 := by have := tN_lt i; omega
    have hN0 : (0 : Int) ≤ (N : Int) := by omega
    have hcell : ∀ (W : World) A2 c2, Sl W A2 m c2 i → ∃ ad, A2 = some ad ∧ W.cell? (ad.add 16) = some (.int .u8 (N : Int)) := fun W A2 c2 hS => by
      obtain ⟨ad, e_, hx⟩ := Kd.at_int hS.rd 16 (by omega) (by omega)
      exact ⟨ad, e_, by rw [hNx]; exact hx⟩
    have HC := Lib.hid hcell
    clear hcell
    by_cases hok : m = 17 + 8 * N
    · have qok2 := (n_eq m N hok).2.2
      have d17 : decide ((m : Int) < 17) = false := decide_eq_false q17
      have hL : lenOk i := ⟨by omega, by rw [← hm, ← hN]; exact hok⟩
      obtain ⟨bs, hbs⟩ : ∃ x, x = tB i := ⟨_, rfl⟩
      obtain ⟨ls, hls⟩ : ∃ x, x = tE i := ⟨_, rfl⟩
      obtain ⟨X1, hX1⟩ : ∃ x, x = rdNum i false 8 := ⟨_, rfl⟩
      obtain ⟨X2, hX2⟩ : ∃ x, x = rdNum (s1 i).1 (s1 i).2 8 := ⟨_, rfl⟩
      have hx12 : Hid (wrap64 X1 = bs ∧ wrap64 X2 = ls) := Lib.hid ⟨by rw [hX1, hbs]; rfl, by rw [hX2, hls]; rfl⟩
      have hx3 : rdNum (s2 i).1 (s2 i).2 1 = (N : Int) := by rw [n1_ok hiby hL.1, hN]
      have HD : Hid (decR b = decRes i ∧ lenOk i ∧ bs = tB i ∧ ls = tE i ∧ N = tN i) := Lib.hid ⟨hD, hL, hbs, hls, hN⟩
      have HX := Lib.hid (And.intro hX1 (And.intro hX2 hx3))
      have HI : Hid ((∀ x ∈ i, 0 ≤ x ∧ x < 256) ∧ m ≤ 1000 ∧ 0 < m) := Lib.hid ⟨hiby, by omega, by omega⟩
      clear hO hi ho h hm hby hlen hil hiby hD h17 hNt hNx hN hok hL hbs hls hX1 hX2 hx3
      obtain ⟨v1, v2, v3⟩ := n_facts N hN8
      go_enter Tryd.func64, Tryd.ntmps64
      go_upto_region 7 with (first | (go_at_call 101; rw [← HW1.out]; (with_reducible refine HO.out.mono ?_); rintro e_ w2 ⟨A2, c2, rfl, h2, hb2⟩; obtain ⟨ad, ead, hx16⟩ := HC.out w2 A2 c2 h2; subst ead; have hx16' : w2.cell? ⟨ad.block, ad.off + 16, none⟩ = some (.int .u8 (N : Int)) := hx16; clear hx16; have H2 := Lib.hid (And.intro h2 (And.intro (H1.out.2.below hb2) (H1.out.1.trans (hb2.mono H1.out.1.size)))); clear hb2 h2))
      obtain ⟨w3, hw3⟩ : ∃ w3, w3 = w2.alloc (.cells #[.slice (some ad) m c2, .bool false] 165) := ⟨_, rfl⟩
      obtain ⟨B, hB⟩ : ∃ B, B = w2.heap.size := ⟨_, rfl⟩
      rw [← hw3, ← hB]
      have hA3 : Below w2.heap.size w2 w3 := by rw [hw3]; exact (Below.refl _ w2).alloc (Nat.le_refl _) _
      have R0 : Hid (RS B w i false w3 (some ad) m c2) := Lib.hid ⟨H2.out.2.2.trans (hA3.mono H2.out.2.2.size), by rw [hw3, hB]; exact heap_alloc_new w2 _, H2.out.1.below hA3, fun a e hp => by rw [hB]; exact H2.out.1.lt e hp, HI.out.1, HI.out.2.1, H2.out.2.1.below hA3, by rw [hB]; exact H2.out.2.1.lt⟩
      clear hw3 hB hA3 hx16'
      have k0 : w3.cell? ⟨B, 0, none⟩ = some (.slice (some ad) m c2) := (blk_cell R0.out.box 0).trans rfl
      have k1 : w3.cell? ⟨B, 1, none⟩ = some (.bool false) := (blk_cell R0.out.box 1).trans rfl
      go_upto_region 8 with (go_at_call 102; (with_reducible refine (take8 _ _ _ _ _ _ R0.out.sl R0.out.byt R0.out.len).mono ?_); rintro e_ w4 ⟨A4, m4, c4, rfl, hS, hA, hb⟩; rw [← HX.out.1]; have hbx := (hb.block _ (Array.getElem?_eq_some_iff.1 R0.out.box).1).trans R0.out.box; clear k0 k1; have k0 : w4.cell? ⟨B, 0, none⟩ = some (.slice (some ad) m c2) := (blk_cell hbx 0).trans rfl; have k1 : w4.cell? ⟨B, 1, none⟩ = some (.bool false) := (blk_cell hbx 1).trans rfl; have f0 := blk_frozen hbx 0; have f1 := blk_frozen hbx 1; have T1 := Lib.hid (RS.take (bad' := rdBad i false 8) R0.out hb hS hA (rdLeft_len _ _ _) (rdLeft_by _ _ _ R0.out.byt)); clear hb hS hA hbx)
      obtain ⟨w5, hw_⟩ : ∃ W_, W_ = (w4.setCell ⟨B, 0, none⟩ (.slice A4 m4 c4)).setCell ⟨B, 1, none⟩ (.bool (rdBad i false 8)) := ⟨_, rfl⟩
      have R1 : Hid (RS B w (s1 i).1 (s1 i).2 w5 A4 m4 c4) := Lib.hid (by rw [hw_]; exact T1.out)
      rw [← hw_, show rdBad i false 8 = (s1 i).2 from rfl]
      clear hw_ T1 k0 k1 f0 f1
      have k0 : w5.cell? ⟨B, 0, none⟩ = some (.slice A4 m4 c4) := (blk_cell R1.out.box 0).trans rfl
      have k1 : w5.cell? ⟨B, 1, none⟩ = some (.bool (s1 i).2) := (blk_cell R1.out.box 1).trans rfl
      go_upto_region 9 with (go_at_call 102; (with_reducible refine (take8 _ _ _ _ _ _ R1.out.sl R1.out.byt R1.out.len).mono ?_); rintro e_ w6 ⟨A6, m6, c6, rfl, hS, hA, hb⟩; rw [← HX.out.2.1]; have hbx := (hb.block _ (Array.getElem?_eq_some_iff.1 R1.out.box).1).trans R1.out.box; clear k0 k1; have k0 : w6.cell? ⟨B, 0, none⟩ = some (.slice A4 m4 c4) := (blk_cell hbx 0).trans rfl; have k1 : w6.cell? ⟨B, 1, none⟩ = some (.bool (s1 i).2) := (blk_cell hbx 1).trans rfl; have f0 := blk_frozen hbx 0; have f1 := blk_frozen hbx 1; have T2 := Lib.hid (RS.take (bad' := rdBad (s1 i).1 (s1 i).2 8) R1.out hb hS hA (rdLeft_len _ _ _) (rdLeft_by _ _ _ R1.out.byt)); clear hb hS hA hbx)
      obtain ⟨w7, hw_⟩ : ∃ W_, W_ = (w6.setCell ⟨B, 0, none⟩ (.slice A6 m6 c6)).setCell ⟨B, 1, none⟩ (.bool (rdBad (s1 i).1 (s1 i).2 8)) := ⟨_, rfl⟩
      have R2 : Hid (RS B w (s2 i).1 (s2 i).2 w7 A6 m6 c6) := Lib.hid (by rw [hw_]; exact T2.out)
      rw [← hw_, show rdBad (s1 i).1 (s1 i).2 8 = (s2 i).2 from rfl]
      clear hw_ T2 k0 k1 f0 f1
      have k0 : w7.cell? ⟨B, 0, none⟩ = some (.slice A6 m6 c6) := (blk_cell R2.out.box 0).trans rfl
      have k1 : w7.cell? ⟨B, 1, none⟩ = some (.bool (s2 i).2) := (blk_cell R2.out.box 1).trans rfl
      go_upto_region 10 with (go_at_call 102; (with_reducible refine (take1 _ _ _ _ _ _ R2.out.sl R2.out.byt R2.out.len).mono ?_); rintro e_ w8 ⟨A8, m8, c8, rfl, hS, hA, hb⟩; rw [HX.out.2.2]; have hbx := (hb.block _ (Array.getElem?_eq_some_iff.1 R2.out.box).1).trans R2.out.box; clear k0 k1; have k0 : w8.cell? ⟨B, 0, none⟩ = some (.slice A6 m6 c6) := (blk_cell hbx 0).trans rfl; have k1 : w8.cell? ⟨B, 1, none⟩ = some (.bool (s2 i).2) := (blk_cell hbx 1).trans rfl; have f0 := blk_frozen hbx 0; have f1 := blk_frozen hbx 1; have T3 := Lib.hid (RS.take (bad' := rdBad (s2 i).1 (s2 i).2 1) R2.out hb hS hA (rdLeft_len _ _ _) (rdLeft_by _ _ _ R2.out.byt)); clear hb hS hA hbx)
      obtain ⟨w9, hw_⟩ : ∃ W_, W_ = (w8.setCell ⟨B, 0, none⟩ (.slice A8 m8 c8)).setCell ⟨B, 1, none⟩ (.bool (rdBad (s2 i).1 (s2 i).2 1)) := ⟨_, rfl⟩
      have R3 : Hid (RS B w (s3 i).1 (s3 i).2 w9 A8 m8 c8) := Lib.hid (by rw [hw_]; exact T3.out)
      rw [← hw_, show rdBad (s2 i).1 (s2 i).2 1 = (s3 i).2 from rfl]
      clear hw_ T3 k0 k1 f0 f1
      have k0 : w9.cell? ⟨B, 0, none⟩ = some (.slice A8 m8 c8) := (blk_cell R3.out.box 0).trans rfl
      have k1 : w9.cell? ⟨B, 1, none⟩ = some (.bool (s3 i).2) := (blk_cell R3.out.box 1).trans rfl
      obtain ⟨x1, x2⟩ := hx12.out
      go_upto_region 11 with (fail)
      clear x1 x2
      obtain ⟨w10, hw10⟩ : ∃ w10, w10 = w9.alloc (.cells #[.int .i64 bs, .int .i64 ls, .slice none 0 0] 95) := ⟨_, rfl⟩
      obtain ⟨g10, hg10⟩ : ∃ g, g = w9.heap.size := ⟨_, rfl⟩
      rw [← hw10, ← hg10]
      have hA10 : Below w9.heap.size w9 w10 := by rw [hw10]; exact (Below.refl _ w9).alloc (Nat.le_refl _) _
      have hlt9 := (Array.getElem?_eq_some_iff.1 R3.out.box).1
      have H10 : Hid (ES B w g10 bs ls i 0 w10) := Lib.hid ⟨⟨A8, m8, c8, R3.out.keep (hA10.mono (by ((try clear hw1_); clear v1 v2 v3; omega)))⟩, ⟨_, by rw [hw10, hg10]; exact heap_alloc_new w9 _, Kd.R_nil _ _ _ _ _⟩, by ((try clear hw1_); clear v1 v2 v3; omega)⟩
      have hNN := HD.out.2.2.2.2
      have hN256 : N < 256 := by ((try clear hw1_); clear v1 v2 v3; omega)
      clear hw10 hg10 hA10 hlt9 k0 k1 R0 R1 R2 R3
      have HNN := Lib.hid hNN
      clear hNN
      go_wp2_with (fail)
      go_loopw [11] (fun v11 wr => ∃ j : Nat, v11 = .int .i64 (j : Int) ∧ Aside0 (j ≤ N) ∧ Aside0 (ES B w g10 bs ls i j wr)) (fun v11 _ => match v11 with | .int _ x => ((N : Int) - x).toNat | _ => 0)
      case atStart => exact ⟨0, rfl, ⟨by ((try clear hw1_); clear v1 v2 v3; omega)⟩, ⟨H10.out⟩⟩
      case round =>
        obtain ⟨j, rfl, hj, hD⟩ := hrel
        by_cases hlt : j < N
        · have hq : (j : Int) < (N : Int) := by ((try clear hw1_); clear v1 v2 v3; omega)
          have hj0 : (0 : Int) ≤ (j : Int) := by ((try clear hw1_); clear v1 v2 v3; omega)
          obtain ⟨Aj, mj, cj, hRj⟩ := hD.out.rs
          obtain ⟨v, hT, hR⟩ := hD.out.row
          have hvl := vals_length (s3 i).1 (s3 i).2 j
          obtain ⟨Av, cv, e_⟩ := Kd.R_slice hR
          rw [hvl] at e_
          subst e_
          obtain ⟨lj, hlj⟩ : ∃ x, x = (stp (s3 i).1 (s3 i).2 j).1 := ⟨_, rfl⟩
          obtain ⟨bj, hbj⟩ : ∃ x, x = (stp (s3 i).1 (s3 i).2 j).2 := ⟨_, rfl⟩
          obtain ⟨Xj, hXj⟩ : ∃ x, x = rdNum lj bj 8 := ⟨_, rfl⟩
          obtain ⟨x, hx⟩ : ∃ x, x = wrap64 (rdNum lj bj 8) := ⟨_, rfl⟩
          have hxx : Hid (wrap64 Xj = x) := Lib.hid (by rw [hXj, hx])
          rw [← hlj, ← hbj] at hRj
          have HL := Lib.hid (And.intro hlj (And.intro hbj (And.intro hXj hx)))
          have RJ := Lib.hid hRj
          have HR := Lib.hid (And.intro hT hR)
          clear hlj hbj hXj hx hRj hT hR
          have k0 : wr.cell? ⟨B, 0, none⟩ = some (.slice Aj mj cj) := (blk_cell RJ.out.box 0).trans rfl
          have k1 : wr.cell? ⟨B, 1, none⟩ = some (.bool bj) := (blk_cell RJ.out.box 1).trans rfl
          go_upto_region 15 with (go_at_call 102; (with_reducible refine (take8 _ _ _ _ _ _ RJ.out.sl RJ.out.byt RJ.out.len).mono ?_); rintro e_ w11 ⟨A4, m4, c4, rfl, hS, hA, hb⟩; rw [← HL.out.2.2.1]; have H11 := Lib.hid (And.intro hS (And.intro hA hb)); clear hS hA hb)
          obtain ⟨w12, hw12⟩ : ∃ w_, w_ = w11.alloc (.cells #[.slice A4 m4 c4, .bool (rdBad lj bj 8)] 165) := ⟨_, rfl⟩
          obtain ⟨g12, hg12⟩ : ∃ g, g = w11.heap.size := ⟨_, rfl⟩
          rw [← hw12, ← hg12]
          have hA12 : Below w11.heap.size w11 w12 := by rw [hw12]; exact (Below.refl _ w11).alloc (Nat.le_refl _) _
          have hx12_ : w12.heap[g12]? = some (.cells #[.slice A4 m4 c4, .bool (rdBad lj bj 8)] 165 (0, 0)) := by rw [hw12, hg12]; exact heap_alloc_new w11 _
          have hB12 : Below wr.heap.size wr w12 := H11.out.2.2.trans (hA12.mono H11.out.2.2.size)
          have hBl := (Array.getElem?_eq_some_iff.1 RJ.out.box).1
          have hbx : w12.heap[B]? = _ := (hB12.block _ hBl).trans RJ.out.box
          have H12 := Lib.hid (And.intro (RS.take (bad' := rdBad lj bj 8) RJ.out hB12 (H11.out.1.below hA12) H11.out.2.1 (rdLeft_len _ _ _) (rdLeft_by _ _ _ RJ.out.byt)) (And.intro (HR.out.1.below hB12) (And.intro (Kd.R_below HR.out.2 hB12) (Nat.le_trans hBl hB12.size))))
          clear k0 k1
          have k0 : w12.cell? ⟨B, 0, none⟩ = some (.slice Aj mj cj) := (blk_cell hbx 0).trans rfl
          have k1 : w12.cell? ⟨B, 1, none⟩ = some (.bool bj) := (blk_cell hbx 1).trans rfl
          have f0 := blk_frozen hbx 0
          have f1 := blk_frozen hbx 1
          have n0 : w12.cell? ⟨g12, 0, none⟩ = some (.slice A4 m4 c4) := (blk_cell hx12_ 0).trans rfl
          have n1 : w12.cell? ⟨g12, 1, none⟩ = some (.bool (rdBad lj bj 8)) := (blk_cell hx12_ 1).trans rfl
          have hbx12 : Hid (w12.heap[B]? = some (.cells #[.slice Aj mj cj, .bool bj] 165 (0, 0))) := Lib.hid hbx
          clear hw12 hg12 hA12 hx12_ hB12 hBl hbx
          go_upto_region 16 with (fail)
          obtain ⟨w13, hw13⟩ : ∃ W_, W_ = (w12.setCell ⟨B, 0, none⟩ (.slice A4 m4 c4)).setCell ⟨B, 1, none⟩ (.bool (rdBad lj bj 8)) := ⟨_, rfl⟩
          have hBut : But B w12 w13 := by rw [hw13]; exact ((But.refl _ _).setCell 0 _).setCell 1 _
          have R13 : Hid (RS B w (rdLeft lj bj 8) (rdBad lj bj 8) w13 A4 m4 c4) := Lib.hid (by rw [hw13]; exact H12.out.1)
          have hT13 : TabR w13 g10 bs ls (.slice Av j cv) := H12.out.2.1.but hBut (by have := hD.out.lt; ((try clear hw1_); clear v1 v2 v3; omega))
          have hneB : some B ≠ (Value.slice Av j cv).ownBlock := Kd.R_ne H12.out.2.2.1 (show w12.heap[B]? = some (.cells #[.slice Aj mj cj, .bool bj] 165 (0, 0)) from hbx12.out) (by decide)
          have hR13 : Kd.R (Kd.int .i64) 2 w13 (B + 1) (fun _ => True) (.slice Av j cv) (vals (s3 i).1 (s3 i).2 j) := Kd.R_mono (Kd.R_step (Kd.R_tight rfl H12.out.2.2.1) (fun k ho hk => hBut.block k hk (fun e => hneB (by rw [← e]; exact ho)))) (fun _ _ => trivial)
          have H13 := Lib.hid (And.intro hT13 (And.intro hR13 (show B + 1 ≤ w13.heap.size from Nat.le_trans H12.out.2.2.2 hBut.size)))
          rw [← hw13]
          clear hw13 hBut hT13 hneB hR13 k0 k1 f0 f1 n0 n1
          have t2_ : w13.cell? ⟨g10, 2, none⟩ = some (.slice Av j cv) := (blk_cell H13.out.1 2).trans rfl
          have hxe := hxx.out
          go_wp2_with (first
            | ((with_reducible refine gate_builtin (b := .append) (xs := #[.tmp 73, .tmp 76]) rfl ?_); at_builtin; go_loud (refine Kd.R_append (Kd.int .i64) (w0 := w13) (B + 1) rfl (.tmp 73) (.tmp 76) 90 2 (.int .i64 0) 8 rfl Tryd.underlying90 info64 rfl (by decide) (by decide) (.slice Av j cv) (vals (s3 i).1 (s3 i).2 j) x [.int .i64 x] (fun _ => True) (fun _ => False) rfl rfl rfl (fun _ h => h.elim) (fun _ _ => trivial) H13.out.2.1 (Below.refl _ _) H13.out.2.2 (by rw [hvl]; clear hxe v1 v2 v3; omega) ?_; intro v7 w14 hR7 hB7 hg7 hat7; obtain ⟨Av2, cv2, e_⟩ := Kd.R_slice hR7; subst e_; have hT7 : TabR w14 g10 bs ls (.slice Av j cv) := (hg7.block g10 H13.out.1.lt (fun e => Kd.R_ne H13.out.2.1 H13.out.1 (by decide) e)).trans H13.out.1; clear t2_; have t2_ : w14.cell? ⟨g10, 2, none⟩ = some (.slice Av j cv) := (blk_cell hT7 2).trans rfl; have tf2 := blk_frozen hT7 2; have H14 := Lib.hid (And.intro hR7 (And.intro hB7 hT7)); clear hR7 hB7 hg7 hat7 hT7 hxe)))
          have hlen1 : (vals (s3 i).1 (s3 i).2 j ++ [x]).length = j + 1 := by rw [List.length_append, hvl]; rfl
          obtain ⟨w15, hw15⟩ : ∃ W_, W_ = w14.setCell ⟨g10, 2, none⟩ (.slice Av2 (j + 1) cv2) := ⟨_, rfl⟩
          rw [← hw15]
          have hBut : But g10 w14 w15 := by rw [hw15]; exact (But.refl _ _).setCell 2 _
          have hKB : Below (B + 1) w13 w15 := by rw [hw15]; exact H14.out.2.1.setCell hD.out.lt _
          have hR14 := H14.out.1
          have hTp : TabR w15 g10 bs ls (.slice Av2 (j + 1) cv2) := by rw [hw15]; exact TabR.put2 H14.out.2.2 _
          have hD' : Aside0 (ES B w g10 bs ls i (j + 1) w15) := ⟨by
            have hr := R13.out.keep hKB
            rw [HL.out.1, HL.out.2.1] at hr
            refine ⟨⟨A4, m4, c4, hr⟩, ⟨_, hTp, ?_⟩, hD.out.lt⟩
            show Kd.R (Kd.int .i64) 2 w15 (B + 1) (fun _ => True) _ (vals (s3 i).1 (s3 i).2 j ++ [wrap64 (rdNum (stp (s3 i).1 (s3 i).2 j).1 (stp (s3 i).1 (s3 i).2 j).2 8)])
            rw [← HL.out.1, ← HL.out.2.1, ← HL.out.2.2.2]
            have hne := Kd.R_ne hR14 H14.out.2.2 (by decide)
            rw [hlen1] at hR14 hne
            exact Kd.R_mono (Kd.R_step (Kd.R_tight rfl hR14) (fun k ho hk => hBut.block k hk (fun e => hne (by rw [← e]; exact ho)))) (fun _ _ => trivial)⟩
          clear v1 v2 v3
          refine ⟨⟨j + 1, congrArg _ (by omega), ⟨by omega⟩, hD'⟩, ?_⟩
          show ((N : Int) - ((j : Int) + 1)).toNat < ((N : Int) - (j : Int)).toNat
          omega
        · have hjN : j = N := by have := hj.out; ((try clear hw1_); clear v1 v2 v3; omega)
          subst hjN
          have hq : ¬ (j : Int) < (j : Int) := by ((try clear hw1_); clear v1 v2 v3; omega)
          obtain ⟨Aj, mj, cj, hRj⟩ := hD.out.rs
          have RJ := Lib.hid hRj
          clear hRj
          obtain ⟨v, hT, hR⟩ := hD.out.row
          have hvl := vals_length (s3 i).1 (s3 i).2 j
          obtain ⟨Av, cv, e_⟩ := Kd.R_slice hR
          rw [hvl] at e_
          subst e_
          have k0 : wr.cell? ⟨g10, 0, none⟩ = some (.int .i64 bs) := (blk_cell hT 0).trans rfl
          have k1 : wr.cell? ⟨g10, 1, none⟩ = some (.int .i64 ls) := (blk_cell hT 1).trans rfl
          have k2 : wr.cell? ⟨g10, 2, none⟩ = some (.slice Av j cv) := (blk_cell hT 2).trans rfl
          have HR := Lib.hid (And.intro hT hR)
          clear hT hR
          have hCr : (Kd.int .i64).C wr Av j (vals (s3 i).1 (s3 i).2 j) ∧ j ≤ cv := by
            have := Kd.R_reads' HR.out.2
            rw [hvl] at this
            exact ⟨this.2.2, this.2.1⟩
          have htl : tL i = vals (s3 i).1 (s3 i).2 j := by unfold tL; rw [← HD.out.2.2.2.2]
          have hCk : Hid (Calls Tryd.prog 53 #[.agg #[.int .i64 bs, .int .i64 ls, .slice Av j cv]] wr fun e w' => e = .returned (.bool (tabOk bs ls (vals (s3 i).1 (s3 i).2 j))) ∧ Below wr.heap.size wr w') := Lib.hid (by
            have h0 := fuseeref09_May.calls 400 bs ls Av cv (vals (s3 i).1 (s3 i).2 j) _ wr (by rw [hvl]; exact hCr.1) (by rw [hvl]; exact hCr.2) (may_eq 400 bs ls _ (by rw [hvl]; ((try clear hw1_); clear v1 v2 v3; omega)) (by decide))
            rw [hvl] at h0
            exact h0)
          have hlo : lenOk i := HD.out.2.1
          by_cases htab : tabOk bs ls (vals (s3 i).1 (s3 i).2 j) = true
          · have hend : decR b = ((bs, ls, vals (s3 i).1 (s3 i).2 j), none) := by
              rw [HD.out.1]
              unfold decRes
              rw [htl, ← HD.out.2.2.1, ← HD.out.2.2.2.1, if_pos ⟨hlo, htab⟩]
            have HE := Lib.hid hend
            have hCk' : Hid (Calls Tryd.prog 53 #[.agg #[.int .i64 bs, .int .i64 ls, .slice Av j cv]] wr fun e w' => e = .returned (.bool true) ∧ Below wr.heap.size wr w') := Lib.hid (by have := hCk.out; rw [htab] at this; exact this)
            have HCr := Lib.hid hCr
            have HVL := Lib.hid hvl
            clear hend htl hCk htab hCr hvl hlo
            go_wp2_with (first
              | (go_at_call 53; (with_reducible refine hCk'.out.mono ?_); rintro e_ w9 ⟨rfl, hb9⟩; have hR9 := RJ.out.res.below hb9; have hT9 := HR.out.1.below hb9; clear k0 k1 k2; have k0 : w9.cell? ⟨g10, 0, none⟩ = some (.int .i64 bs) := (blk_cell hT9 0).trans rfl; have k1 : w9.cell? ⟨g10, 1, none⟩ = some (.int .i64 ls) := (blk_cell hT9 1).trans rfl; have k2 : w9.cell? ⟨g10, 2, none⟩ = some (.slice Av j cv) := (blk_cell hT9 2).trans rfl; have z0 : w9.cell? ⟨w.heap.size, 0, none⟩ = some (.int .i64 0) := (blk_cell hR9 0).trans rfl; have z1 : w9.cell? ⟨w.heap.size, 1, none⟩ = some (.int .i64 0) := (blk_cell hR9 1).trans rfl; have z2 : w9.cell? ⟨w.heap.size, 2, none⟩ = some (.slice none 0 0) := (blk_cell hR9 2).trans rfl; have zf0 := blk_frozen hR9 0; have zf1 := blk_frozen hR9 1; have zf2 := blk_frozen hR9 2; have H9 := Lib.hid (And.intro hb9 hR9); clear hb9 hR9 hT9))
            obtain ⟨wz, hwz⟩ : ∃ wz, wz = ((w9.setCell ⟨w.heap.size, 0, none⟩ (.int .i64 bs)).setCell ⟨w.heap.size, 1, none⟩ (.int .i64 ls)).setCell ⟨w.heap.size, 2, none⟩ (.slice Av j cv) := ⟨_, rfl⟩
            rw [← hwz]
            have hz : TabR wz w.heap.size bs ls (.slice Av j cv) := by rw [hwz]; exact TabR.put H9.out.2 bs ls _
            have hzb : Below w.heap.size w wz := by rw [hwz]; exact (((RJ.out.bel.trans (H9.out.1.mono RJ.out.bel.size)).setCell (Nat.le_refl _) _).setCell (Nat.le_refl _) _).setCell (Nat.le_refl _) _
            have hBz : But w.heap.size w9 wz := by rw [hwz]; exact (((But.refl _ _).setCell 0 _).setCell 1 _).setCell 2 _
            refine bodyPost_ret (results_ct rfl _ wz w.heap.size 95 #[.int .i64 bs, .int .i64 ls, .slice Av j cv] (0, 0) _ rfl hz Tryd.underlying95 rfl (by kernel_rfl)) rfl ?_
            rw [HE.out]
            show ∃ A' c', _ = Ending.returned (.tuple #[.agg #[.int .i64 bs, .int .i64 ls, .slice A' (vals (s3 i).1 (s3 i).2 j).length c'], .int .i64 0]) ∧ (Kd.int .i64).C wz A' (vals (s3 i).1 (s3 i).2 j).length (vals (s3 i).1 (s3 i).2 j) ∧ (vals (s3 i).1 (s3 i).2 j).length ≤ c' ∧ Below w.heap.size w wz
            rw [HVL.out]
            refine ⟨Av, cv, rfl, ?_, HCr.out.2, hzb⟩
            have hR9 := Kd.R_below HR.out.2 H9.out.1
            have hne := Kd.R_ne hR9 H9.out.2 (by decide)
            have := (Kd.R_reads' (Kd.R_step (Kd.R_tight rfl hR9) (fun k ho hk => hBz.block k hk (fun e => hne (by rw [← e]; exact ho))))).2.2
            rwa [HVL.out] at this
          · have htf : tabOk bs ls (vals (s3 i).1 (s3 i).2 j) = false := by simpa using htab
            have hend : decR b = ((0, 0, []), some 3) := by
              rw [HD.out.1]
              unfold decRes
              rw [if_neg]
              intro q
              rw [htl, ← HD.out.2.2.1, ← HD.out.2.2.2.1] at q
              exact htab q.2
            have HE := Lib.hid hend
            have hCk' : Hid (Calls Tryd.prog 53 #[.agg #[.int .i64 bs, .int .i64 ls, .slice Av j cv]] wr fun e w' => e = .returned (.bool false) ∧ Below wr.heap.size wr w') := Lib.hid (by have := hCk.out; rw [htf] at this; exact this)
            clear hend htl hCk htab htf hCr hvl hlo
            go_wp2_with (first
              | (go_at_call 53; (with_reducible refine hCk'.out.mono ?_); rintro e_ w9 ⟨rfl, hb9⟩; have hR9 := RJ.out.res.below hb9; have z0 : w9.cell? ⟨w.heap.size, 0, none⟩ = some (.int .i64 0) := (blk_cell hR9 0).trans rfl; have z1 : w9.cell? ⟨w.heap.size, 1, none⟩ = some (.int .i64 0) := (blk_cell hR9 1).trans rfl; have z2 : w9.cell? ⟨w.heap.size, 2, none⟩ = some (.slice none 0 0) := (blk_cell hR9 2).trans rfl; have zf0 := blk_frozen hR9 0; have zf1 := blk_frozen hR9 1; have zf2 := blk_frozen hR9 2; have H9 := Lib.hid (And.intro hb9 hR9); clear hb9 hR9))
            obtain ⟨wz, hwz, hz, hzb⟩ := (FIN.out w9 3 (RJ.out.bel.trans (H9.out.1.mono RJ.out.bel.size)) H9.out.2 HE.out).out
            rw [← hwz]
            refine bodyPost_ret (results_ct rfl _ wz w.heap.size 95 #[.int .i64 0, .int .i64 0, .slice none 0 0] (0, 0) _ rfl hz Tryd.underlying95 rfl (by kernel_rfl)) rfl ?_
            rw [HE.out]
            exact ⟨none, 0, rfl, Kd.C_nil _ _, Nat.le_refl _, hzb⟩
    · obtain ⟨qok, qok', qok2⟩ := n_ne m N hok
      obtain ⟨v1, v2, v3⟩ := n_facts N hN8
      have d17 : decide ((m : Int) < 17) = false := decide_eq_false q17
      have HE : Hid (decR b = ((0, 0, []), some 3)) := Lib.hid (by rw [hD]; unfold decRes; rw [if_neg (not_len hm hN hok)])
      clear hO hi ho h hm hby hlen hil hiby hD h17 hNt hNx hN hok
      go_enter Tryd.func64, Tryd.ntmps64
      go_wp2_with (first | (go_at_call 101; rw [← HW1.out]; (with_reducible refine HO.out.mono ?_); rintro e_ w2 ⟨A2, c2, rfl, h2, hb2⟩; obtain ⟨ad, ead, hx16⟩ := HC.out w2 A2 c2 h2; subst ead; have hx16' : w2.cell? ⟨ad.block, ad.off + 16, none⟩ = some (.int .u8 (N : Int)) := hx16; clear hx16; have hT2 : TabR w2 w.heap.size 0 0 (.slice none 0 0) := H1.out.2.below hb2; have k0 : w2.cell? ⟨w.heap.size, 0, none⟩ = some (.int .i64 0) := (blk_cell hT2 0).trans rfl; have k1 : w2.cell? ⟨w.heap.size, 1, none⟩ = some (.int .i64 0) := (blk_cell hT2 1).trans rfl; have k2 : w2.cell? ⟨w.heap.size, 2, none⟩ = some (.slice none 0 0) := (blk_cell hT2 2).trans rfl; have f0 := blk_frozen hT2 0; have f1 := blk_frozen hT2 1; have f2 := blk_frozen hT2 2; have H2 := Lib.hid (And.intro hT2 (H1.out.1.trans (hb2.mono H1.out.1.size))); clear hT2 hb2 h2))
      obtain ⟨wz, hwz, hz, hzb⟩ := (FIN.out w2 3 H2.out.2 H2.out.1 HE.out).out
      rw [← hwz]
      refine bodyPost_ret (results_ct rfl _ wz w.heap.size 95 #[.int .i64 0, .int .i64 0, .slice none 0 0] (0, 0) _ rfl hz Tryd.underlying95 rfl (by kernel_rfl)) rfl ?_
      rw [HE.out]
      exact ⟨none, 0, rfl, Kd.C_nil _ _, Nat.le_refl _, hzb⟩
end Go.Proofs.YtnlaiiophongmaaDoor.MCb
