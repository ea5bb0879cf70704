/-
  prf.Sum walked: what it tells, in plain words.
-/
import Derived.Test.YtiljnlhmeolhfaaPrf
import Derived.Deep.RegionHeld3
import Derived.Laws.IdiomCopy
import Derived.Deep.DeepCutAuto
import Derived.Deep.CutBlock
import Derived.LoopTactic
namespace Go.Proofs.Ytiljnlhmeolhfaa.MPf
open Go.RowKit Go.Proofs.YtiljnlhmeolhfaaW.PrintWords Go.Proofs.YtiljnlhmeolhfaaW.PrintLast Go.Proofs.YtiljnlhmeolhfaaW.PrintMore
set_option linter.unusedVariables false
set_option linter.unusedSimpArgs false

/-- a word turned to the left -/
def rot (a n : Int) : Int := Go.bits .or .u64 (shl .u64 a n) (shr .u64 a (64 - n))
theorem turn_eq (a n : Int) (h0 : Go.bits .and .u64 (IntKind.u64.wrap n) 63 = n) (h1 : 0 ≤ n) (h2 : IntKind.u64.wrap (64 - n) = 64 - n) (h3 : n ≤ 64) : prf_turn.f a n = some (rot a n) := by
  unfold prf_turn.f bits_RotateLeft64.f
  rw [h0, if_pos h1, h2, if_pos (by omega)]; rfl
theorem turn13 (a : Int) : prf_turn.f a 13 = some (rot a 13) := turn_eq a 13 (by decide +kernel) (by omega) (by decide +kernel) (by omega)
theorem turn16 (a : Int) : prf_turn.f a 16 = some (rot a 16) := turn_eq a 16 (by decide +kernel) (by omega) (by decide +kernel) (by omega)
theorem turn17 (a : Int) : prf_turn.f a 17 = some (rot a 17) := turn_eq a 17 (by decide +kernel) (by omega) (by decide +kernel) (by omega)
theorem turn21 (a : Int) : prf_turn.f a 21 = some (rot a 21) := turn_eq a 21 (by decide +kernel) (by omega) (by decide +kernel) (by omega)
theorem turn32 (a : Int) : prf_turn.f a 32 = some (rot a 32) := turn_eq a 32 (by decide +kernel) (by omega) (by decide +kernel) (by omega)
/-- four words -/
structure St4 where
  a : Int
  b : Int
  c : Int
  d : Int
def rnd (s : St4) : St4 :=
  let a1 := IntKind.u64.wrap (s.a + s.b)
  let b1 := Go.bits .xor .u64 (rot s.b 13) a1
  let a2 := rot a1 32
  let c1 := IntKind.u64.wrap (s.c + s.d)
  let d1 := Go.bits .xor .u64 (rot s.d 16) c1
  let a3 := IntKind.u64.wrap (a2 + d1)
  let d2 := Go.bits .xor .u64 (rot d1 21) a3
  let c2 := IntKind.u64.wrap (c1 + b1)
  let b2 := Go.bits .xor .u64 (rot b1 17) c2
  ⟨a3, b2, rot c2 32, d2⟩
theorem rounds_step (k : Nat) (s : St4) (n i : Int) (h : i < n) : prf_state_rounds.l0 (k + 1) n i s.a s.b s.c s.d = prf_state_rounds.l0 k n (wrap64 (i + 1)) (rnd s).a (rnd s).b (rnd s).c (rnd s).d := by
  simp only [prf_state_rounds.l0]
  rw [if_pos h]
  simp only [turn13, turn16, turn17, turn21, turn32, Option.bind_some]
  rfl
theorem rounds_end (k : Nat) (s : St4) (n i : Int) (h : ¬ i < n) : prf_state_rounds.l0 (k + 1) n i s.a s.b s.c s.d = some (s.a, s.b, s.c, s.d) := by
  simp only [prf_state_rounds.l0]
  rw [if_neg h]
theorem rounds2 (s : St4) : prf_state_rounds.f 5 s.a s.b s.c s.d 2 = some ((rnd (rnd s)).a, (rnd (rnd s)).b, (rnd (rnd s)).c, (rnd (rnd s)).d) := by
  unfold prf_state_rounds.f
  rw [rounds_step 4 s 2 0 (by omega), show wrap64 (0 + 1) = 1 by unfold wrap64; omega, rounds_step 3 _ 2 1 (by omega), show wrap64 (1 + 1) = 2 by unfold wrap64; omega, rounds_end 2 _ 2 2 (by omega)]
theorem rounds4 (s : St4) : prf_state_rounds.f 5 s.a s.b s.c s.d 4 = some ((rnd (rnd (rnd (rnd s)))).a, (rnd (rnd (rnd (rnd s)))).b, (rnd (rnd (rnd (rnd s)))).c, (rnd (rnd (rnd (rnd s)))).d) := by
  unfold prf_state_rounds.f
  rw [rounds_step 4 s 4 0 (by omega), show wrap64 (0 + 1) = 1 by unfold wrap64; omega, rounds_step 3 _ 4 1 (by omega), show wrap64 (1 + 1) = 2 by unfold wrap64; omega, rounds_step 2 _ 4 2 (by omega), show wrap64 (2 + 1) = 3 by unfold wrap64; omega, rounds_step 1 _ 4 3 (by omega), show wrap64 (3 + 1) = 4 by unfold wrap64; omega, rounds_end 0 _ 4 4 (by omega)]
/-- a word taken in -/
def takeS (s : St4) (v : Int) : St4 := let t := rnd (rnd ⟨s.a, s.b, s.c, Go.bits .xor .u64 s.d v⟩); ⟨Go.bits .xor .u64 t.a v, t.b, t.c, t.d⟩
theorem take_eq (s : St4) (v : Int) : prf_state_take.f 5 s.a s.b s.c s.d v = some ((takeS s v).a, (takeS s v).b, (takeS s v).c, (takeS s v).d) := by
  unfold prf_state_take.f
  have h := rounds2 ⟨s.a, s.b, s.c, Go.bits .xor .u64 s.d v⟩
  simp only at h
  rw [h]; rfl
/-- whole words taken in, as long as there are any -/
def absorb : Nat → St4 → List Int → St4 × List Int
  | 0, s, l => (s, l)
  | n + 1, s, l => if l.length < 8 then (s, l) else absorb n (takeS s (wordV (l.take 8))) (l.drop 8)
theorem absorb_step (n : Nat) (s : St4) (l : List Int) (h : 8 ≤ l.length) : absorb (n + 1) s l = absorb n (takeS s (wordV (l.take 8))) (l.drop 8) := by
  simp only [absorb]; rw [if_neg (by omega)]
theorem absorb_end (n : Nat) (s : St4) (l : List Int) (h : l.length < 8) : absorb n s l = (s, l) := by
  cases n with
  | zero => rfl
  | succ n => simp only [absorb]; rw [if_pos h]
/-- the last word's bytes -/
def lastB (l : List Int) (n : Int) : List Int := l ++ List.replicate (7 - l.length) 0 ++ [n % 256]
theorem lastB_length (l : List Int) (n : Int) (h : l.length < 8) : (lastB l n).length = 8 := by simp [lastB]; omega
theorem lastB_cells (l : List Int) (n : Int) (h : l.length < 8) : (l.map (Value.int .u8) ++ [Value.int .u8 0, .int .u8 0, .int .u8 0, .int .u8 0, .int .u8 0, .int .u8 0, .int .u8 0, .int .u8 0].drop l.length).set 7 (.int .u8 (n % 256)) = (lastB l n).map (Value.int .u8) := by
  rw [show [Value.int .u8 0, .int .u8 0, .int .u8 0, .int .u8 0, .int .u8 0, .int .u8 0, .int .u8 0, .int .u8 0] = List.replicate 8 (Value.int .u8 0) from rfl, List.drop_replicate, show 8 - l.length = (7 - l.length) + 1 by omega, List.replicate_succ', ← List.append_assoc, List.set_append_right _ _ (by simp; omega)]
  unfold lastB
  have e : 7 - (l.map (Value.int IntKind.u8) ++ List.replicate (7 - l.length) (Value.int IntKind.u8 0)).length = 0 := by simp; omega
  rw [e]
  simp
def start4 (x y : Int) : St4 := ⟨Go.bits .xor .u64 x 8317987319222330741, Go.bits .xor .u64 y 7237128888997146477, Go.bits .xor .u64 x 7816392313619706465, Go.bits .xor .u64 y 8387220255154660723⟩
def endS (s : St4) : Int :=
  let t := rnd (rnd (rnd (rnd ⟨s.a, s.b, Go.bits .xor .u64 s.c 255, s.d⟩)))
  Go.bits .xor .u64 (Go.bits .xor .u64 (Go.bits .xor .u64 t.a t.b) t.c) t.d
/-- the sum of bytes with a key -/
def sumV (kl kh b : List Int) : Int :=
  let r := absorb b.length (start4 (wordV kl) (wordV kh)) b
  endS (takeS r.1 (wordV (lastB r.2 b.length)))
theorem aslice_C {W : World} {g lo n : Nat} {t : TypeId} {cs : Array Value} {k : IntKind} {l : List Int} (hg : W.heap[g]? = some (.cells cs t (0, 0))) (hn : l.length = n) (hN : n ≤ 1000) (hc : (cs.toList.drop lo).take n = l.map (Value.int k)) : (Kd.int k).C W (some ⟨g, lo, none⟩) n l := by
  subst hn
  refine ⟨rfl, by omega, fun _ => ⟨⟨g, lo, none⟩, rfl, fun j p hj => ⟨[.int k p], rfl, rfl, fun i u hu => ?_⟩⟩⟩
  have hi : i = 0 := by
    have := (List.getElem?_eq_some_iff.1 hu).1
    simp at this; exact this
  subst hi
  simp at hu
  subst hu
  have hjl : j < l.length := (List.getElem?_eq_some_iff.1 hj).1
  have e1 : ((cs.toList.drop lo).take l.length)[j]? = (l.map (Value.int k))[j]? := by rw [hc]
  rw [List.getElem?_take_of_lt hjl, List.getElem?_drop, List.getElem?_map, hj, Array.getElem?_toList] at e1
  show W.cell? ((⟨g, lo, none⟩ : Addr).add (j * 1 + 0)) = _
  rw [show (⟨g, lo, none⟩ : Addr).add (j * 1 + 0) = ⟨g, lo + j, none⟩ by unfold Addr.add; split <;> simp_all]
  rw [blk_cell hg, e1]; rfl
theorem copy_event {P : Program} {ops : Array Oper} {rest : List Oper} {o : Oper} {a : Act} {W : World} {Q : Exit → Act → World → Prop} (hgd : o.guard = none) (s x : Operand) (t t' e : TypeId)
    (ho : o.op = .call { callee := .builtin .copy, args := #[s, x], argTypes := #[t, t'] }) (ht : P.underlying t = some (.slice e)) (hinfo : (P.info? e).map (·.size) = some 1)
    (k : IntKind) (g N : Nat) (cur : Array Value) (T : TypeId) (A : Option Addr) (c : Nat) (l : List Int) (hs : a.eval s = .slice (some ⟨g, 0, none⟩) N N) (hx : a.eval x = .slice A l.length c)
    (hg : W.heap[g]? = some (.cells cur T (0, 0))) (hcur : cur.size = N) (hC : (Kd.int k).C W A l.length l) (hm : l.length ≤ N) {B : Nat} {w0 : World} (HB : Below B w0 W) (hle : B ≤ g)
    (h : ∀ w1, w1.heap[g]? = some (.cells (l.map (Value.int k) ++ cur.toList.drop l.length).toArray T (0, 0)) → (∀ j, j ≠ g → w1.heap[j]? = W.heap[j]?) → Below B w0 w1 → wpList P ops Q rest (a.put o.dst (.int .i64 (l.length : Int))) w1) :
    wpList P ops Q (o :: rest) a W := by
  have fin : ∀ w1, (Builtin.copy_ #[t, t'] o.type #[.slice (some ⟨g, 0, none⟩) N N, .slice A l.length c]).run P W = .ok (goInt (l.length : Int)) w1 → w1.heap[g]? = some (.cells (l.map (Value.int k) ++ cur.toList.drop l.length).toArray T (0, 0)) → (∀ j, j ≠ g → w1.heap[j]? = W.heap[j]?) → Below B w0 w1 → wpList P ops Q (o :: rest) a W := by
    intro w1 hr h1 h2 h3
    refine wpList_plain hgd fun K hK => ?_
    unfold Oper.wp execOp
    simp only [ho, resolve, invoke, builtin, Sem.run_bind, Sem.run_pure, Result.andThen_ok, List.map_toArray, List.map_cons, List.map_nil, hs, hx, hr]
    exact hK _ _ (h w1 h1 h2 h3)
  have hmin : min l.length N = l.length := by omega
  rcases Nat.eq_zero_or_pos l.length with h0 | hp
  · have hl : l = [] := List.length_eq_zero_iff.1 h0
    subst hl
    refine fin W ?_ (by simpa using hg) (fun _ _ => rfl) HB
    exact run_copy_none W t t' o.type e (some ⟨g, 0, none⟩) A N N 0 c ht hinfo (by simp)
  · have hR := Kd.reads_of_C (enc := Value.int k) (d := (0 : Int)) (h1 := fun _ => rfl) hC
    obtain ⟨ad, hA, hc⟩ := hR.2.2 hp
    subst hA
    have hsrc : ∀ j u, (l.map (Value.int k))[j]? = some u → W.cell? (ad.add j) = some u := by
      intro j u hu
      have hj : j < l.length := by have := (List.getElem?_eq_some_iff.1 hu).1; simpa using this
      rw [hc j hj, ← hu]
      simp [List.getD_eq_getElem?_getD, hj]
    have hr := run_copy_cells (P := P) W t t' o.type e g 0 N N ad l.length c (l.map (Value.int k)) ht hinfo (by rw [List.length_map]; exact (Nat.min_eq_left hm).symm) hsrc
      (fun j hj => by rw [blk_cell hg]; simp at hj ⊢; omega) (fun j _ => blk_frozen hg _) (by intro u hu; simp only [List.mem_map] at hu; obtain ⟨q, _, rfl⟩ := hu; rfl)
    obtain ⟨cur', h3, h4, h5⟩ := setCells_row (l.map (Value.int k)) 0 W cur hg (by rw [List.length_map]; omega)
    obtain ⟨s1, s2, s3, s4⟩ := setCells_same g (l.map (Value.int k)) 0 W
    have hfar : ∀ j, j ≠ g → (W.setCells g 0 (l.map (Value.int k))).heap[j]? = W.heap[j]? := fun j hj => setCells_far _ _ j hj
    rw [List.length_map] at hr
    have e5 : cur' = (l.map (Value.int k) ++ cur.toList.drop l.length).toArray := Array.toList_inj.1 (by rw [h5]; simp)
    exact fin _ hr (by rw [← e5]; exact h3) hfar ⟨s1.trans HB.os, s2.trans HB.tape, s3.trans HB.output, Nat.le_trans HB.size (Nat.le_of_eq s4.symm), fun j hj => (hfar j (by omega)).trans (HB.block j hj)⟩
set_option maxRecDepth 100000 in
set_option maxHeartbeats 8000000 in
theorem sum_calls (a0 a1 a2 a3 a4 a5 a6 a7 a8 a9 a10 a11 a12 a13 a14 a15 : Int) (A : Option Addr) (c : Nat) (l : List Int) (w : World) (hC : (Kd.int .u8).C w A l.length l) (hc : l.length ≤ c) (hL : l.length ≤ 140737488351232) :
    Calls Try.prog 8 #[.agg #[.int .u8 a0, .int .u8 a1, .int .u8 a2, .int .u8 a3, .int .u8 a4, .int .u8 a5, .int .u8 a6, .int .u8 a7, .int .u8 a8, .int .u8 a9, .int .u8 a10, .int .u8 a11, .int .u8 a12, .int .u8 a13, .int .u8 a14, .int .u8 a15], .slice A l.length c] w fun e w' => e = .returned (.int .u64 (sumV [a0, a1, a2, a3, a4, a5, a6, a7] [a8, a9, a10, a11, a12, a13, a14, a15] l)) ∧ Below w.heap.size w w' := by
  obtain ⟨x, hx⟩ : ∃ x, x = wordV [a0, a1, a2, a3, a4, a5, a6, a7] := ⟨_, rfl⟩
  obtain ⟨y, hy⟩ : ∃ y, y = wordV [a8, a9, a10, a11, a12, a13, a14, a15] := ⟨_, rfl⟩
  obtain ⟨w1, hw1⟩ : ∃ w1, w1 = w.alloc (.cells #[.int .u8 a0, .int .u8 a1, .int .u8 a2, .int .u8 a3, .int .u8 a4, .int .u8 a5, .int .u8 a6, .int .u8 a7, .int .u8 a8, .int .u8 a9, .int .u8 a10, .int .u8 a11, .int .u8 a12, .int .u8 a13, .int .u8 a14, .int .u8 a15] 27) := ⟨_, rfl⟩
  obtain ⟨gk, hgk⟩ : ∃ gk, gk = w.heap.size := ⟨_, rfl⟩
  have hk1 : w1.heap[gk]? = some (.cells #[.int .u8 a0, .int .u8 a1, .int .u8 a2, .int .u8 a3, .int .u8 a4, .int .u8 a5, .int .u8 a6, .int .u8 a7, .int .u8 a8, .int .u8 a9, .int .u8 a10, .int .u8 a11, .int .u8 a12, .int .u8 a13, .int .u8 a14, .int .u8 a15] 27 (0, 0)) := by rw [hw1, hgk]; exact heap_alloc_new w _
  have hb1 : Below w.heap.size w w1 := by rw [hw1]; exact (Below.refl _ w).alloc (Nat.le_refl _) _
  have hWl : ∀ W, W.heap[gk]? = some (.cells #[.int .u8 a0, .int .u8 a1, .int .u8 a2, .int .u8 a3, .int .u8 a4, .int .u8 a5, .int .u8 a6, .int .u8 a7, .int .u8 a8, .int .u8 a9, .int .u8 a10, .int .u8 a11, .int .u8 a12, .int .u8 a13, .int .u8 a14, .int .u8 a15] 27 (0, 0)) → Calls Try.prog 29 #[.slice (some ⟨gk, 0, none⟩) 8 16] W fun e w' => e = .returned (.int .u64 x) ∧ Below W.heap.size W w' := fun W h => by rw [hx]; exact word_calls (some ⟨gk, 0, none⟩) 16 [a0, a1, a2, a3, a4, a5, a6, a7] W (aslice_C h rfl (by simp) rfl) (by simp) (by simp)
  have hWh : ∀ W, W.heap[gk]? = some (.cells #[.int .u8 a0, .int .u8 a1, .int .u8 a2, .int .u8 a3, .int .u8 a4, .int .u8 a5, .int .u8 a6, .int .u8 a7, .int .u8 a8, .int .u8 a9, .int .u8 a10, .int .u8 a11, .int .u8 a12, .int .u8 a13, .int .u8 a14, .int .u8 a15] 27 (0, 0)) → Calls Try.prog 29 #[.slice (some ⟨gk, 8, none⟩) 8 8] W fun e w' => e = .returned (.int .u64 y) ∧ Below W.heap.size W w' := fun W h => by rw [hy]; exact word_calls (some ⟨gk, 8, none⟩) 8 [a8, a9, a10, a11, a12, a13, a14, a15] W (aslice_C h rfl (by simp) rfl) (by simp) (by simp)
  have hgkw : gk < w1.heap.size := (Array.getElem?_eq_some_iff.1 hk1).1
  unfold sumV
  rw [← hx, ← hy]
  clear hx hy
  obtain ⟨s0, hs0⟩ : ∃ s0, s0 = start4 x y := ⟨_, rfl⟩
  rw [← hs0]
  have gA : Hid (Go.bits .xor .u64 x 8317987319222330741 = s0.a) := Lib.hid (by rw [hs0]; rfl)
  have gB : Hid (Go.bits .xor .u64 y 7237128888997146477 = s0.b) := Lib.hid (by rw [hs0]; rfl)
  have gC : Hid (Go.bits .xor .u64 x 7816392313619706465 = s0.c) := Lib.hid (by rw [hs0]; rfl)
  have gD : Hid (Go.bits .xor .u64 y 8387220255154660723 = s0.d) := Lib.hid (by rw [hs0]; rfl)
  clear hs0
  have HW := Lib.hid hw1
  have HG := Lib.hid hgk
  go_enter Try.func8, Try.ntmps8
  clear hw1 hgk
  go_wp2
  rw [← HW.out, ← HG.out]
  have HB : Aside0 (Below w.heap.size w w1.drew) := ⟨hb1.drew⟩
  have HK : Aside0 (w1.drew.heap[gk]? = some (.cells #[.int .u8 a0, .int .u8 a1, .int .u8 a2, .int .u8 a3, .int .u8 a4, .int .u8 a5, .int .u8 a6, .int .u8 a7, .int .u8 a8, .int .u8 a9, .int .u8 a10, .int .u8 a11, .int .u8 a12, .int .u8 a13, .int .u8 a14, .int .u8 a15] 27 (0, 0))) := ⟨hk1⟩
  clear hk1 hb1 hgkw
  go_upto_region 1 with (fail)
  go_cut [5, 6] (fun v5 v6 wc => v5 = .int .u64 x ∧ v6 = .int .u64 y ∧ Aside0 (Below w.heap.size w wc))
  case first =>
    go_region_with (first | (go_at_call 29; refine (hWl _ HK.out).mono ?_; rintro e w2 ⟨rfl, hb2⟩; have nB := Aside0.mk (HB.out.trans (hb2.mono HB.out.size)); have nK := Aside0.mk ((hb2.block gk ((Array.getElem?_eq_some_iff.1 HK.out).1)).trans HK.out); clear HB HK hb2; have HB := nB; have HK := nK; clear nB nK) | (go_at_call 29; refine (hWh _ HK.out).mono ?_; rintro e w2 ⟨rfl, hb2⟩; have nB := Aside0.mk (HB.out.trans (hb2.mono HB.out.size)); have nK := Aside0.mk ((hb2.block gk ((Array.getElem?_eq_some_iff.1 HK.out).1)).trans HK.out); clear HB HK hb2; have HB := nB; have HK := nK; clear nB nK))
    all_goals
      go_simp
      rename_i hK_ wx_
      refine hK_ _ _ ?_
      go_meet
      case rel => exact ⟨rfl, rfl, HB⟩
  case rest =>
    clear HB HK hWl hWh HW
    obtain ⟨rfl, rfl, HB⟩ := hcut
    have ha := gA.out; have hb := gB.out; have hc' := gC.out; have hd := gD.out
    clear gA gB gC gD
    go_wp2
    obtain ⟨wb, hwb⟩ : ∃ wb, wb = wc.alloc (.cells #[.int .u64 s0.a, .int .u64 s0.b, .int .u64 s0.c, .int .u64 s0.d] 58) := ⟨_, rfl⟩
    have hst : wb.heap[wc.heap.size]? = some (.cells #[.int .u64 s0.a, .int .u64 s0.b, .int .u64 s0.c, .int .u64 s0.d] 58 (0, 0)) := by rw [hwb]; exact heap_alloc_new wc _
    have hbb : Below w.heap.size w wb := by rw [hwb]; exact HB.out.alloc HB.out.size _
    have hC0 := Aside0.mk hC
    have hgs : w.heap.size ≤ wc.heap.size := HB.out.size
    rw [← hwb]
    clear hwb HB ha hb hc' hd hC
    generalize wc.heap.size = gs at hst hgs ⊢
    go_loopw [1] (fun v wr => ∃ (n : Nat) (s : St4) (l2 : List Int) (A2 : Option Addr) (c2 : Nat), v = .slice A2 l2.length c2 ∧ l2.length ≤ c2 ∧ Aside0 (l2.length ≤ n ∧ l2.length ≤ 140737488351232) ∧ Aside0 (absorb n s l2 = absorb l.length s0 l) ∧ Aside0 (wr.heap[gs]? = some (.cells #[.int .u64 s.a, .int .u64 s.b, .int .u64 s.c, .int .u64 s.d] 58 (0, 0))) ∧ Aside0 ((Kd.int .u8).C w A2 l2.length l2) ∧ Aside0 (Below w.heap.size w wr))
      (fun v _ => match v with | .slice _ n _ => n | _ => 0)
    case atStart => exact ⟨l.length, s0, l, A, c, rfl, hc, ⟨⟨Nat.le_refl _, hL⟩⟩, ⟨rfl⟩, ⟨hst⟩, hC0, ⟨hbb⟩⟩
    case round =>
      clear hst hbb hC0
      obtain ⟨n, s, l2, A2, c2, rfl, hlc, hln, hab, hst, hC2, hB2⟩ := hrel
      have hgs' := hgs
      by_cases h8 : 8 ≤ l2.length
      · obtain ⟨n, rfl⟩ : ∃ m, n = m + 1 := ⟨n - 1, by have := hln.out.1; omega⟩
        obtain ⟨i0, hi0, _, hsz, _⟩ := info_parts info5
        have cut1 := cut_to (P := Try.prog) 23 5 .i64 Try.underlying23 hi0 A2 l2.length c2 8 (by omega) (by omega) hlc
        have cut2 := cut_from (P := Try.prog) 23 5 .i64 Try.underlying23 hi0 1 hsz A2 l2.length c2 8 (by omega) (by omega)
        simp only [show (8 : Int).toNat = 8 from rfl] at cut1 cut2
        have hCt := Kd.C_take (m := 8) hC2.out h8
        have hCd := Kd.C_drop (m := 8) (c := c2) hC2.out h8 hlc
        obtain ⟨A3, hA3⟩ : ∃ A3, A3 = (if c2 = 8 then A2 else A2.map (·.add (8 * 1))) := ⟨_, rfl⟩
        rw [← hA3] at cut2
        have e8 : (l2.take 8).length = 8 := by rw [List.length_take]; omega
        have hw8 : ∀ W, Below w.heap.size w W → Calls Try.prog 29 #[.slice A2 8 c2] W fun e w' => e = .returned (.int .u64 (wordV (l2.take 8))) ∧ Below W.heap.size W w' := fun W h => by
          have := word_calls A2 c2 (l2.take 8) W (Kd.C_below hCt h) (by omega) (by have := hln.out.2; omega)
          rw [e8] at this; exact this
        have ht := take_eq s (wordV (l2.take 8))
        have hCd' : Aside0 ((Kd.int .u8).C w A3 (l2.drop 8).length (l2.drop 8)) := ⟨by rw [hA3]; exact hCd⟩
        clear hA3 hCd hCt hi0 hsz
        have HT := Lib.hid ht
        have HC8 := Lib.hid e8
        clear ht e8
        have hgl : Aside0 (gs < wr.heap.size) := ⟨(Array.getElem?_eq_some_iff.1 hst.out).1⟩
        go_wp2_with (first | (go_at_call 29; refine (hw8 _ hB2.out).mono ?_; rintro e w2 ⟨rfl, hb2⟩; have nB := Aside0.mk (hB2.out.trans (hb2.mono hB2.out.size)); have nS := Aside0.mk ((hb2.block gs hgl.out).trans hst.out); clear hB2 hst hb2 hgl; have hB2 := nB; have hst := nS; clear nB nS) | (go_at_call 30; refine (prf_state_take.calls 5 gs s.a s.b s.c s.d _ _ _ _ _ w _ ⟨hst.out, hgs⟩ hB2.out HT.out).mono ?_; rintro e w3 ⟨rfl, hI3, hb3, hk3⟩; clear hB2 hst hk3; have hB2 := Aside0.mk hb3; have hst := Aside0.mk hI3.1; clear hb3 hI3))
        go_roundw
        case rel =>
          refine ⟨n, takeS s (wordV (l2.take 8)), l2.drop 8, A3, c2 - 8, by rw [List.length_drop], by rw [List.length_drop]; omega, ⟨?_⟩, ⟨?_⟩, hst, hCd', hB2⟩
          · rw [List.length_drop]; have := hln.out; omega
          · rw [← absorb_step n s l2 h8]; exact hab.out
        case measure => simp; omega
      · have hl8 : l2.length < 8 := by omega
        have hR := absorb_end n s l2 hl8
        rw [hab.out] at hR
        have HR := Lib.hid hR
        clear hR hab h8
        have hgl : gs < wr.heap.size := (Array.getElem?_eq_some_iff.1 hst.out).1
        have hBa := hB2.out.alloc hB2.out.size (.cells #[.int .u8 0, .int .u8 0, .int .u8 0, .int .u8 0, .int .u8 0, .int .u8 0, .int .u8 0, .int .u8 0] 60)
        have hsa := (heap_alloc_old wr (.cells #[.int .u8 0, .int .u8 0, .int .u8 0, .int .u8 0, .int .u8 0, .int .u8 0, .int .u8 0, .int .u8 0] 60) gs hgl).trans hst.out
        have hCa := Kd.C_below hC2.out hBa
        have hz := hB2.out.size
        have HX := Lib.hid (And.intro hBa (And.intro hsa (And.intro hCa (And.intro hz hgl))))
        clear hBa hsa hCa hz hgl
        go_wp2_with (refine copy_event rfl (.tmp 36) (.tmp 37) 23 23 5 rfl Try.underlying23 (by kernel_rfl) .u8 wr.heap.size 8 #[.int .u8 0, .int .u8 0, .int .u8 0, .int .u8 0, .int .u8 0, .int .u8 0, .int .u8 0, .int .u8 0] 60 A2 c2 l2 rfl rfl (heap_alloc_new wr _) rfl HX.out.2.2.1 (by omega) HX.out.1 HX.out.2.2.2.1 ?_; intro w5 hl5 hfar5 hB5; have HL5 := Lib.hid hl5; have HF5 := Lib.hid hfar5; have HB5 := Lib.hid hB5; obtain ⟨v7, hv7⟩ : ∃ v7, w5.cell? ⟨wr.heap.size, 7, none⟩ = some v7 := ⟨_, (blk_cell hl5 7).trans (Array.getElem?_eq_getElem (by simp; omega))⟩; have hf7 := blk_frozen hl5 7; clear hl5 hfar5 hB5)
        obtain ⟨w6, hw6⟩ : ∃ w6, w6 = w5.setCell ⟨wr.heap.size, 7, none⟩ (.int .u8 ((l.length : Int) % 256)) := ⟨_, rfl⟩
        rw [← hw6]
        have hgl := HX.out.2.2.2.2
        have hl6 : w6.heap[wr.heap.size]? = some (.cells ((lastB l2 l.length).map (Value.int .u8)).toArray 60 (0, 0)) := by
          rw [hw6]
          refine blk_put HL5.out 7 _ ?_
          apply Array.toList_inj.1
          simpa using lastB_cells l2 l.length hl8
        have hs6 : w6.heap[gs]? = some (.cells #[.int .u64 s.a, .int .u64 s.b, .int .u64 s.c, .int .u64 s.d] 58 (0, 0)) := by
          rw [hw6]
          exact (Below.heap_setCell w5 ⟨wr.heap.size, 7, none⟩ _ gs (Nat.ne_of_lt hgl)).trans ((HF5.out gs (Nat.ne_of_lt hgl)).trans HX.out.2.1)
        have hB6 : Below w.heap.size w w6 := by rw [hw6]; exact HB5.out.setCell HX.out.2.2.2.1 _
        have hlen := lastB_length l2 l.length hl8
        have hw := word_calls (some ⟨wr.heap.size, 0, none⟩) 8 (lastB l2 l.length) w6 (aslice_C hl6 rfl (by omega) (by rw [List.drop_zero]; exact List.take_of_length_le (by simp))) (by omega) (by omega)
        rw [hlen] at hw
        clear hw6 hv7 hf7 HL5 HF5 HB5 HX hl6 hC2
        refine hw.mono ?_
        rintro e w7 ⟨rfl, hb7⟩
        have hs7 := (hb7.block gs ((Array.getElem?_eq_some_iff.1 hs6).1)).trans hs6
        have hB7 := hB6.trans (hb7.mono hB6.size)
        clear hw hs6 hB6 hb7 hlen hst hB2
        have HV := Lib.hid (And.intro hs7 hB7)
        clear hs7 hB7
        go_wp2_with fail
        refine (prf_state_take.calls 5 gs s.a s.b s.c s.d _ _ _ _ _ w _ ⟨HV.out.1, hgs⟩ HV.out.2 (take_eq s (wordV (lastB l2 l.length)))).mono ?_
        rintro e w8 ⟨rfl, hI8, hB8, _⟩
        clear HV
        obtain ⟨t, ht⟩ : ∃ t, t = takeS s (wordV (lastB l2 l.length)) := ⟨_, rfl⟩
        rw [← ht] at hI8
        have HT := Lib.hid ht
        clear ht
        have hs8 := hI8.1
        have c2_ : w8.cell? ⟨gs, 2, none⟩ = some (.int .u64 t.c) := (blk_cell hs8 2).trans rfl
        have f2_ := blk_frozen hs8 2
        have HV := Lib.hid (And.intro hs8 hB8)
        clear hs8 hB8 hI8
        go_wp2_with fail
        clear c2_ f2_
        have hr := rounds4 ⟨t.a, t.b, Go.bits .xor .u64 t.c 255, t.d⟩
        simp only at hr
        refine (prf_state_rounds.calls 5 gs t.a t.b (Go.bits .xor .u64 t.c 255) t.d 4 _ _ _ _ w _ ⟨blk_put (cs := #[.int .u64 t.a, .int .u64 t.b, .int .u64 t.c, .int .u64 t.d]) HV.out.1 2 _ rfl, hgs⟩ (HV.out.2.setCell hgs _) hr).mono ?_
        rintro e w9 ⟨rfl, hI9, hB9, _⟩
        clear HV hr
        obtain ⟨u, hu⟩ : ∃ u, u = rnd (rnd (rnd (rnd ⟨t.a, t.b, Go.bits .xor .u64 t.c 255, t.d⟩))) := ⟨_, rfl⟩
        rw [← hu] at hI9
        have HU := Lib.hid hu
        clear hu
        have hs9 := hI9.1
        have d0 : w9.cell? ⟨gs, 0, none⟩ = some (.int .u64 u.a) := (blk_cell hs9 0).trans rfl
        have d1 : w9.cell? ⟨gs, 1, none⟩ = some (.int .u64 u.b) := (blk_cell hs9 1).trans rfl
        have d2 : w9.cell? ⟨gs, 2, none⟩ = some (.int .u64 u.c) := (blk_cell hs9 2).trans rfl
        have d3 : w9.cell? ⟨gs, 3, none⟩ = some (.int .u64 u.d) := (blk_cell hs9 3).trans rfl
        have HB9 := Lib.hid hB9
        clear hI9 hs9 hB9
        go_wp2
        go_quiet (fail)
        go_wp2
        go_ret
        refine ⟨?_, ?_⟩
        · rw [HR.out]
          show _ = Ending.returned (.int .u64 (endS (takeS s (wordV (lastB l2 l.length)))))
          rw [← HT.out]
          unfold endS
          rw [← HU.out]
          rfl
        · exact ⟨HB9.out.os, HB9.out.tape, HB9.out.output, HB9.out.size, HB9.out.block⟩
def prf_Sum.f (a0_0 : Int) (a0_1 : Int) (a0_2 : Int) (a0_3 : Int) (a0_4 : Int) (a0_5 : Int) (a0_6 : Int) (a0_7 : Int) (a0_8 : Int) (a0_9 : Int) (a0_10 : Int) (a0_11 : Int) (a0_12 : Int) (a0_13 : Int) (a0_14 : Int) (a0_15 : Int) (l1 : List Int) : Option Int := if l1.length ≤ 140737488351232 then some (sumV [a0_0, a0_1, a0_2, a0_3, a0_4, a0_5, a0_6, a0_7] [a0_8, a0_9, a0_10, a0_11, a0_12, a0_13, a0_14, a0_15] l1) else none
theorem prf_Sum.calls (a0_0 : Int) (a0_1 : Int) (a0_2 : Int) (a0_3 : Int) (a0_4 : Int) (a0_5 : Int) (a0_6 : Int) (a0_7 : Int) (a0_8 : Int) (a0_9 : Int) (a0_10 : Int) (a0_11 : Int) (a0_12 : Int) (a0_13 : Int) (a0_14 : Int) (a0_15 : Int) (A1 : Option Addr) (c1 : Nat) (l1 : List Int) (r : Int) (w : World) (hr1 : Kd.C (Kd.int .u8) w A1 l1.length l1) (hc1 : l1.length ≤ c1) (h : prf_Sum.f a0_0 a0_1 a0_2 a0_3 a0_4 a0_5 a0_6 a0_7 a0_8 a0_9 a0_10 a0_11 a0_12 a0_13 a0_14 a0_15 l1 = some r) :
    Calls Try.prog 8 #[.agg #[.int .u8 a0_0, .int .u8 a0_1, .int .u8 a0_2, .int .u8 a0_3, .int .u8 a0_4, .int .u8 a0_5, .int .u8 a0_6, .int .u8 a0_7, .int .u8 a0_8, .int .u8 a0_9, .int .u8 a0_10, .int .u8 a0_11, .int .u8 a0_12, .int .u8 a0_13, .int .u8 a0_14, .int .u8 a0_15], .slice A1 l1.length c1] w fun e w' => e = .returned (.int .u64 r) ∧ Below w.heap.size w w' := by
  unfold prf_Sum.f at h
  split at h
  · next hL =>
    obtain rfl := Option.some.inj h
    exact sum_calls a0_0 a0_1 a0_2 a0_3 a0_4 a0_5 a0_6 a0_7 a0_8 a0_9 a0_10 a0_11 a0_12 a0_13 a0_14 a0_15 A1 c1 l1 w hr1 hc1 hL
  · cases h
end Go.Proofs.Ytiljnlhmeolhfaa.MPf
