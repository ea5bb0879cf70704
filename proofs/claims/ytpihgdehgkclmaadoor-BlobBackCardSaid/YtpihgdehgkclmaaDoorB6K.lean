/-
  The law BlobBack, walked.
-/
import Derived.Test.YtpihgdehgkclmaaDoorB6B
namespace Go.Proofs.YtpihgdehgkclmaaDoor.MCb
open Go.RowKit Go.Proofs.YtpihgdehgkclmaaDoorW.PrintWords Go.Proofs.YtpihgdehgkclmaaDoorW.PrintLast Go.Proofs.YtpihgdehgkclmaaDoorW.PrintMore
set_option linter.unusedVariables false
set_option linter.unusedSimpArgs false

theorem Sl.but {w w' : World} {A : Option Addr} {n c g : Nat} {l : List Int} (h : Sl w A n c l) (hb : But g w w') (hg : ∀ a, A = some a → 0 < n → a.block ≠ g) : Sl w' A n c l := by
  refine ⟨?_, h.len, h.cap⟩
  have hR := Kd.reads_of_C (enc := Value.int .u8) (d := (0 : Int)) (h1 := fun _ => rfl) h.rd
  refine Kd.C_of_reads (enc := Value.int .u8) (d := (0 : Int)) (h1 := fun _ => rfl) ⟨hR.1, hR.2.1, fun hp => ?_⟩
  obtain ⟨a, e, hc⟩ := hR.2.2 hp
  refine ⟨a, e, fun j hj => ?_⟩
  have h0 := hc j hj
  have hlt := block_lt_of_cell h0
  rw [← h0]
  unfold World.cell?
  rw [hb.block _ hlt (by rw [add_block]; exact hg a e (by have := h.len; omega))]
theorem own_sl {W : World} {base g m cap : Nat} {Y : List Int} (h : W.ownsRow base 5 1 (.slice (some ⟨g, 0, none⟩) m cap) m (nums .u8 Y)) (hm : m = Y.length) : Sl W (some ⟨g, 0, none⟩) m cap Y := by
  subst hm
  obtain ⟨A, c, e, hS⟩ := Sl.of_R (Kd.R_of_own (enc := Value.int .u8) (h1 := fun _ => rfl) (ok := fun _ => True) h (fun _ _ => trivial)) rfl
  injection e with e1 e2 e3
  subst e1 e3
  exact hS
/-- the sealed row, what was opened of it, and what lies below -/
structure Bk (w : World) (g cap m9 : Nat) (Y : List Int) (A2 : Option Addr) (n c2 : Nat) (l : List Int) (W : World) : Prop where
  own : W.ownsRow w.heap.size 5 1 (.slice (some ⟨g, 0, none⟩) m9 cap) m9 (nums .u8 Y)
  o : Sl W A2 n c2 l
  below : Below w.heap.size w W
theorem Bk.step {w W W' : World} {g cap m9 : Nat} {Y : List Int} {A2 : Option Addr} {n c2 : Nat} {l : List Int} (h : Bk w g cap m9 Y A2 n c2 l W) (hb : Below W.heap.size W W') : Bk w g cap m9 Y A2 n c2 l W' :=
  ⟨pw_own_below h.own hb, h.o.below hb, h.below.trans (hb.mono h.below.size)⟩
theorem seal_own {w : World} {A : Option Addr} {n c : Nat} {l : List Int} (q : Int) (hk : 1 ≤ q ∧ q ≤ 6) (h : Sl w A n c l) (hl : ∀ x ∈ l, B8 x) (hn : n ≤ 200) (m : Nat) (hm : m = n + 9) :
    Calls Tryd.prog 34 #[.int .u8 q, .slice A n c] w fun e w' => ∃ g cap, e = .returned (.tuple #[.slice (some ⟨g, 0, none⟩) m cap, .nilIface]) ∧ w'.ownsRow w.heap.size 5 1 (.slice (some ⟨g, 0, none⟩) m cap) m (nums .u8 (sealedL q l)) ∧ w.heap.size ≤ g ∧ g < w'.heap.size ∧ Below w.heap.size w w' := by
  obtain ⟨hC, hn', hc⟩ := h
  subst hn'
  have e : sealR q l = (sealedL q l, none) := by unfold sealR; rw [if_pos hk, if_neg (by omega)]; rfl
  have hf := seal_eq 20000 (Nat.le_refl _) q l (by unfold B8; omega) hl (by omega)
  rw [e] at hf
  refine (blob_Seal.calls 20000 q (fun k => k < w.heap.size) A c l _ _ w (Kd.V_mk hc (Kd.C_F (Kd.heap_int .u8) hC)) hf).mono ?_
  rintro e w' ⟨v, rfl, hR, hb⟩
  have ho := Kd.own_of_R hR
  have hlen : (sealedL q l).length = m := by rw [sealedL_len, hm]
  rw [hlen] at ho
  obtain ⟨g, cap, rfl, h1, h2⟩ := ho.form (by omega)
  exact ⟨g, cap, rfl, ho, h1, h2, hb⟩
theorem k_facts (q : Int) (h0 : 0 ≤ q) (h1 : q < 256) : ∃ y1 K1 y2 K2 : Int, Int.tmod q 6 = y1 ∧ q % 6 = y1 ∧ y1 % 256 = y1 ∧ IntKind.u8.wrap y1 = y1 ∧ IntKind.u8.wrap (1 + y1) = K1 ∧ (1 + y1) % 256 = K1 ∧ Int.tmod K1 6 = y2 ∧ K1 % 6 = y2 ∧ y2 % 256 = y2 ∧ IntKind.u8.wrap y2 = y2 ∧ IntKind.u8.wrap (1 + y2) = K2 ∧ (1 + y2) % 256 = K2 ∧ (1 ≤ K1 ∧ K1 ≤ 6) ∧ (1 ≤ K2 ∧ K2 ≤ 6) ∧ K1 ≠ K2 := by
  refine ⟨q % 6, 1 + q % 6, (1 + q % 6) % 6, 1 + (1 + q % 6) % 6, ?_, rfl, ?_, ?_, ?_, ?_, ?_, rfl, ?_, ?_, ?_, ?_, ?_, ?_, ?_⟩
  · exact Int.tmod_eq_emod_of_nonneg h0
  · omega
  · show q % 6 % 256 = q % 6; omega
  · show (1 + q % 6) % 256 = 1 + q % 6; omega
  · omega
  · exact Int.tmod_eq_emod_of_nonneg (by omega)
  · omega
  · show (1 + q % 6) % 6 % 256 = (1 + q % 6) % 6; omega
  · show (1 + (1 + q % 6) % 6) % 256 = 1 + (1 + q % 6) % 6; omega
  · omega
  · omega
  · omega
  · omega
theorem bit_core (nb m : Int) (a0 : 0 ≤ nb) (a1 : nb < 8 * m) (h1 : m ≤ 209) : ∃ (em : Int) (dj : Nat), wrap64 nb = nb ∧ IntKind.u64.wrap nb = nb ∧ Int.tdiv nb 8 = (dj : Int) ∧ nb / 8 = (dj : Int) ∧ Int.tmod nb 8 = em ∧ nb % 8 = em ∧ wrap64 em = em ∧ IntKind.u64.wrap em = em ∧ 0 ≤ em ∧ em < 8 ∧ wrap64 (dj : Int) = (dj : Int) ∧ (dj : Int) < m ∧ (0 : Int) ≤ (dj : Int) := by
  have hd : ((nb / 8).toNat : Int) = nb / 8 := Int.toNat_of_nonneg (by omega)
  have hq : 0 ≤ nb / 8 ∧ nb / 8 < m := by omega
  have he : 0 ≤ nb % 8 ∧ nb % 8 < 8 := by omega
  refine ⟨nb % 8, (nb / 8).toNat, ?_, ?_, ?_, hd.symm, ?_, rfl, ?_, ?_, he.1, he.2, ?_, ?_, by omega⟩
  · unfold wrap64; omega
  · rw [IntKind.wrap_u64]; omega
  · rw [hd]; exact Int.tdiv_eq_ediv_of_nonneg a0
  · exact Int.tmod_eq_emod_of_nonneg a0
  · generalize nb % 8 = z at he; unfold wrap64; omega
  · generalize nb % 8 = z at he; rw [IntKind.wrap_u64]; omega
  · rw [hd]; generalize nb / 8 = z at hq; unfold wrap64; omega
  · rw [hd]; exact hq.2
theorem bit_facts (bit m : Int) (h0 : 9 ≤ m) (h1 : m ≤ 209) : ∃ (ub nb em : Int) (dj : Nat), (IntKind.u64.wrap bit = ub ∧ bit % 18446744073709551616 = ub ∧ wrap64 (8 * m) = 8 * m ∧ IntKind.u64.wrap (8 * m) = 8 * m ∧ Int.tmod ub (8 * m) = nb ∧ ub % (8 * m) = nb ∧ (8 * m == 0) = false) ∧ wrap64 nb = nb ∧ IntKind.u64.wrap nb = nb ∧ Int.tdiv nb 8 = (dj : Int) ∧ nb / 8 = (dj : Int) ∧ Int.tmod nb 8 = em ∧ nb % 8 = em ∧ wrap64 em = em ∧ IntKind.u64.wrap em = em ∧ 0 ≤ em ∧ em < 8 ∧ wrap64 (dj : Int) = (dj : Int) ∧ (dj : Int) < m ∧ (0 : Int) ≤ (dj : Int) := by
  have hub0 : 0 ≤ IntKind.u64.wrap bit := by rw [IntKind.wrap_u64]; omega
  have hu : bit % 18446744073709551616 = IntKind.u64.wrap bit := by rw [IntKind.wrap_u64]
  have a0 : 0 ≤ IntKind.u64.wrap bit % (8 * m) := Int.emod_nonneg _ (by omega)
  have a1 : IntKind.u64.wrap bit % (8 * m) < 8 * m := Int.emod_lt_of_pos _ (by omega)
  obtain ⟨em, dj, h⟩ := bit_core _ m a0 a1 h1
  refine ⟨_, _, em, dj, ⟨rfl, hu, ?_, ?_, Int.tmod_eq_emod_of_nonneg hub0, rfl, ?_⟩, h⟩
  · clear h a0 a1 hu hub0; unfold wrap64; omega
  · clear h a0 a1 hu hub0; rw [IntKind.wrap_u64]; omega
  · have : ¬ 8 * m = 0 := by clear h a0 a1 hu hub0; omega
    simpa using this
theorem shl_pow (m : Int) (h0 : 0 ≤ m) (h7 : m < 8) : (2 : Int) ^ m.toNat % 256 = shl .u8 1 m := by
  have hc : m = 0 ∨ m = 1 ∨ m = 2 ∨ m = 3 ∨ m = 4 ∨ m = 5 ∨ m = 6 ∨ m = 7 := by omega
  rcases hc with rfl | rfl | rfl | rfl | rfl | rfl | rfl | rfl <;> decide +kernel
set_option maxRecDepth 100000 in
set_option maxHeartbeats 8000000 in
theorem bback_walk (q bit : Int) (A : Option Addr) (n c : Nat) (l : List Int) (w : World) (hg : HG w) (hq : B8 q) (ha : Sl w A n c l) (hla : ∀ x ∈ l, B8 x) :
    Calls Tryd.prog 7 #[.int .u8 q, .slice A n c, .int .i64 bit] w fun e w' => e = .returned (.bool true) ∧ Below w.heap.size w w' := by
  by_cases hbad : 200 < n
  · have hS := sure06 w hg
    have f1 : (200 : Int) < (n : Int) := by omega
    clear ha hla hg hq hbad
    go_enter Tryd.func7, Tryd.ntmps7
    go_wp2_with (go_at_call 33; (with_reducible refine hS.mono ?_); rintro e w2 ⟨rfl, hb2⟩)
    go_ret
    exact ⟨rfl, hb2⟩
  have f1 : ¬ (200 : Int) < (n : Int) := by omega
  unfold B8 at hq
  obtain ⟨y1, K1, y2, K2, hkf⟩ := k_facts q hq.1 hq.2
  have k1 := hkf.2.2.2.2.2.2.2.2.2.2.2.2.1
  have k2 := hkf.2.2.2.2.2.2.2.2.2.2.2.2.2.1
  have k12 := hkf.2.2.2.2.2.2.2.2.2.2.2.2.2.2
  have HKF := Aside0.mk hkf
  clear hkf hq
  have hlen := ha.len
  obtain ⟨m9, hm9⟩ : ∃ m : Nat, m = n + 9 := ⟨_, rfl⟩
  obtain ⟨m8, hm8⟩ : ∃ m : Nat, m = n + 8 := ⟨_, rfl⟩
  obtain ⟨m10, hm10⟩ : ∃ m : Nat, m = n + 10 := ⟨_, rfl⟩
  obtain ⟨Y, hY⟩ : ∃ Y, Y = sealedL K1 l := ⟨_, rfl⟩
  have hYl : m9 = Y.length := by rw [hY, sealedL_len, hm9, hlen]
  have hYb : ∀ x ∈ Y, B8 x := by rw [hY]; exact sealedL_byte (by unfold B8; omega) hla (by omega)
  have hne : ((m9 : Int) != (n : Int) + 9) = false := by rw [hm9]; simp
  have hneP : ((m9 : Int) = (n : Int) + 9) = True := eq_true (by rw [hm9]; simp)
  have hnm : (m9 : Int) - 1 = (m8 : Int) := by omega
  have hw8 : wrap64 (m8 : Int) = (m8 : Int) := by unfold wrap64; omega
  have hwn : wrap64 ((n : Int) + 9) = (n : Int) + 9 := by unfold wrap64; omega
  have hm80 : (0 : Int) ≤ (m8 : Int) := by omega
  have hm89 : (m8 : Int) ≤ (m9 : Int) := by omega
  obtain ⟨ub, nb, em, dj, hbf0, hbf⟩ := bit_facts bit (m9 : Int) (by omega) (by omega)
  have d5 := hbf.2.2.2.2.2.2.2.2.1
  have d6 := hbf.2.2.2.2.2.2.2.2.2.1
  have d8 := hbf.2.2.2.2.2.2.2.2.2.2.2.1
  have d9 := hbf.2.2.2.2.2.2.2.2.2.2.2.2
  have HBF := Aside0.mk (And.intro hbf0 hbf)
  clear hbf hbf0
  obtain ⟨yv, hyv⟩ : ∃ v, v = rd Y (dj : Int) := ⟨_, rfl⟩
  have hdl : dj < Y.length := by omega
  have hyb : B8 yv := by rw [hyv]; exact rd_byte hYb dj hdl
  obtain ⟨sh, hsh⟩ : ∃ v, v = shl .u8 1 em := ⟨_, rfl⟩
  obtain ⟨xv, hxv⟩ : ∃ v, v = Go.bits .xor .u8 yv sh := ⟨_, rfl⟩
  have htb := turned_bit yv hyb em d5 d6
  rw [← hsh, ← hxv] at htb
  have HU := Aside0.mk (And.intro hsh.symm (And.intro hxv.symm ((shl_pow em d5 d6).trans hsh.symm)))
  obtain ⟨e5, he5⟩ := open_turned k1 hla (by omega) dj (by rw [← sealedL_len K1 l, ← hY]; exact hdl) xv htb.1 (fun h => by
    have : yv = (sealedL K1 l)[dj] := by rw [hyv, hY, rd_get (by rw [← hY]; exact hdl)]
    rw [← this]; exact htb.2)
  rw [← hY] at he5
  clear hsh hxv
  have hSeal : Aside0 (Calls Tryd.prog 34 #[.int .u8 K1, .slice A n c] w fun e w' => ∃ g cap, e = .returned (.tuple #[.slice (some ⟨g, 0, none⟩) m9 cap, .nilIface]) ∧ w'.ownsRow w.heap.size 5 1 (.slice (some ⟨g, 0, none⟩) m9 cap) m9 (nums .u8 Y) ∧ w.heap.size ≤ g ∧ g < w'.heap.size ∧ Below w.heap.size w w') := ⟨by rw [hY]; exact seal_own K1 k1 ha hla (by omega) m9 hm9⟩
  have O1 : Aside0 (∀ W A' c', Sl W A' m9 c' Y → Calls Tryd.prog 38 #[.int .u8 K1, .slice A' m9 c'] W fun e w' => ∃ A2 c2, e = .returned (.tuple #[.slice A2 n c2, .nilIface]) ∧ Sl w' A2 n c2 l ∧ (∀ a, A2 = some a → W.heap.size ≤ a.block) ∧ Below W.heap.size W w') := ⟨fun W A' c' h => by
    have hk := sealedL_kind k1 (l := l) (by omega)
    have hs := sealedL_ok K1 l
    rw [← hY] at hk hs
    rw [← hlen, ← hm9] at hk hs
    have := open_ok K1 h hYb (by omega) k1 hk hs.1 (by omega) n (by omega)
    rw [hs.2] at this
    exact this⟩
  have bad : ∀ (k : Int) (L : List Int) (x : Int) W A' m' c', openR k L = ([], some x) → (∀ z ∈ L, B8 z) → m' ≤ 1000 → Sl W A' m' c' L → Calls Tryd.prog 38 #[.int .u8 k, .slice A' m' c'] W fun e w' => ∃ A2 c2, e = .returned (.tuple #[.slice A2 0 c2, .iface 126 (.int .i64 x)]) ∧ Below W.heap.size W w' := fun k L x W A' m' c' ho hb hm h => by
    have := open_sl k h hb hm 0 (by rw [ho]; rfl)
    rw [ho] at this
    refine this.mono ?_
    rintro e w' ⟨A2, c2, he, _, hb⟩
    exact ⟨A2, c2, he, hb⟩
  have O2 : Aside0 (∀ W A' c', Sl W A' m9 c' Y → Calls Tryd.prog 38 #[.int .u8 K2, .slice A' m9 c'] W fun e w' => ∃ A2 c2, e = .returned (.tuple #[.slice A2 0 c2, .iface 126 (.int .i64 3)]) ∧ Below W.heap.size W w') := ⟨fun W A' c' h => bad K2 Y 3 W A' m9 c' (by rw [hY]; exact open_other k1 k2 k12 (by omega)) hYb (by omega) h⟩
  have O3 : Aside0 (∀ W A' c', Sl W A' m9 c' Y → Calls Tryd.prog 38 #[.int .u8 K1, .slice A' m8 c'] W fun e w' => ∃ A2 c2, e = .returned (.tuple #[.slice A2 0 c2, .iface 126 (.int .i64 3)]) ∧ Below W.heap.size W w') := ⟨fun W A' c' h => bad K1 (Y.take m8) 3 W A' m8 c' (by rw [hY, hm8, hlen]; exact open_short k1 (by omega)) (fun z hz => hYb z (List.mem_of_mem_take hz)) (by omega) (h.takeN (by omega))⟩
  have O4 : Aside0 (∀ W A' c', Sl W A' m10 c' (([] ++ Y) ++ [0]) → Calls Tryd.prog 38 #[.int .u8 K1, .slice A' m10 c'] W fun e w' => ∃ A2 c2, e = .returned (.tuple #[.slice A2 0 c2, .iface 126 (.int .i64 3)]) ∧ Below W.heap.size W w') := ⟨fun W A' c' h => bad K1 _ 3 W A' m10 c' (by rw [hY]; exact open_long k1 (by omega)) (fun z hz => by
    rcases List.mem_append.1 hz with z1 | z1
    · exact hYb z (by simpa using z1)
    · simp at z1; unfold B8; omega) (by omega) h⟩
  have O5 : Aside0 (∀ W A' c', Sl W A' m9 c' (Y.set dj xv) → Calls Tryd.prog 38 #[.int .u8 K1, .slice A' m9 c'] W fun e w' => ∃ A2 c2, e = .returned (.tuple #[.slice A2 0 c2, .iface 126 (.int .i64 e5)]) ∧ Below W.heap.size W w') := ⟨fun W A' c' h => bad K1 _ e5 W A' m9 c' he5 (fun z hz => by
    rcases List.mem_or_eq_of_mem_set hz with z1 | z1
    · exact hYb z z1
    · rw [z1]; exact htb.1) (by omega) h⟩
  have hN : Aside0 (∀ W, Below w.heap.size w W → Calls Tryd.prog 40 #[.iface 126 (.int .i64 3)] W fun e w' => e = .returned (.int .i64 3) ∧ Below W.heap.size W w') := ⟨fun W hB => fuseelaw06_num_some 3 W W (St.refl (HG.below hg (Nat.le_refl _) hB))⟩
  have hSu : Aside0 (∀ W, Below w.heap.size w W → Calls Tryd.prog 33 #[] W fun e w' => e = .returned (.bool true) ∧ Below W.heap.size W w') := ⟨fun W hB => sure06 W (HG.below hg (Nat.le_refl _) hB)⟩
  obtain ⟨i0, hi0, _, hsz, _⟩ := info_parts info5
  have cutf := fun (A3 : Option Addr) (c3 : Nat) (hc : m9 ≤ c3) => cut_to (P := Tryd.prog) 70 5 .i64 Tryd.underlying70 hi0 A3 m9 c3 (m8 : Int) hm80 hm89 hc
  simp only [Int.toNat_natCast] at cutf
  have CF := Aside0.mk cutf
  have HA := Aside0.mk (And.intro ha (fun a (e : A = some a) (hp : 0 < n) => ha.lt e hp))
  have HL := Aside0.mk (And.intro hYl (And.intro hm10 (And.intro hm9 hyv)))
  have rowY : ∀ W A' c', Sl W A' m9 c' Y → (Kd.int .u8).C W A' m9 Y := fun W A' c' h => by have := h.rd; rw [← h.len] at this; exact this
  have RY := Aside0.mk rowY
  obtain ⟨r1, r2, r3, r4, r5, r6, s1, s2, s3, s4, s5, s6, _⟩ := HKF.out
  obtain ⟨⟨t0, t0', t1, t2, t3, t3', t6'⟩, t4, t5, d1, d1', d2, d2', d3, d4, _, _, d7, _, _⟩ := HBF.out
  obtain ⟨u1, u2, u3⟩ := HU.out
  clear ha hla hg hbad k1 k2 k12 hlen hm9 hm8 hm10 hY hYl hYb hdl hyv hyb htb he5 bad hi0 hsz cutf rowY HKF HBF HU
  go_enter Tryd.func7, Tryd.ntmps7
  go_upto_region 10 with (first
    | (go_at_call 34; (with_reducible refine hSeal.out.mono ?_); rintro e w1 ⟨g, cap, rfl, ho, hg1, hg2, hb⟩; have H1 := Aside0.mk (And.intro ho (And.intro hg1 (And.intro hg2 hb))); clear ho hg1 hg2 hb)
    | (go_at_call 38; (with_reducible refine (O1.out _ _ _ (own_sl H1.out.1 HL.out.1)).mono ?_); rintro e w2 ⟨A2, c2, rfl, h2, hf2, hb⟩; have H2 := Aside0.mk (⟨pw_own_below H1.out.1 hb, h2, H1.out.2.2.2.trans (hb.mono H1.out.2.2.2.size)⟩ : Bk w g cap m9 Y A2 n c2 l w2); have HF := Aside0.mk (fun a (e : A2 = some a) => Nat.lt_of_lt_of_le H1.out.2.2.1 (hf2 a e)); clear h2 hf2 hb)
    | (go_at_call 38; (with_reducible refine (O2.out _ _ _ (own_sl H2.out.own HL.out.1)).mono ?_); rintro e w3 ⟨A3, c3, rfl, hb⟩; have H3 := Aside0.mk (H2.out.step hb); have hcut := CF.out (some ⟨g, 0, none⟩) cap (own_sl H3.out.own HL.out.1).cap; clear hb)
    | (go_at_call 38; (with_reducible refine (O3.out _ _ _ (own_sl H3.out.own HL.out.1)).mono ?_); rintro e w4 ⟨A4, c4, rfl, hb⟩; have H4 := Aside0.mk (H3.out.step hb); clear hb hcut))
  clear O1 O2 O3 hSeal
  go_wp2_with (first
    | ((with_reducible refine gate_builtin (b := .append) (xs := #[.tmp 70, .tmp 71]) rfl ?_); go_loud (at_builtin; have hE := Aside0.mk (Kd.R_of_own (enc := Value.int .u8) (h1 := fun _ => rfl) (ok := fun _ => True) (xs := []) (own_lit w4 w.heap.size 5 .u8 [] H4.out.below.size (by simp)) (fun _ _ => trivial)); have HA4 := Aside0.mk ((Below.refl w4.heap.size w4).alloc (Nat.le_refl _) (.cells #[] 5)); refine Kd.R_append_rows (Kd.int .u8) (w0 := w) w.heap.size rfl (.tmp 70) (.tmp 71) 70 5 (.int .u8 0) 1 rfl Tryd.underlying70 info5 rfl (by decide) (by omega) (.slice (some ⟨w4.heap.size, 0, none⟩) 0 0) [] Y _ _ _ (fun _ => True) (fun _ => False) rfl rfl hE.out ?aR (fun _ _ h => h) (fun _ h => h.elim) (fun _ _ => trivial) (H4.out.step HA4.out).below ?aS ?aL ?_; (case aR => exact RY.out _ _ _ (own_sl (H4.out.step HA4.out).own HL.out.1)); (case aS => exact (H4.out.step HA4.out).below.size); (case aL => (have h9_ := HL.out.2.2.1; simp; omega)); intro v1 w5 hR hB hgr hat; have hb45 : Below w4.heap.size w4 w5 := HA4.out.grown hgr HA4.out.size (fun k hk => by cases hk; exact Nat.le_refl _); have hv1 : ∀ k, v1.ownBlock = some k → w4.heap.size ≤ k := (fun k hk => hat.elim (fun z => (by rw [z] at hk; cases hk; exact Nat.le_refl _)) (fun ⟨b, z, hz⟩ => (by rw [z] at hk; cases hk; exact Nat.le_trans HA4.out.size hz))); have H5 := Aside0.mk (And.intro hR (And.intro hB (And.intro hb45 hv1))); clear hR hB hgr hat hE hb45 hv1))
    | ((with_reducible refine gate_builtin (b := .append) (xs := #[.tmp 72, .tmp 73]) rfl ?_); go_loud (at_builtin; refine Kd.R_append (Kd.int .u8) (w0 := w) w.heap.size rfl (.tmp 72) (.tmp 73) 70 5 (.int .u8 0) 1 rfl Tryd.underlying70 info5 rfl (by decide) (by omega) v1 ([] ++ Y) (0 : Int) [.int .u8 0] (fun _ => True) (fun _ => False) rfl rfl ?aP (fun _ hk => hk.elim) ?aF ?aO ?aB ?aS ?aL ?_; (case aP => exact rfl); (case aF => exact (fun _ _ => trivial)); (case aO => exact H5.out.1); (case aB => exact H5.out.2.1); (case aS => exact H5.out.2.1.size); (case aL => (have h9_ := HL.out.2.2.1; have h8_ := HL.out.1; simp; omega)); intro v2 w6 hR hB hgr hat; have hb46 : Below w4.heap.size w4 w6 := (by first | exact H5.out.2.2.1.grown hgr H5.out.2.2.1.size H5.out.2.2.2 | exact (H5.out.2.2.1.alloc H5.out.2.2.1.size (.cells #[.int .u8 0] 5)).grown hgr (H5.out.2.2.1.alloc H5.out.2.2.1.size (.cells #[.int .u8 0] 5)).size H5.out.2.2.2); obtain ⟨A6, c6, e6, hS6⟩ := Sl.of_R hR (m := m10) (by have h1_ := HL.out.1; have h2_ := HL.out.2.1; have h3_ := HL.out.2.2.1; simp; omega); subst e6; have H6 := Aside0.mk (And.intro (H4.out.step hb46) hS6); clear hR hB hgr hat hb46 hS6))
    | (go_at_call 38; (with_reducible refine (O4.out _ _ _ H6.out.2).mono ?_); rintro e w7 ⟨A7, c7, rfl, hb⟩; have H7 := Aside0.mk (H6.out.1.step hb); have hcl := own_at H7.out.own (dj : Int) d9 d8; rw [Int.toNat_natCast, ← HL.out.2.2.2] at hcl; obtain ⟨hcl1, hcl2⟩ := hcl; have hs0_ := own_store H7.out.own (dj : Int) xv; rw [Int.toNat_natCast] at hs0_; have hst := Aside0.mk hs0_; clear hb hs0_)
    | (go_at_call 38; (with_reducible refine (O5.out (w7.setCell ⟨g, dj, none⟩ (.int .u8 xv)) _ _ (own_sl hst.out.1 (by rw [List.length_set]; exact HL.out.1))).mono ?_); rintro e w9 ⟨A9, c9, rfl, hb⟩; have hB8 : But g w7 (w7.setCell ⟨g, dj, none⟩ (.int .u8 xv)) := (But.refl _ w7).setCell dj _; have hv1_ := conv_fact ((H7.out.o.but hB8 (fun a e _ => Nat.ne_of_gt (HF.out a e))).below hb); have hv2_ := conv_fact (((HA.out.1.below H7.out.below).but hB8 (fun a e hp => by have h1_ := HA.out.2 a e hp; have h2_ := H1.out.2.1; omega)).below hb); have HBc := Aside0.mk ((but_below hB8 H7.out.below H1.out.2.1 H7.out.below.size).trans (hb.mono (but_below hB8 H7.out.below H1.out.2.1 H7.out.below.size).size)); clear hb hB8)
    | (go_at_call 40; (with_reducible refine (hN.out _ HBc.out).mono ?_); rintro e w10 ⟨rfl, hb⟩; have nB := Aside0.mk (HBc.out.trans (hb.mono HBc.out.size)); clear HBc hb; have HBc := nB; clear nB)
    | (go_at_call 33; (with_reducible refine (hSu.out _ HBc.out).mono ?_); rintro e w11 ⟨rfl, hb⟩; have nB := Aside0.mk (HBc.out.trans (hb.mono HBc.out.size)); clear HBc hb; have HBc := nB; clear nB))
  go_ret
  exact ⟨rfl, HBc.out⟩
end Go.Proofs.YtpihgdehgkclmaaDoor.MCb
