/-
  The law BlobBack, walked.
-/
import Derived.Test.YtpihgdehgkclmaaDoorB6L
namespace Go.Proofs.YtpihgdehgkclmaaDoor.MCb
open Go.RowKit Go.Proofs.YtpihgdehgkclmaaDoorW.PrintWords Go.Proofs.YtpihgdehgkclmaaDoorW.PrintLast Go.Proofs.YtpihgdehgkclmaaDoorW.PrintMore
set_option linter.unusedVariables false
set_option linter.unusedSimpArgs false

theorem turned_bit (b : Int) (hb : B8 b) (m : Int) (h0 : 0 ≤ m) (h7 : m < 8) : B8 (Go.bits .xor .u8 b (shl .u8 1 m)) ∧ b ≠ Go.bits .xor .u8 b (shl .u8 1 m) := by
  obtain ⟨n, rfl⟩ : ∃ n : Nat, b = n := ⟨b.toNat, by have := hb.1; omega⟩
  have hn : n < 256 := by have := hb.2; omega
  have hc : m = 0 ∨ m = 1 ∨ m = 2 ∨ m = 3 ∨ m = 4 ∨ m = 5 ∨ m = 6 ∨ m = 7 := by omega
  have hs : ∃ q : Nat, shl .u8 1 m = q ∧ 0 < q ∧ q < 256 := by
    rcases hc with rfl | rfl | rfl | rfl | rfl | rfl | rfl | rfl
    · exact ⟨1, by decide +kernel, by omega, by omega⟩
    · exact ⟨2, by decide +kernel, by omega, by omega⟩
    · exact ⟨4, by decide +kernel, by omega, by omega⟩
    · exact ⟨8, by decide +kernel, by omega, by omega⟩
    · exact ⟨16, by decide +kernel, by omega, by omega⟩
    · exact ⟨32, by decide +kernel, by omega, by omega⟩
    · exact ⟨64, by decide +kernel, by omega, by omega⟩
    · exact ⟨128, by decide +kernel, by omega, by omega⟩
  obtain ⟨q, hq, hq0, hq1⟩ := hs
  rw [hq]
  have hlt : n ^^^ q < 2 ^ 8 := Nat.xor_lt_two_pow hn hq1
  have hx : Go.bits .xor .u8 (n : Int) (q : Int) = ((n ^^^ q : Nat) : Int) := by
    show IntKind.u8.wrap ((BitVec.ofInt 8 (n : Int) ^^^ BitVec.ofInt 8 (q : Int)).toNat : Int) = _
    rw [BitVec.toNat_xor, BitVec.toNat_ofInt, BitVec.toNat_ofInt]
    have e1 : ((n : Int) % ((2 ^ 8 : Nat) : Int)).toNat = n := by omega
    have e2 : ((q : Int) % ((2 ^ 8 : Nat) : Int)).toNat = q := by omega
    rw [e1, e2, IntKind.wrap_u8]; omega
  rw [hx]
  refine ⟨by unfold B8; omega, fun e => ?_⟩
  have e1 : n = n ^^^ q := by omega
  have e2 := congrArg (fun z => n ^^^ z) e1
  simp only [← Nat.xor_assoc, Nat.xor_self, Nat.zero_xor] at e2
  omega
theorem opened_far {w : World} {A : Option Addr} {n c : Nat} {l : List Int} (h : Sl w A n c l) (hl : ∀ x ∈ l, B8 x) (hn : n ≤ 1900) (ho : okO l) (m : Nat) (hm : m = n - 4) :
    Calls Tryd.prog 82 #[.slice A n c] w fun e w' => ∃ A' c', e = .returned (.tuple #[.slice A' m c', .nilIface]) ∧ Sl w' A' m c' (l.take (n - 4)) ∧ (∀ a, A' = some a → w.heap.size ≤ a.block) ∧ Below w.heap.size w w' := by
  obtain ⟨hC, hn', hc⟩ := h
  subst hn'
  have hf : crc_Opened.f 2000 l = some (l.take (l.length - 4), none) := by
    rw [opened_eq 2000 l hl (by omega) (by omega)]
    rw [if_pos (by exact ho)]
  refine (crc_Opened.calls 2000 A c l _ _ w hC hc hf).mono ?_
  rintro e w' ⟨v, rfl, hR, hb⟩
  obtain ⟨A', c', rfl, hS⟩ := Sl.of_R hR (m := m) (by rw [hm, List.length_take]; omega)
  exact ⟨A', c', rfl, hS, fun a e => Kd.R_base hR a.block (by subst e; rfl), hb⟩
set_option maxRecDepth 100000 in
set_option maxHeartbeats 4000000 in
theorem open_ok {w : World} {A : Option Addr} {n c : Nat} {l : List Int} (q : Int) (h : Sl w A n c l) (hl : ∀ x ∈ l, B8 x) (hn : n ≤ 1000) (hk : 1 ≤ q ∧ q ≤ 6) (hke : kindR l = (q, (n : Int), none)) (ho : okO l) (h9 : 9 ≤ n) (m : Nat) (hm : m = n - 9) :
    Calls Tryd.prog 38 #[.int .u8 q, .slice A n c] w fun e w' => ∃ A' c', e = .returned (.tuple #[.slice A' m c', .nilIface]) ∧ Sl w' A' m c' ((l.take (n - 4)).drop 5) ∧ (∀ a, A' = some a → w.heap.size ≤ a.block) ∧ Below w.heap.size w w' := by
  have hkd : ∀ W, Calls Tryd.prog 75 #[.int .u8 q] W fun e w' => e = .returned (.bool true) ∧ Below W.heap.size W w' := fun W => by
    have := kinded_calls q W
    rwa [decide_eq_true hk] at this
  have HK : Aside0 (∀ W, Below w.heap.size w W → Calls Tryd.prog 36 #[.slice A n c] W fun e w' => e = .returned (.tuple #[.int .u8 q, .int .i64 (n : Int), .nilIface]) ∧ Below W.heap.size W w') := ⟨fun W hB => by
    have := kind_sl (h.below hB) hl (by omega)
    rw [hke] at this
    exact this⟩
  obtain ⟨mo4, hmo⟩ : ∃ mo4 : Nat, mo4 = n - 4 := ⟨_, rfl⟩
  have HOp : Aside0 (∀ W, Below w.heap.size w W → Calls Tryd.prog 82 #[.slice A n c] W fun e w' => ∃ A' c', e = .returned (.tuple #[.slice A' mo4 c', .nilIface]) ∧ Sl w' A' mo4 c' (l.take (n - 4)) ∧ (∀ a, A' = some a → W.heap.size ≤ a.block) ∧ Below W.heap.size W w') := ⟨fun W hB => opened_far (h.below hB) hl (by omega) ho mo4 hmo⟩
  obtain ⟨i0, hi0, _, hsz, _⟩ := info_parts info5
  have h5 : (5 : Int) ≤ (mo4 : Int) := by omega
  have cutf := fun (A3 : Option Addr) (c3 : Nat) => cut_from (P := Tryd.prog) 70 5 .i64 Tryd.underlying70 hi0 1 hsz A3 mo4 c3 5 (by omega) h5
  simp only [show (5 : Int).toNat = 5 from rfl] at cutf
  have CF := Aside0.mk cutf
  obtain ⟨L, hL⟩ : ∃ L, L = l.take (n - 4) := ⟨_, rfl⟩
  rw [← hL] at HOp ⊢
  have HM := Aside0.mk (And.intro (show m = mo4 - 5 by omega) (show 5 ≤ mo4 by omega))
  clear h hl hn hke ho h9 hm hmo hi0 hsz cutf hL hk
  go_enter Tryd.func38, Tryd.ntmps38
  go_wp2_with (first
    | (go_at_call 75; (with_reducible refine (hkd _).mono ?_); rintro e w2 ⟨rfl, hb2⟩; have H2 := Aside0.mk hb2; clear hb2)
    | (go_at_call 36; (with_reducible refine (HK.out _ H2.out).mono ?_); rintro e w3 ⟨rfl, hb3⟩; have H3 := Aside0.mk (H2.out.trans (hb3.mono H2.out.size)); clear hb3)
    | (go_at_call 82; (with_reducible refine (HOp.out _ H3.out).mono ?_); rintro e w4 ⟨A4, c4, rfl, h4, hf4, hb4⟩; have H4 := Aside0.mk (And.intro h4 (And.intro hf4 (H3.out.trans (hb4.mono H3.out.size)))); have hcut := CF.out A4 c4; obtain ⟨A5, hA5⟩ : ∃ A5, A5 = (if c4 = 5 then A4 else A4.map (·.add (5 * 1))) := ⟨_, rfl⟩; rw [← hA5] at hcut; have HA5 := Lib.hid hA5; clear hA5 h4 hf4 hb4))
  go_ret2
  refine ⟨A5, c4 - 5, by rw [HM.out.1]; rfl, by rw [HM.out.1, HA5.out]; exact H4.out.1.drop HM.out.2, fun a e => ?_, H4.out.2.2⟩
  rw [HA5.out] at e
  split at e
  · exact Nat.le_trans H3.out.size (H4.out.2.1 a e)
  · cases A4 with
    | none => cases e
    | some b =>
      injection e with e
      subst e
      rw [add_block]
      exact Nat.le_trans H3.out.size (H4.out.2.1 b rfl)
/-- what was sealed -/
def sealedL (q : Int) (l : List Int) : List Int := body q l ++ le4 (mo 0 (body q l))
theorem sealedL_len (q : Int) (l : List Int) : (sealedL q l).length = l.length + 9 := by unfold sealedL; rw [List.length_append, body_length]; simp [le4]
theorem sealedL_byte {q : Int} {l : List Int} (hq : B8 q) (hl : ∀ c ∈ l, B8 c) (hn : l.length ≤ 1024) : ∀ c ∈ sealedL q l, B8 c := fun c hc => by
  unfold sealedL at hc
  rcases List.mem_append.1 hc with z | z
  · exact body_byte hq hl hn c z
  · exact le4_byte _ c z
theorem sealedL_cons (q : Int) (l : List Int) : sealedL q l = 116 :: 109 :: q :: ((l.length : Int) % 256) :: ((l.length : Int) / 256) :: (l ++ le4 (mo 0 (body q l))) := by
  unfold sealedL body
  simp
theorem kind_cons {q a b : Int} {T : List Int} (hq : 1 ≤ q ∧ q ≤ 6) (h : a + 256 * b ≤ 1024) : kindR (116 :: 109 :: q :: a :: b :: T) = (q, 9 + (a + 256 * b), none) := by
  have hok : kdOk (116 :: 109 :: q :: a :: b :: T) := ⟨by simp, rfl, rfl, hq.1, hq.2, h⟩
  unfold kindR
  rw [if_pos hok]
  rfl
theorem sealedL_kind {q : Int} {l : List Int} (hq : 1 ≤ q ∧ q ≤ 6) (hn : l.length ≤ 1024) : kindR (sealedL q l) = (q, ((l.length + 9 : Nat) : Int), none) := by
  rw [sealedL_cons, kind_cons hq (by omega)]
  congr 2
  omega
theorem sealedL_ok (q : Int) (l : List Int) : okO (sealedL q l) ∧ ((sealedL q l).take (l.length + 9 - 4)).drop 5 = l := by
  have hlen := sealedL_len q l
  have hb : (sealedL q l).take (l.length + 5) = body q l := by
    unfold sealedL
    rw [List.take_append_of_le_length (by rw [body_length]; omega), List.take_of_length_le (by rw [body_length]; omega)]
  refine ⟨⟨by omega, ?_⟩, ?_⟩
  · rw [hlen, show l.length + 9 - 4 = l.length + 5 by omega, hb]; rfl
  · rw [show l.length + 9 - 4 = l.length + 5 by omega, hb]; rfl
theorem open_other {q k : Int} {l : List Int} (hq : 1 ≤ q ∧ q ≤ 6) (hk : 1 ≤ k ∧ k ≤ 6) (hne : q ≠ k) (hn : l.length ≤ 1024) : openR k (sealedL q l) = ([], some 3) := by
  unfold openR
  rw [if_pos hk, sealedL_kind hq hn]
  simp [hne]
theorem open_short {q : Int} {l : List Int} (hq : 1 ≤ q ∧ q ≤ 6) (hn : l.length ≤ 1024) : openR q ((sealedL q l).take (l.length + 8)) = ([], some 3) := by
  have hlen : ((sealedL q l).take (l.length + 8)).length = l.length + 8 := by rw [List.length_take, sealedL_len]; omega
  have e : (sealedL q l).take (l.length + 8) = 116 :: 109 :: q :: ((l.length : Int) % 256) :: ((l.length : Int) / 256) :: (l ++ le4 (mo 0 (body q l))).take (l.length + 3) := by rw [sealedL_cons]; rfl
  unfold openR
  rw [if_pos hq, hlen, e, kind_cons hq (by omega)]
  simp only [Option.isSome_none, Bool.false_eq_true, if_false]
  rw [if_neg (by omega)]
theorem open_long {q : Int} {l : List Int} (hq : 1 ≤ q ∧ q ≤ 6) (hn : l.length ≤ 1024) : openR q (sealedL q l ++ [0]) = ([], some 3) := by
  have hlen : (sealedL q l ++ [0]).length = l.length + 10 := by rw [List.length_append, sealedL_len]; rfl
  have e : sealedL q l ++ [0] = 116 :: 109 :: q :: ((l.length : Int) % 256) :: ((l.length : Int) / 256) :: (l ++ le4 (mo 0 (body q l)) ++ [0]) := by rw [sealedL_cons]; rfl
  unfold openR
  rw [if_pos hq, hlen, e, kind_cons hq (by omega)]
  simp only [Option.isSome_none, Bool.false_eq_true, if_false]
  rw [if_neg (by omega)]
theorem open_turned {q : Int} {l : List Int} (hq : 1 ≤ q ∧ q ≤ 6) (hl : ∀ c ∈ l, B8 c) (hn : l.length ≤ 1024) (i : Nat) (hi : i < l.length + 9) (x : Int) (hx : B8 x) (hne : ∀ h : i < (sealedL q l).length, (sealedL q l)[i] ≠ x) : ∃ e, openR q ((sealedL q l).set i x) = ([], some e) := by
  have hb : ∀ c ∈ body q l, B8 c := body_byte (by unfold B8; omega) hl hn
  have hbl := body_length q l
  have hno : ¬ okO ((sealedL q l).set i x) := fun z => by
    have h1 := opened_set 3000 (body q l) hb (by omega) (by omega) i (by omega) x hx hne
    have hall : ∀ c ∈ (sealedL q l).set i x, B8 c := fun c hc => by
      rcases List.mem_or_eq_of_mem_set hc with h | rfl
      · exact sealedL_byte (by unfold B8; omega) hl hn c h
      · exact hx
    have h2 := opened_eq 3000 ((sealedL q l).set i x) hall (by rw [List.length_set, sealedL_len]; omega) (by rw [List.length_set, sealedL_len]; omega)
    rw [if_pos (by exact z)] at h2
    have h3 := h1.symm.trans h2
    simp at h3
  unfold openR
  rw [if_pos hq]
  rw [if_neg hno]
  split
  · exact ⟨3, rfl⟩
  · split
    · exact ⟨4, rfl⟩
    · exact ⟨3, rfl⟩
end Go.Proofs.YtpihgdehgkclmaaDoor.MCb
