/-
  Chapter 6's sure and the law BlobForms, walked.
-/
import Derived.Test.YtpihgdehgkclmaaDoorB6
namespace Go.Proofs.YtpihgdehgkclmaaDoor.MCb
open Go.RowKit Go.Proofs.YtpihgdehgkclmaaDoorW.PrintWords Go.Proofs.YtpihgdehgkclmaaDoorW.PrintLast Go.Proofs.YtpihgdehgkclmaaDoorW.PrintMore
set_option linter.unusedVariables false
set_option linter.unusedSimpArgs false

theorem conv_fact {w : World} {A : Option Addr} {n c : Nat} {l : List Int} (h : Sl w A n c l) : (convert 70 9 (.slice A n c)).run Tryd.prog w = .ok (.string (strOfNums l)) w := by
  have hcv := Kd.C_string (P := Tryd.prog) (A := A) (c := c) Tryd.underlying70 Tryd.underlying5 Tryd.underlying9 h.rd
  rwa [← h.len] at hcv
theorem sure06_kind (t : Int) : kindR ([116, 109, 1, 0, 0] ++ le4 t) = (1, 9, none) := by
  have hok : kdOk ([116, 109, 1, 0, 0] ++ le4 t) := ⟨by simp [le4], rfl, rfl, (by show (1 : Int) ≤ 1; omega), (by show (1 : Int) ≤ 6; omega), (by show (0 : Int) + 256 * 0 ≤ 1024; omega)⟩
  unfold kindR
  rw [if_pos hok]
  rfl
set_option maxRecDepth 100000 in
set_option maxHeartbeats 4000000 in
theorem sure06 (w : World) (hg : HG w) : Calls Tryd.prog 33 #[] w fun e w' => e = .returned (.bool true) ∧ Below w.heap.size w w' := by
  obtain ⟨X, hX⟩ : ∃ X, X = [116, 109, 1, 0, 0] ++ le4 (mo 0 (body 1 [])) := ⟨_, rfl⟩
  have e : sealR 1 [] = (X, none) := by rw [hX]; unfold sealR; rw [if_pos (by omega), if_neg (by simp)]; rfl
  have hXl : X.length = 9 := by rw [hX]; simp [le4]
  have hXb : ∀ x ∈ X, B8 x := fun x hx => by
    rw [hX] at hx
    rcases List.mem_append.1 hx with z | z
    · simp only [List.mem_cons, List.not_mem_nil, or_false] at z
      unfold B8
      rcases z with rfl | rfl | rfl | rfl | rfl <;> omega
    · exact le4_byte _ x z
  have hk : kindR X = (1, 9, none) := by rw [hX]; exact sure06_kind _
  have ho : openR 6 X = ([], some 3) := by unfold openR; rw [if_pos (by omega), hk]; simp
  have hS : ∀ W, Calls Tryd.prog 34 #[.int .u8 1, .slice none 0 0] W fun e w' => ∃ A' c', e = .returned (.tuple #[.slice A' 9 c', .nilIface]) ∧ Sl w' A' 9 c' X ∧ Below W.heap.size W w' := fun W => by
    have := seal_sl (w := W) 1 (by unfold B8; omega) (Sl.nil W) (by simp) (by omega) 9 (by rw [e]; exact hXl.symm)
    rw [e] at this
    exact this
  have hK : ∀ W A c, Sl W A 9 c X → Calls Tryd.prog 36 #[.slice A 9 c] W fun e w' => e = .returned (.tuple #[.int .u8 1, .int .i64 9, .nilIface]) ∧ Below W.heap.size W w' := fun W A c h => by
    have := kind_sl h hXb (by omega)
    rw [hk] at this
    exact this
  have hO : ∀ W A c, Sl W A 9 c X → Calls Tryd.prog 38 #[.int .u8 6, .slice A 9 c] W fun e w' => ∃ A' c', e = .returned (.tuple #[.slice A' 0 c', .iface 126 (.int .i64 3)]) ∧ Sl w' A' 0 c' [] ∧ Below W.heap.size W w' := fun W A c h => by
    have := open_sl 6 h hXb (by omega) 0 (by rw [ho]; rfl)
    rw [ho] at this
    exact this
  have hN : ∀ W, HG W → Calls Tryd.prog 40 #[.iface 126 (.int .i64 3)] W fun e w' => e = .returned (.int .i64 3) ∧ Below W.heap.size W w' := fun W hg => fuseelaw06_num_some 3 W W (St.refl hg)
  have HS := Aside0.mk hS
  have HK := Aside0.mk hK
  have HO := Aside0.mk hO
  have HN := Aside0.mk hN
  have H0 := Aside0.mk hg
  clear hX e hXl hXb hk ho hS hK hO hN hg
  go_enter Tryd.func33, Tryd.ntmps33
  go_wp2_with (first
    | (go_at_call 34; (with_reducible refine (HS.out _).mono ?_); rintro e w1 ⟨A1, c1, rfl, h1, hb1⟩; have H1 := Aside0.mk (And.intro h1 hb1); clear h1 hb1)
    | (go_at_call 36; (with_reducible refine (HK.out _ _ _ H1.out.1).mono ?_); rintro e w2 ⟨rfl, hb2⟩; have H2 := Aside0.mk (And.intro (H1.out.1.below hb2) (H1.out.2.trans (hb2.mono H1.out.2.size))); clear hb2)
    | (go_at_call 38; (with_reducible refine (HO.out _ _ _ H2.out.1).mono ?_); rintro e w3 ⟨A3, c3, rfl, h3, hb3⟩; have H3 := Aside0.mk (H2.out.2.trans (hb3.mono H2.out.2.size)); clear h3 hb3)
    | (go_at_call 40; (with_reducible refine (HN.out _ (HG.below H0.out (Nat.le_refl _) H3.out)).mono ?_); rintro e w4 ⟨rfl, hb4⟩; have H4 := Aside0.mk (H3.out.trans (hb4.mono H3.out.size)); clear hb4))
  go_ret
  exact ⟨rfl, H4.out⟩
set_option maxRecDepth 100000 in
set_option maxHeartbeats 8000000 in
theorem forms_walk (q : Int) (A B : Option Addr) (n c p d : Nat) (l r : List Int) (w : World) (hg : HG w) (hq : B8 q) (ha : Sl w A n c l) (hb : Sl w B p d r) (hla : ∀ x ∈ l, B8 x) (hlb : ∀ x ∈ r, B8 x) :
    Calls Tryd.prog 6 #[.int .u8 q, .slice A n c, .slice B p d] w fun e w' => e = .returned (.bool true) ∧ Below w.heap.size w w' := by
  by_cases hbad : (200 < n ∧ n ≤ 1024) ∨ 3000 < n ∨ 300 < p
  · have hS := sure06 w hg
    clear ha hb hla hlb hg hq
    by_cases c1 : 200 < n
    · have f1 : (200 : Int) < (n : Int) := by omega
      by_cases c2 : n ≤ 1024
      · have f2 : (n : Int) ≤ 1024 := by omega
        clear hbad c1 c2
        go_enter Tryd.func6, Tryd.ntmps6
        go_wp2_with (go_at_call 33; (with_reducible refine hS.mono ?_); rintro e w2 ⟨rfl, hb2⟩)
        go_ret
        exact ⟨rfl, hb2⟩
      · have f2 : ¬ (n : Int) ≤ 1024 := by omega
        by_cases c3 : 3000 < n
        · have f3 : (3000 : Int) < (n : Int) := by omega
          clear hbad c1 c2 c3
          go_enter Tryd.func6, Tryd.ntmps6
          go_wp2_with (go_at_call 33; (with_reducible refine hS.mono ?_); rintro e w2 ⟨rfl, hb2⟩)
          go_ret
          exact ⟨rfl, hb2⟩
        · have f3 : ¬ (3000 : Int) < (n : Int) := by omega
          have f4 : (300 : Int) < (p : Int) := by omega
          clear hbad c1 c2 c3
          go_enter Tryd.func6, Tryd.ntmps6
          go_wp2_with (go_at_call 33; (with_reducible refine hS.mono ?_); rintro e w2 ⟨rfl, hb2⟩)
          go_ret
          exact ⟨rfl, hb2⟩
    · have f1 : ¬ (200 : Int) < (n : Int) := by omega
      have f3 : ¬ (3000 : Int) < (n : Int) := by omega
      have f4 : (300 : Int) < (p : Int) := by omega
      clear hbad c1
      go_enter Tryd.func6, Tryd.ntmps6
      go_wp2_with (go_at_call 33; (with_reducible refine hS.mono ?_); rintro e w2 ⟨rfl, hb2⟩)
      go_ret
      exact ⟨rfl, hb2⟩
  have f3 : ¬ (3000 : Int) < (n : Int) := by omega
  have f4 : ¬ (300 : Int) < (p : Int) := by omega
  obtain ⟨X1, hX1⟩ : ∃ X, X = (sealR q l).1 := ⟨_, rfl⟩
  obtain ⟨m1, hm1⟩ : ∃ m, m = X1.length := ⟨_, rfl⟩
  obtain ⟨o1, ho1⟩ : ∃ o, o = (sealR q l).2 := ⟨_, rfl⟩
  obtain ⟨k1, hk1⟩ : ∃ o, o = (kindR r).1 := ⟨_, rfl⟩
  obtain ⟨k2, hk2⟩ : ∃ o, o = (kindR r).2.1 := ⟨_, rfl⟩
  obtain ⟨o2, ho2⟩ : ∃ o, o = (kindR r).2.2 := ⟨_, rfl⟩
  obtain ⟨X2, hX2⟩ : ∃ X, X = (openR q r).1 := ⟨_, rfl⟩
  obtain ⟨m2, hm2⟩ : ∃ m, m = X2.length := ⟨_, rfl⟩
  obtain ⟨o3, ho3⟩ : ∃ o, o = (openR q r).2 := ⟨_, rfl⟩
  have hS : Aside0 (∀ W, Below w.heap.size w W → Calls Tryd.prog 34 #[.int .u8 q, .slice A n c] W fun e w' => ∃ A' c', e = .returned (.tuple #[.slice A' m1 c', errV o1]) ∧ Sl w' A' m1 c' X1 ∧ Below W.heap.size W w') := ⟨fun W hB => by
    rw [ho1, hX1]; exact seal_sl q hq (ha.below hB) hla (by omega) m1 (by rw [hm1, hX1])⟩
  have hRS : Aside0 (∀ W, Below w.heap.size w W → Calls Tryd.prog 35 #[.int .u8 q, .slice A n c] W fun e w' => ∃ A' c', e = .returned (.tuple #[.slice A' m1 c', .int .i64 (numE o1)]) ∧ Sl w' A' m1 c' X1 ∧ Below W.heap.size W w') := ⟨fun W hB => by
    rw [ho1, hX1]; exact rseal_sl q hq (ha.below hB) hla (by omega) m1 (by rw [hm1, hX1])⟩
  have hK : Aside0 (∀ W, Below w.heap.size w W → Calls Tryd.prog 36 #[.slice B p d] W fun e w' => e = .returned (.tuple #[.int .u8 k1, .int .i64 k2, errV o2]) ∧ Below W.heap.size W w') := ⟨fun W hB => by
    rw [hk1, hk2, ho2]; exact kind_sl (hb.below hB) hlb (by omega)⟩
  have hRK : Aside0 (∀ W, Below w.heap.size w W → Calls Tryd.prog 37 #[.slice B p d] W fun e w' => e = .returned (.tuple #[.int .u8 k1, .int .i64 k2, .int .i64 (numE o2)]) ∧ Below W.heap.size W w') := ⟨fun W hB => by
    rw [hk1, hk2, ho2]; exact rkind_sl (hb.below hB) hlb⟩
  have hO : Aside0 (∀ W, Below w.heap.size w W → Calls Tryd.prog 38 #[.int .u8 q, .slice B p d] W fun e w' => ∃ A' c', e = .returned (.tuple #[.slice A' m2 c', errV o3]) ∧ Sl w' A' m2 c' X2 ∧ Below W.heap.size W w') := ⟨fun W hB => by
    rw [ho3, hX2]; exact open_sl q (hb.below hB) hlb (by omega) m2 (by rw [hm2, hX2])⟩
  have hRO : Aside0 (∀ W, Below w.heap.size w W → Calls Tryd.prog 39 #[.int .u8 q, .slice B p d] W fun e w' => ∃ A' c', e = .returned (.tuple #[.slice A' m2 c', .int .i64 (numE o3)]) ∧ Sl w' A' m2 c' X2 ∧ Below W.heap.size W w') := ⟨fun W hB => by
    rw [ho3, hX2]; exact ropen_sl q (hb.below hB) hlb (by omega) m2 (by rw [hm2, hX2])⟩
  have hN1 : Aside0 (∀ W, Below w.heap.size w W → Calls Tryd.prog 40 #[errV o1] W fun e w' => e = .returned (.int .i64 (numE o1)) ∧ Below W.heap.size W w') := ⟨fun W hB => fuseelaw06_num_calls o1 W W (St.refl (HG.below hg (Nat.le_refl _) hB))⟩
  have hN2 : Aside0 (∀ W, Below w.heap.size w W → Calls Tryd.prog 40 #[errV o2] W fun e w' => e = .returned (.int .i64 (numE o2)) ∧ Below W.heap.size W w') := ⟨fun W hB => fuseelaw06_num_calls o2 W W (St.refl (HG.below hg (Nat.le_refl _) hB))⟩
  have hN3 : Aside0 (∀ W, Below w.heap.size w W → Calls Tryd.prog 40 #[errV o3] W fun e w' => e = .returned (.int .i64 (numE o3)) ∧ Below W.heap.size W w') := ⟨fun W hB => fuseelaw06_num_calls o3 W W (St.refl (HG.below hg (Nat.le_refl _) hB))⟩
  have hSu : Aside0 (∀ W, Below w.heap.size w W → Calls Tryd.prog 33 #[] W fun e w' => e = .returned (.bool true) ∧ Below W.heap.size W w') := ⟨fun W hB => sure06 W (HG.below hg (Nat.le_refl _) hB)⟩
  clear hg ha hb hla hlb hq hX1 hm1 ho1 hk1 hk2 ho2 hX2 hm2 ho3
  by_cases c1 : 200 < n
  · have f1 : (200 : Int) < (n : Int) := by omega
    have f2 : ¬ (n : Int) ≤ 1024 := by omega
    clear hbad c1
    go_enter Tryd.func6, Tryd.ntmps6
    go_wp2_with (first
      | (go_at_call 34; (with_reducible refine (hS.out _ (Below.refl _ _)).mono ?_); rintro e w1 ⟨A1, c1, rfl, h1, hb1⟩; have H1 := Aside0.mk (And.intro h1 hb1); clear h1 hb1)
      | (go_at_call 35; (with_reducible refine (hRS.out _ H1.out.2).mono ?_); rintro e w2 ⟨A2, c2, rfl, h2, hb2⟩; have H2 := Aside0.mk (And.intro h2 (And.intro (H1.out.1.below hb2) (H1.out.2.trans (hb2.mono H1.out.2.size)))); clear h2 hb2)
      | (go_at_call 36; (with_reducible refine (hK.out _ H2.out.2.2).mono ?_); rintro e w3 ⟨rfl, hb3⟩; have H3 := Aside0.mk (And.intro (H2.out.1.below hb3) (And.intro (H2.out.2.1.below hb3) (H2.out.2.2.trans (hb3.mono H2.out.2.2.size)))); clear hb3)
      | (go_at_call 37; (with_reducible refine (hRK.out _ H3.out.2.2).mono ?_); rintro e w4 ⟨rfl, hb4⟩; have H4 := Aside0.mk (And.intro (H3.out.1.below hb4) (And.intro (H3.out.2.1.below hb4) (H3.out.2.2.trans (hb4.mono H3.out.2.2.size)))); clear hb4)
      | (go_at_call 38; (with_reducible refine (hO.out _ H4.out.2.2).mono ?_); rintro e w5 ⟨A5, c5, rfl, h5, hb5⟩; have H5 := Aside0.mk (And.intro (H4.out.1.below hb5) (And.intro (H4.out.2.1.below hb5) (And.intro h5 (H4.out.2.2.trans (hb5.mono H4.out.2.2.size))))); clear h5 hb5)
      | (go_at_call 39; (with_reducible refine (hRO.out _ H5.out.2.2.2).mono ?_); rintro e w6 ⟨A6, c6, rfl, h6, hb6⟩; have H6 := Aside0.mk (And.intro (H5.out.2.2.1.below hb6) (And.intro h6 (H5.out.2.2.2.trans (hb6.mono H5.out.2.2.2.size)))); have hv1 := conv_fact (H5.out.1.below hb6); have hv2 := conv_fact (H5.out.2.1.below hb6); clear h6 hb6)
      | (go_at_call 40; (with_reducible refine (hN1.out _ H6.out.2.2).mono ?_); rintro e w7 ⟨rfl, hb7⟩; have H7 := Aside0.mk (And.intro (H6.out.1.below hb7) (And.intro (H6.out.2.1.below hb7) (H6.out.2.2.trans (hb7.mono H6.out.2.2.size)))); clear hb7)
      | (go_at_call 40; (with_reducible refine (hN2.out _ H7.out.2.2).mono ?_); rintro e w8 ⟨rfl, hb8⟩; have hv3 := conv_fact (H7.out.1.below hb8); have hv4 := conv_fact (H7.out.2.1.below hb8); have H8 := Aside0.mk (H7.out.2.2.trans (hb8.mono H7.out.2.2.size)); clear hb8)
      | (go_at_call 40; (with_reducible refine (hN3.out _ H8.out).mono ?_); rintro e w9 ⟨rfl, hb9⟩; have H9 := Aside0.mk (H8.out.trans (hb9.mono H8.out.size)); clear hb9)
      | (go_at_call 33; (with_reducible refine (hSu.out _ H9.out).mono ?_); rintro e w10 ⟨rfl, hb10⟩; have H10 := Aside0.mk (H9.out.trans (hb10.mono H9.out.size)); clear hb10))
    go_ret
    exact ⟨rfl, H10.out⟩
  · have f1 : ¬ (200 : Int) < (n : Int) := by omega
    clear hbad c1
    go_enter Tryd.func6, Tryd.ntmps6
    go_wp2_with (first
      | (go_at_call 34; (with_reducible refine (hS.out _ (Below.refl _ _)).mono ?_); rintro e w1 ⟨A1, c1, rfl, h1, hb1⟩; have H1 := Aside0.mk (And.intro h1 hb1); clear h1 hb1)
      | (go_at_call 35; (with_reducible refine (hRS.out _ H1.out.2).mono ?_); rintro e w2 ⟨A2, c2, rfl, h2, hb2⟩; have H2 := Aside0.mk (And.intro h2 (And.intro (H1.out.1.below hb2) (H1.out.2.trans (hb2.mono H1.out.2.size)))); clear h2 hb2)
      | (go_at_call 36; (with_reducible refine (hK.out _ H2.out.2.2).mono ?_); rintro e w3 ⟨rfl, hb3⟩; have H3 := Aside0.mk (And.intro (H2.out.1.below hb3) (And.intro (H2.out.2.1.below hb3) (H2.out.2.2.trans (hb3.mono H2.out.2.2.size)))); clear hb3)
      | (go_at_call 37; (with_reducible refine (hRK.out _ H3.out.2.2).mono ?_); rintro e w4 ⟨rfl, hb4⟩; have H4 := Aside0.mk (And.intro (H3.out.1.below hb4) (And.intro (H3.out.2.1.below hb4) (H3.out.2.2.trans (hb4.mono H3.out.2.2.size)))); clear hb4)
      | (go_at_call 38; (with_reducible refine (hO.out _ H4.out.2.2).mono ?_); rintro e w5 ⟨A5, c5, rfl, h5, hb5⟩; have H5 := Aside0.mk (And.intro (H4.out.1.below hb5) (And.intro (H4.out.2.1.below hb5) (And.intro h5 (H4.out.2.2.trans (hb5.mono H4.out.2.2.size))))); clear h5 hb5)
      | (go_at_call 39; (with_reducible refine (hRO.out _ H5.out.2.2.2).mono ?_); rintro e w6 ⟨A6, c6, rfl, h6, hb6⟩; have H6 := Aside0.mk (And.intro (H5.out.2.2.1.below hb6) (And.intro h6 (H5.out.2.2.2.trans (hb6.mono H5.out.2.2.2.size)))); have hv1 := conv_fact (H5.out.1.below hb6); have hv2 := conv_fact (H5.out.2.1.below hb6); clear h6 hb6)
      | (go_at_call 40; (with_reducible refine (hN1.out _ H6.out.2.2).mono ?_); rintro e w7 ⟨rfl, hb7⟩; have H7 := Aside0.mk (And.intro (H6.out.1.below hb7) (And.intro (H6.out.2.1.below hb7) (H6.out.2.2.trans (hb7.mono H6.out.2.2.size)))); clear hb7)
      | (go_at_call 40; (with_reducible refine (hN2.out _ H7.out.2.2).mono ?_); rintro e w8 ⟨rfl, hb8⟩; have hv3 := conv_fact (H7.out.1.below hb8); have hv4 := conv_fact (H7.out.2.1.below hb8); have H8 := Aside0.mk (H7.out.2.2.trans (hb8.mono H7.out.2.2.size)); clear hb8)
      | (go_at_call 40; (with_reducible refine (hN3.out _ H8.out).mono ?_); rintro e w9 ⟨rfl, hb9⟩; have H9 := Aside0.mk (H8.out.trans (hb9.mono H8.out.size)); clear hb9)
      | (go_at_call 33; (with_reducible refine (hSu.out _ H9.out).mono ?_); rintro e w10 ⟨rfl, hb10⟩; have H10 := Aside0.mk (H9.out.trans (hb10.mono H9.out.size)); clear hb10))
    go_ret
    exact ⟨rfl, H10.out⟩
end Go.Proofs.YtpihgdehgkclmaaDoor.MCb
