/-
  Chapters 4 and 6 in plain numbers.
-/
import Derived.Test.YtnlaiiophongmaaDoorK
import Derived.Test.YtnlaiiophongmaaDoorRow
import Derived.Test.YtnlaiiophongmaaDoorMath
import Derived.Test.YtnlaiiophongmaaDoorWideM
import Derived.Test.YtnlaiiophongmaaDoorMCbx
import Derived.Test.YtnlaiiophongmaaDoorRd
namespace Go.Proofs.YtnlaiiophongmaaDoor.MCb
open Go.RowKit Go.Proofs.YtnlaiiophongmaaDoorW.PrintWords Go.Proofs.YtnlaiiophongmaaDoorW.PrintMore
set_option linter.unusedVariables false
set_option linter.unusedSimpArgs false

theorem bits_and1 (x : Int) (h0 : 0 ≤ x) (h1 : x < 4294967296) : Go.bits .and .u32 x 1 = x % 2 := by
  obtain ⟨n, rfl⟩ : ∃ n : Nat, x = n := ⟨x.toNat, by omega⟩
  have hn : n < 2 ^ 32 := by omega
  show IntKind.u32.wrap ((BitVec.ofInt 32 (n : Int) &&& BitVec.ofInt 32 1).toNat : Int) = _
  rw [BitVec.toNat_and, BitVec.toNat_ofInt, BitVec.toNat_ofInt]
  have e1 : ((n : Int) % ((2 ^ 32 : Nat) : Int)).toNat = n := by omega
  have e2 : ((1 : Int) % ((2 ^ 32 : Nat) : Int)).toNat = 1 := by decide
  rw [e1, e2, Nat.and_one_is_mod]
  have : IntKind.u32.wrap ((n % 2 : Nat) : Int) = ((n % 2 : Nat) : Int) := by rw [IntKind.wrap_u32]; omega
  rw [this]; omega
theorem bits_xor32 (a b : Nat) (ha : a < 4294967296) (hb : b < 4294967296) : Go.bits .xor .u32 (a : Int) (b : Int) = ((a ^^^ b : Nat) : Int) ∧ (a ^^^ b) < 4294967296 := by
  have hlt : a ^^^ b < 2 ^ 32 := Nat.xor_lt_two_pow ha hb
  refine ⟨?_, hlt⟩
  show IntKind.u32.wrap ((BitVec.ofInt 32 (a : Int) ^^^ BitVec.ofInt 32 (b : Int)).toNat : Int) = _
  rw [BitVec.toNat_xor, BitVec.toNat_ofInt, BitVec.toNat_ofInt]
  have e1 : ((a : Int) % ((2 ^ 32 : Nat) : Int)).toNat = a := by omega
  have e2 : ((b : Int) % ((2 ^ 32 : Nat) : Int)).toNat = b := by omega
  rw [e1, e2, IntKind.wrap_u32]; omega
def U32 (x : Int) : Prop := 0 ≤ x ∧ x < 4294967296
theorem U32.nat {x : Int} (h : U32 x) : ∃ n : Nat, x = n ∧ n < 4294967296 := ⟨x.toNat, by have := h.1; omega, by have := h.2; omega⟩
def xr (a b : Int) : Int := Go.bits .xor .u32 a b
theorem xr_range {a b : Int} (ha : U32 a) (hb : U32 b) : U32 (xr a b) := by
  obtain ⟨m, rfl, hm⟩ := ha.nat
  obtain ⟨n, rfl, hn⟩ := hb.nat
  unfold xr
  rw [(bits_xor32 m n hm hn).1]
  have := (bits_xor32 m n hm hn).2
  unfold U32; omega
theorem xr_inj_left {a b c : Int} (ha : U32 a) (hb : U32 b) (hc : U32 c) (h : xr a c = xr b c) : a = b := by
  obtain ⟨m, rfl, hm⟩ := ha.nat
  obtain ⟨n, rfl, hn⟩ := hb.nat
  obtain ⟨q, rfl, hq⟩ := hc.nat
  unfold xr at h
  rw [(bits_xor32 m q hm hq).1, (bits_xor32 n q hn hq).1] at h
  have h' : m ^^^ q = n ^^^ q := by omega
  have : m = n := by
    have e := congrArg (fun z => z ^^^ q) h'
    simp only [Nat.xor_assoc, Nat.xor_self, Nat.xor_zero] at e
    exact e
  omega
theorem xr_comm {a b : Int} (ha : U32 a) (hb : U32 b) : xr a b = xr b a := by
  obtain ⟨m, rfl, hm⟩ := ha.nat
  obtain ⟨n, rfl, hn⟩ := hb.nat
  unfold xr
  rw [(bits_xor32 m n hm hn).1, (bits_xor32 n m hn hm).1, Nat.xor_comm]
theorem xr_twice {a c : Int} (ha : U32 a) (hc : U32 c) : xr c (xr c a) = a := by
  obtain ⟨m, rfl, hm⟩ := ha.nat
  obtain ⟨q, rfl, hq⟩ := hc.nat
  unfold xr
  rw [(bits_xor32 q m hq hm).1, (bits_xor32 q _ hq (bits_xor32 q m hq hm).2).1, ← Nat.xor_assoc, Nat.xor_self, Nat.zero_xor]
def pol : Int := 3988292384
theorem pol_U32 : U32 pol := by unfold U32 pol; omega
/-- one bit -/
def rb (x : Int) : Int := if x % 2 = 1 then xr (x / 2) pol else x / 2
theorem half_U32 {x : Int} (h : U32 x) : U32 (x / 2) := by unfold U32 at *; omega
theorem rb_U32 {x : Int} (h : U32 x) : U32 (rb x) := by
  unfold rb; split
  · exact xr_range (half_U32 h) pol_U32
  · exact half_U32 h
theorem high (x : Int) (h0 : 0 ≤ x) (h1 : x < 2147483648) : 2147483648 ≤ xr x pol := by
  obtain ⟨n, rfl⟩ : ∃ n : Nat, x = n := ⟨x.toNat, by omega⟩
  unfold xr pol
  rw [show (3988292384 : Int) = ((3988292384 : Nat) : Int) from rfl, (bits_xor32 n 3988292384 (by omega) (by omega)).1]
  have : 2 ^ 31 ≤ n ^^^ 3988292384 := by
    apply Nat.ge_two_pow_of_testBit
    rw [Nat.testBit_xor, Nat.testBit_lt_two_pow (show n < 2 ^ 31 by omega)]
    decide
  omega
theorem rb_inj {x y : Int} (hx : U32 x) (hy : U32 y) (h : rb x = rb y) : x = y := by
  unfold rb at h
  have hx' := hx
  have hy' := hy
  unfold U32 at hx' hy'
  by_cases c : x % 2 = 1
  · rw [if_pos c] at h
    by_cases d : y % 2 = 1
    · rw [if_pos d] at h
      have := xr_inj_left (half_U32 hx) (half_U32 hy) pol_U32 h
      omega
    · rw [if_neg d] at h
      have := high (x / 2) (by omega) (by omega)
      omega
  · rw [if_neg c] at h
    by_cases d : y % 2 = 1
    · rw [if_pos d] at h
      have := high (y / 2) (by omega) (by omega)
      omega
    · rw [if_neg d] at h; omega
def rn : Nat → Int → Int
  | 0, x => x
  | n + 1, x => rn n (rb x)
theorem rn_U32 : ∀ (n : Nat) {x : Int}, U32 x → U32 (rn n x)
  | 0, _, h => h
  | n + 1, _, h => rn_U32 n (rb_U32 h)
theorem rn_inj : ∀ (n : Nat) {x y : Int}, U32 x → U32 y → rn n x = rn n y → x = y
  | 0, _, _, _, _, h => h
  | n + 1, _, _, hx, hy, h => rb_inj hx hy (rn_inj n (rb_U32 hx) (rb_U32 hy) h)
/-- one byte -/
def sb (v c : Int) : Int := rn 8 (xr v c)
def B8 (c : Int) : Prop := 0 ≤ c ∧ c < 256
theorem B8.u {c : Int} (h : B8 c) : U32 c := by unfold B8 at h; unfold U32; omega
theorem sb_U32 {v c : Int} (hv : U32 v) (hc : B8 c) : U32 (sb v c) := rn_U32 8 (xr_range hv hc.u)
theorem sb_inj {u v c : Int} (hu : U32 u) (hv : U32 v) (hc : B8 c) (h : sb u c = sb v c) : u = v := xr_inj_left hu hv hc.u (rn_inj 8 (xr_range hu hc.u) (xr_range hv hc.u) h)
theorem sb_byte {v c d : Int} (hv : U32 v) (hc : B8 c) (hd : B8 d) (h : sb v c = sb v d) : c = d := by
  have := rn_inj 8 (xr_range hv hc.u) (xr_range hv hd.u) h
  rw [xr_comm hv hc.u, xr_comm hv hd.u] at this
  exact xr_inj_left hc.u hd.u hv this
theorem fold_U32 : ∀ (l : List Int) (v : Int), U32 v → (∀ c ∈ l, B8 c) → U32 (l.foldl sb v)
  | [], _, h, _ => h
  | c :: l, v, h, hl => fold_U32 l (sb v c) (sb_U32 h (hl c (by simp))) (fun x hx => hl x (by simp [hx]))
theorem fold_inj : ∀ (l : List Int) (u v : Int), U32 u → U32 v → (∀ c ∈ l, B8 c) → l.foldl sb u = l.foldl sb v → u = v
  | [], _, _, _, _, _, h => h
  | c :: l, u, v, hu, hv, hl, h => sb_inj hu hv (hl c (by simp)) (fold_inj l _ _ (sb_U32 hu (hl c (by simp))) (sb_U32 hv (hl c (by simp))) (fun x hx => hl x (by simp [hx])) h)
def ones : Int := 4294967295
theorem ones_U32 : U32 ones := by unfold U32 ones; omega
/-- the sum behind a sum -/
def mo (s : Int) (l : List Int) : Int := xr ones (l.foldl sb (xr ones s))
theorem mo_U32 {s : Int} (hs : U32 s) {l : List Int} (hl : ∀ c ∈ l, B8 c) : U32 (mo s l) := xr_range ones_U32 (fold_U32 l _ (xr_range ones_U32 hs) hl)
theorem mo_app {s : Int} (hs : U32 s) {a b : List Int} (ha : ∀ c ∈ a, B8 c) : mo s (a ++ b) = mo (mo s a) b := by
  unfold mo
  rw [List.foldl_append, xr_twice (fold_U32 a _ (xr_range ones_U32 hs) ha) ones_U32]
theorem zero_U32 : U32 0 := by unfold U32; omega
/-- another byte at one place: another sum -/
theorem mo_set {l : List Int} (hl : ∀ c ∈ l, B8 c) {i : Nat} (hi : i < l.length) {x : Int} (hx : B8 x) (h : mo 0 (l.set i x) = mo 0 l) : l[i] = x := by
  unfold mo at h
  have hf : ∀ l : List Int, (∀ c ∈ l, B8 c) → U32 (l.foldl sb (xr ones 0)) := fun l hl => fold_U32 l _ (xr_range ones_U32 zero_U32) hl
  have hset : ∀ c ∈ l.set i x, B8 c := fun c hc => by
    rcases List.mem_or_eq_of_mem_set hc with h | rfl
    · exact hl c h
    · exact hx
  have h1 : (l.set i x).foldl sb (xr ones 0) = l.foldl sb (xr ones 0) := by
    have h2 := h
    rw [xr_comm ones_U32 (hf _ hset), xr_comm ones_U32 (hf _ hl)] at h2
    exact xr_inj_left (hf _ hset) (hf _ hl) ones_U32 h2
  have e1 : l = l.take i ++ l[i] :: l.drop (i + 1) := by rw [List.getElem_cons_drop, List.take_append_drop]
  have e2 : l.set i x = l.take i ++ x :: l.drop (i + 1) := List.set_eq_take_append_cons_drop.trans (by rw [if_pos hi])
  rw [e2] at h1
  have ht : ∀ c ∈ l.take i, B8 c := fun c hc => hl c (List.mem_of_mem_take hc)
  have hd : ∀ c ∈ l.drop (i + 1), B8 c := fun c hc => hl c (List.mem_of_mem_drop hc)
  have hb : B8 l[i] := hl _ (List.getElem_mem hi)
  have h3 : (l.drop (i + 1)).foldl sb (sb ((l.take i).foldl sb (xr ones 0)) x) = (l.drop (i + 1)).foldl sb (sb ((l.take i).foldl sb (xr ones 0)) l[i]) := by
    have := h1
    conv at this => rhs; rw [e1]
    rw [List.foldl_append, List.foldl_append, List.foldl_cons, List.foldl_cons] at this
    exact this
  have hu := hf _ ht
  have h4 := fold_inj _ _ _ (sb_U32 hu hx) (sb_U32 hu hb) hd h3
  exact (sb_byte hu hx hb h4).symm
/-- the four bytes of a sum -/
def le4 (t : Int) : List Int := [t % 256, t / 256 % 256, t / 65536 % 256, t / 16777216 % 256]
theorem le4_byte (t : Int) : ∀ c ∈ le4 t, B8 c := by
  intro c hc
  unfold le4 at hc
  simp only [List.mem_cons, List.not_mem_nil, or_false] at hc
  unfold B8
  rcases hc with rfl | rfl | rfl | rfl <;> omega
theorem le4_inj {s t : Int} (hs : U32 s) (ht : U32 t) (h : le4 s = le4 t) : s = t := by
  unfold le4 at h
  simp only [List.cons.injEq, and_true] at h
  unfold U32 at hs ht
  omega
theorem crc_step_eq (k : Nat) (hk : 9 ≤ k) (v c : Int) (hv : U32 v) (hc : B8 c) : crc_step.f k v c = some (sb v c) := by
  have hl : ∀ (d k : Nat) (x i : Int), U32 x → d < k → i = 8 - d → 0 ≤ i → crc_step.l0 k x i = some (rn d x) := by
    intro d
    induction d with
    | zero =>
      intro k x i hx hk hi h0
      obtain ⟨k, rfl⟩ : ∃ m, k = m + 1 := ⟨k - 1, by omega⟩
      simp only [crc_step.l0]
      rw [if_neg (by omega)]
      rfl
    | succ d ih =>
      intro k x i hx hk hi h0
      obtain ⟨k, rfl⟩ : ∃ m, k = m + 1 := ⟨k - 1, by omega⟩
      simp only [crc_step.l0]
      rw [if_pos (by omega), bits_and1 x hx.1 hx.2, show wrap64 (i + 1) = i + 1 by unfold wrap64; omega]
      have hr := rb_U32 hx
      have e := ih k (rb x) (i + 1) hr (by omega) (by omega) (by omega)
      show _ = some (rn d (rb x))
      rw [← e]
      unfold rb
      by_cases c : x % 2 = 1
      · rw [if_pos c, if_pos c]; rfl
      · rw [if_neg c, if_neg c]
  unfold crc_step.f
  have hm : c % 4294967296 = c := by unfold B8 at hc; omega
  rw [hm]
  exact hl 8 k _ 0 (xr_range hv hc.u) (by omega) (by omega) (by omega)
theorem rd_get {l : List Int} {j : Nat} (h : j < l.length) : rd l (j : Int) = l[j] := by simp [rd, List.getD, h]
theorem crc_more_eq (k : Nat) (s : Int) (l : List Int) (hs : U32 s) (hl : ∀ c ∈ l, B8 c) (hk : l.length + 11 ≤ k) (hb : l.length ≤ 100000) : crc_More.f k s l = some (mo s l) := by
  have hloop : ∀ (d k : Nat) (j : Nat) (v : Int), U32 v → l.length = j + d → d + 11 ≤ k → crc_More.l0 k v l (l.length : Int) (j : Int) = some (xr ones ((l.drop j).foldl sb v)) := by
    intro d
    induction d with
    | zero =>
      intro k j v hv hj hk
      obtain ⟨k, rfl⟩ : ∃ m, k = m + 1 := ⟨k - 1, by omega⟩
      simp only [crc_More.l0]
      rw [if_neg (by omega), List.drop_of_length_le (by omega)]
      rfl
    | succ d ih =>
      intro k j v hv hj hk
      obtain ⟨k, rfl⟩ : ∃ m, k = m + 1 := ⟨k - 1, by omega⟩
      have hjl : j < l.length := by omega
      have hc : B8 l[j] := hl _ (List.getElem_mem hjl)
      simp only [crc_More.l0]
      rw [if_pos (by omega), if_pos (by omega), if_pos (by omega), rd_get hjl, crc_step_eq k (by omega) v _ hv hc, Option.bind_some, show wrap64 ((j : Int) + 1) = ((j + 1 : Nat) : Int) by unfold wrap64; omega, ih k (j + 1) _ (sb_U32 hv hc) (by omega) (by omega), List.drop_eq_getElem_cons hjl, List.foldl_cons]
  unfold crc_More.f mo
  have := hloop l.length k 0 (xr ones s) (xr_range ones_U32 hs) (by omega) (by omega)
  rw [List.drop_zero] at this
  exact this
theorem crc_sum_eq (k : Nat) (l : List Int) (hl : ∀ c ∈ l, B8 c) (hk : l.length + 11 ≤ k) (hb : l.length ≤ 100000) : crc_Sum.f k l = some (mo 0 l) := by
  unfold crc_Sum.f
  rw [crc_more_eq k 0 l zero_U32 hl hk hb]; rfl
theorem concat2 (k : Nat) (hk : 8 ≤ k) (a b : List Int) (ha : a.length ≤ 100000) (hb : b.length ≤ 100000) : slices_Concat_byte_byte.f k [a, b] = some (a ++ b) := by
  obtain ⟨k, rfl⟩ : ∃ m, k = m + 8 := ⟨k - 8, by omega⟩
  unfold slices_Concat_byte_byte.f
  have r0 : rd_L1 [a, b] 0 = a := rfl
  have r1 : rd_L1 [a, b] 1 = b := rfl
  have l2 : (([a, b] : List (List Int)).length : Int) = 2 := rfl
  have w0 : wrap64 (0 + (a.length : Int)) = a.length := by unfold wrap64; omega
  have w1 : wrap64 ((a.length : Int) + b.length) = a.length + b.length := by unfold wrap64; omega
  have i1 : wrap64 (0 + 1) = 1 := by unfold wrap64; omega
  have i2 : wrap64 (1 + 1) = 2 := by unfold wrap64; omega
  simp only [slices_Concat_byte_byte.l0, l2, r0, r1, w0, w1, i1, i2]
  rw [if_pos (by omega), if_pos (by omega), if_pos (by omega), if_neg (by omega), if_pos (by omega), if_pos (by omega), if_pos (by omega), if_neg (by omega), if_neg (by omega)]
  have hg : slices_Grow_byte_byte.f ((a.length : Int) + b.length) = some [] := by unfold slices_Grow_byte_byte.f; rw [if_pos (by omega)]
  rw [hg, Option.bind_some]
  simp only [slices_Concat_byte_byte.l1, l2, r0, r1, i1, i2]
  rw [if_pos (by omega), if_pos (by omega), if_pos (by omega), if_pos (by simp; omega), if_pos (by omega), if_pos (by omega), if_pos (by omega), if_pos (by simp; omega), if_neg (by omega)]
  simp
theorem sealed_eq (k : Nat) (l : List Int) (hl : ∀ c ∈ l, B8 c) (hk : l.length + 11 ≤ k) (hb : l.length ≤ 50000) : crc_Sealed.f k l = some (l ++ le4 (mo 0 l)) := by
  unfold crc_Sealed.f
  rw [crc_sum_eq k l hl hk (by omega), Option.bind_some, concat2 k (by omega) _ _ (by omega) (by simp)]
  rfl
theorem equal_eq (k : Nat) (a b : List Int) (hk : a.length + 2 ≤ k) (hb : a.length ≤ 100000) : slices_Equal_byte_byte.f k a b = some (decide (a = b)) := by
  unfold slices_Equal_byte_byte.f
  by_cases h : a.length = b.length
  · rw [if_pos (by omega)]
    have hloop : ∀ (d k j : Nat), a.length = j + d → d + 2 ≤ k → (∀ i (h1 : i < a.length) (h2 : i < b.length), i < j → a[i] = b[i]) → slices_Equal_byte_byte.l0 k a b (a.length : Int) (j : Int) = some (decide (a = b)) := by
      intro d
      induction d with
      | zero =>
        intro k j hj hk he
        obtain ⟨k, rfl⟩ : ∃ m, k = m + 1 := ⟨k - 1, by omega⟩
        simp only [slices_Equal_byte_byte.l0]
        rw [if_neg (by omega)]
        have : a = b := List.ext_getElem h (fun i h1 h2 => he i h1 h2 (by omega))
        rw [decide_eq_true this]
      | succ d ih =>
        intro k j hj hk he
        obtain ⟨k, rfl⟩ : ∃ m, k = m + 1 := ⟨k - 1, by omega⟩
        have hja : j < a.length := by omega
        have hjb : j < b.length := by omega
        simp only [slices_Equal_byte_byte.l0]
        rw [if_pos (by omega), if_pos (by omega), if_pos (by omega), if_pos (by omega), rd_get hja, rd_get hjb]
        by_cases c : a[j] = b[j]
        · rw [if_pos c, show wrap64 ((j : Int) + 1) = ((j + 1 : Nat) : Int) by unfold wrap64; omega]
          refine ih k (j + 1) (by omega) (by omega) (fun i h1 h2 hi => ?_)
          rcases Nat.lt_or_ge i j with hlt | hge
          · exact he i h1 h2 hlt
          · obtain rfl : i = j := by omega
            exact c
        · rw [if_neg c]
          have : ¬ a = b := fun e => c (by subst e; rfl)
          rw [decide_eq_false this]
    exact hloop a.length k 0 (by omega) (by omega) (fun i _ _ hi => absurd hi (by omega))
  · rw [if_neg (by omega)]
    have : ¬ a = b := fun e => h (by rw [e])
    rw [decide_eq_false this]
theorem clone_eq (l : List Int) (h : l.length ≤ 100000) : slices_Clone_byte_byte.f l = some l := by
  unfold slices_Clone_byte_byte.f
  simp only [Option.bind_some, List.nil_append, List.length_nil, Nat.zero_add]
  rw [if_pos (by omega)]
theorem opened_eq (k : Nat) (l : List Int) (hl : ∀ c ∈ l, B8 c) (hk : l.length + 20 ≤ k) (hb : l.length ≤ 50000) : crc_Opened.f k l = some (if 4 ≤ l.length ∧ l.take (l.length - 4) ++ le4 (mo 0 (l.take (l.length - 4))) = l then (l.take (l.length - 4), none) else ([], some 4)) := by
  unfold crc_Opened.f
  by_cases h4 : 4 ≤ l.length
  · have hw : wrap64 ((l.length : Int) - 4) = ((l.length - 4 : Nat) : Int) := by unfold wrap64; omega
    have ht : ∀ c ∈ l.take (l.length - 4), B8 c := fun c hc => hl c (List.mem_of_mem_take hc)
    have htl : (l.take (l.length - 4)).length = l.length - 4 := by rw [List.length_take]; omega
    rw [hw, if_neg (by omega), if_pos (by omega), if_pos (by omega), Int.toNat_natCast, sealed_eq k _ ht (by omega) (by omega), Option.bind_some, equal_eq k _ l (by simp [le4]; omega) (by simp [le4]; omega), Option.bind_some]
    by_cases he : l.take (l.length - 4) ++ le4 (mo 0 (l.take (l.length - 4))) = l
    · rw [decide_eq_true he, if_pos rfl, clone_eq _ (by omega), if_pos ⟨h4, he⟩]; rfl
    · rw [decide_eq_false he, if_neg (by simp), if_neg (fun x => he x.2)]
  · rw [if_pos (by unfold wrap64; omega), if_neg (fun x => h4 x.1)]
/-- what is sealed is opened -/
theorem opened_sealed (k : Nat) (l : List Int) (hl : ∀ c ∈ l, B8 c) (hk : l.length + 30 ≤ k) (hb : l.length ≤ 40000) : crc_Opened.f k (l ++ le4 (mo 0 l)) = some (l, none) := by
  have hlen : (l ++ le4 (mo 0 l)).length = l.length + 4 := by simp [le4]
  have ht : (l ++ le4 (mo 0 l)).take ((l ++ le4 (mo 0 l)).length - 4) = l := by rw [hlen, Nat.add_sub_cancel]; simp
  rw [opened_eq k _ (fun c hc => by rcases List.mem_append.1 hc with h | h; exact hl c h; exact le4_byte _ c h) (by omega) (by omega), ht, if_pos ⟨by omega, rfl⟩]
/-- with another byte it is not -/
theorem opened_set (k : Nat) (l : List Int) (hl : ∀ c ∈ l, B8 c) (hk : l.length + 30 ≤ k) (hb : l.length ≤ 40000) (i : Nat) (hi : i < l.length + 4) (x : Int) (hx : B8 x) (hne : ∀ h : i < (l ++ le4 (mo 0 l)).length, (l ++ le4 (mo 0 l))[i] ≠ x) : crc_Opened.f k ((l ++ le4 (mo 0 l)).set i x) = some ([], some 4) := by
  have hlen : (l ++ le4 (mo 0 l)).length = l.length + 4 := by simp [le4]
  have hall : ∀ c ∈ l ++ le4 (mo 0 l), B8 c := fun c hc => by rcases List.mem_append.1 hc with h | h; exact hl c h; exact le4_byte _ c h
  rw [opened_eq k _ (fun c hc => by rcases List.mem_or_eq_of_mem_set hc with h | rfl; exact hall c h; exact hx) (by rw [List.length_set]; omega) (by rw [List.length_set]; omega), if_neg]
  rintro ⟨_, he⟩
  rw [List.length_set, hlen, Nat.add_sub_cancel] at he
  rcases Nat.lt_or_ge i l.length with h | h
  · rw [List.set_append_left _ _ h, List.take_left' (by rw [List.length_set])] at he
    have h1 := List.append_cancel_left he
    have hset : ∀ c ∈ l.set i x, B8 c := fun c hc => by rcases List.mem_or_eq_of_mem_set hc with h | rfl; exact hl c h; exact hx
    have h2 := le4_inj (mo_U32 zero_U32 hset) (mo_U32 zero_U32 hl) h1
    have h3 := mo_set hl h hx h2
    apply hne (by omega)
    rw [List.getElem_append_left h]; exact h3
  · rw [List.set_append_right _ _ h, List.take_left' rfl] at he
    have h1 := List.append_cancel_left he
    apply hne (by omega)
    rw [List.getElem_append_right h]
    have hj : i - l.length < (le4 (mo 0 l)).length := by simp [le4]; omega
    have h2 : (le4 (mo 0 l))[i - l.length]? = ((le4 (mo 0 l)).set (i - l.length) x)[i - l.length]? := by rw [← h1]
    rw [List.getElem?_eq_getElem hj, List.getElem?_set_self hj] at h2
    exact Option.some.inj h2

theorem xr_half {v c : Int} (hv : U32 v) (hc : U32 c) : xr v c / 2 = xr (v / 2) (c / 2) ∧ xr v c % 2 = (v + c) % 2 := by
  obtain ⟨m, rfl, hm⟩ := hv.nat
  obtain ⟨n, rfl, hn⟩ := hc.nat
  unfold xr
  rw [(bits_xor32 m n hm hn).1, show ((m : Int) / 2) = ((m / 2 : Nat) : Int) by omega, show ((n : Int) / 2) = ((n / 2 : Nat) : Int) by omega, (bits_xor32 (m / 2) (n / 2) (by omega) (by omega)).1]
  have h1 : (m ^^^ n) / 2 = m / 2 ^^^ n / 2 := Nat.xor_div_two
  have h2 : (m ^^^ n) % 2 = (m + n) % 2 := by
    have h := @Nat.xor_mod_two_pow m n 1
    simp only [Nat.pow_one] at h
    rw [h]
    have hm2 : m % 2 = 0 ∨ m % 2 = 1 := by omega
    have hn2 : n % 2 = 0 ∨ n % 2 = 1 := by omega
    rcases hm2 with a | a <;> rcases hn2 with b | b <;> rw [a, b] <;> first | (show 0 = _; omega) | (show 1 = _; omega)
  rw [← h1]
  omega
theorem xr_zero {v : Int} (hv : U32 v) : xr v 0 = v := by
  obtain ⟨m, rfl, hm⟩ := hv.nat
  unfold xr
  have := (bits_xor32 m 0 hm (by omega)).1
  rw [Nat.xor_zero] at this
  exact this
theorem xr_assoc3 {a b c : Int} (ha : U32 a) (hb : U32 b) (hc : U32 c) : xr (xr a b) c = xr (xr a c) b := by
  obtain ⟨m, rfl, hm⟩ := ha.nat
  obtain ⟨n, rfl, hn⟩ := hb.nat
  obtain ⟨q, rfl, hq⟩ := hc.nat
  unfold xr
  rw [(bits_xor32 m n hm hn).1, (bits_xor32 m q hm hq).1, (bits_xor32 _ q (bits_xor32 m n hm hn).2 hq).1, (bits_xor32 _ n (bits_xor32 m q hm hq).2 hn).1, Nat.xor_assoc, Nat.xor_assoc, Nat.xor_comm n q]
theorem rb_two {v c : Int} (hv : U32 v) (hc : U32 c) : rb (xr v c) = xr (if (v + c) % 2 = 1 then xr (v / 2) pol else v / 2) (c / 2) := by
  unfold rb
  rw [(xr_half hv hc).2, (xr_half hv hc).1]
  split
  · exact xr_assoc3 (half_U32 hv) (half_U32 hc) pol_U32
  · rfl
theorem xr_ones {v : Int} (hv : U32 v) : xr ones v = 4294967295 - v := by
  obtain ⟨n, rfl, hn⟩ := hv.nat
  unfold xr ones
  rw [show (4294967295 : Int) = ((4294967295 : Nat) : Int) from rfl, (bits_xor32 4294967295 n (by omega) hn).1]
  have : 4294967295 ^^^ n = 4294967295 - n := by
    apply Nat.eq_of_testBit_eq
    intro i
    rw [Nat.testBit_xor, show 4294967295 - n = 2 ^ 32 - (n + 1) by omega, Nat.testBit_two_pow_sub_succ (by omega), show (4294967295 : Nat) = 2 ^ 32 - 1 from rfl, Nat.testBit_two_pow_sub_one]
    by_cases hi : i < 32
    · simp [hi]
    · have hp : 2 ^ 32 ≤ 2 ^ i := Nat.pow_le_pow_right (by omega) (by omega)
      have := Nat.testBit_lt_two_pow (show n < 2 ^ i by omega)
      simp [hi, this]
  rw [this]; omega
theorem rl1 (l : List Int) (j : Int) : ∀ (d k : Nat) (v c i : Int), U32 v → 0 ≤ c → c < 2 ^ d → d ≤ 8 → i = 8 - d → fuseeref04_Sum.l1 (k + d + 1) l v j c i = fuseeref04_Sum.l0 k l (rn d (xr v c)) (wrap64 (j + 1)) := by
  intro d
  induction d with
  | zero =>
    intro k v c i hv h0 h1 hd hi
    have hc : c = 0 := by simp at h1; omega
    subst hc
    simp only [fuseeref04_Sum.l1, rn, Nat.add_zero]
    rw [if_neg (by omega), xr_zero hv]
  | succ d ih =>
    intro k v c i hv h0 h1 hd hi
    have hp : (2 : Int) ^ (d + 1) = 2 * 2 ^ d := by rw [Int.pow_succ]; omega
    rw [hp] at h1
    have hq : (2 : Int) ^ d ≤ 128 := by
      have : d = 0 ∨ d = 1 ∨ d = 2 ∨ d = 3 ∨ d = 4 ∨ d = 5 ∨ d = 6 ∨ d = 7 := by omega
      rcases this with e | e | e | e | e | e | e | e <;> rw [e] <;> decide
    generalize (2 : Int) ^ d = pw at h1 hq ih
    have hc : U32 c := by unfold U32; omega
    have hv' := hv
    unfold U32 at hv'
    have e1 : Int.tdiv v 2 % 4294967296 = v / 2 := by rw [Int.tdiv_eq_ediv_of_nonneg (by omega)]; omega
    have e2 : Int.tdiv c 2 % 4294967296 = c / 2 := by rw [Int.tdiv_eq_ediv_of_nonneg (by omega)]; omega
    have e3 : (v + c) % 4294967296 % 2 = (v + c) % 2 := by omega
    have e4 : wrap64 (i + 1) = i + 1 := by unfold wrap64; omega
    rw [show k + (d + 1) + 1 = (k + d + 1) + 1 by omega]
    simp only [fuseeref04_Sum.l1]
    rw [if_pos (by omega), e1, e2, e3, e4]
    show _ = fuseeref04_Sum.l0 k l (rn d (rb (xr v c))) (wrap64 (j + 1))
    rw [rb_two hv hc]
    split
    · exact ih k _ (c / 2) (i + 1) (xr_range (half_U32 hv) pol_U32) (by omega) (by omega) (by omega) (by omega)
    · exact ih k _ (c / 2) (i + 1) (half_U32 hv) (by omega) (by omega) (by omega) (by omega)
theorem rsum_eq (k : Nat) (l : List Int) (hl : ∀ c ∈ l, B8 c) (hk : 10 * l.length + 1 ≤ k) (hb : l.length ≤ 100000) : fuseeref04_Sum.f k l = some (mo 0 l) := by
  have hloop : ∀ (d k : Nat) (j : Nat) (v : Int), U32 v → l.length = j + d → 10 * d + 1 ≤ k → fuseeref04_Sum.l0 k l v (j : Int) = some (xr ones ((l.drop j).foldl sb v)) := by
    intro d
    induction d with
    | zero =>
      intro k j v hv hj hk
      obtain ⟨k, rfl⟩ : ∃ m, k = m + 1 := ⟨k - 1, by omega⟩
      simp only [fuseeref04_Sum.l0]
      rw [if_neg (by omega), List.drop_of_length_le (by omega)]
      show _ = some (xr ones v)
      rw [xr_ones hv]
      unfold U32 at hv
      congr 1
      omega
    | succ d ih =>
      intro k j v hv hj hk
      obtain ⟨k, rfl⟩ : ∃ m, k = m + 8 + 1 + 1 := ⟨k - 10, by omega⟩
      have hjl : j < l.length := by omega
      have hc : B8 l[j] := hl _ (List.getElem_mem hjl)
      have hc' := hc
      unfold B8 at hc'
      simp only [fuseeref04_Sum.l0]
      rw [if_pos (by omega), if_pos (by omega), rd_get hjl, Int.emod_eq_of_lt (by omega) (by omega), rl1 l (j : Int) 8 k v l[j] 0 hv hc'.1 (by have : (2 : Int) ^ 8 = 256 := rfl; omega) (by omega) (by omega), show wrap64 ((j : Int) + 1) = ((j + 1 : Nat) : Int) by unfold wrap64; omega]
      rw [List.drop_eq_getElem_cons hjl, List.foldl_cons]
      exact ih k (j + 1) _ (sb_U32 hv hc) (by omega) (by omega)
  unfold fuseeref04_Sum.f mo
  have := hloop l.length k 0 ones ones_U32 (by omega) (by omega)
  rw [List.drop_zero] at this
  rw [show xr ones 0 = ones from xr_zero ones_U32]
  exact this
theorem rsealed_eq (k : Nat) (l : List Int) (hl : ∀ c ∈ l, B8 c) (hk : 10 * l.length + 10 ≤ k) (hb : l.length ≤ 50000) : fuseeref04_Sealed.f k l = some (l ++ le4 (mo 0 l)) := by
  unfold fuseeref04_Sealed.f
  rw [rsum_eq k l hl (by omega) (by omega), Option.bind_some, if_pos (by simp; omega)]
  have hu := mo_U32 zero_U32 hl
  generalize mo 0 l = t at hu ⊢
  unfold U32 at hu
  obtain ⟨k, rfl⟩ : ∃ m, k = m + 5 := ⟨k - 5, by omega⟩
  have hd : ∀ x : Int, 0 ≤ x → x < 4294967296 → Int.tdiv x 256 % 4294967296 = x / 256 := fun x h0 h1 => by rw [Int.tdiv_eq_ediv_of_nonneg h0]; omega
  have hm : ∀ x : Int, 0 ≤ x → Int.tmod x 256 % 256 = x % 256 := fun x h0 => by rw [Int.tmod_eq_emod_of_nonneg h0]; omega
  simp only [fuseeref04_Sealed.l0, List.nil_append]
  rw [if_pos (by omega), if_pos (by omega), hd t hu.1 hu.2, hd (t / 256) (by omega) (by omega), hd (t / 256 / 256) (by omega) (by omega), hm t hu.1, hm (t / 256) (by omega), hm (t / 256 / 256) (by omega), hm (t / 256 / 256 / 256) (by omega)]
  have w1 : wrap64 (0 + 1) = 1 := by unfold wrap64; omega
  have w2 : wrap64 (1 + 1) = 2 := by unfold wrap64; omega
  have w3 : wrap64 (2 + 1) = 3 := by unfold wrap64; omega
  have w4 : wrap64 (3 + 1) = 4 := by unfold wrap64; omega
  rw [w1, w2, w3, w4]
  rw [if_pos (by omega), if_pos (by simp; omega), if_pos (by omega), if_pos (by simp; omega), if_pos (by omega), if_pos (by simp; omega), if_neg (by omega)]
  unfold le4
  simp only [List.append_assoc, List.cons_append, List.nil_append]
  rw [show t / 256 / 256 = t / 65536 by omega, show t / 65536 / 256 = t / 16777216 by omega]
theorem bytesOf_str (l : List Int) (hl : ∀ c ∈ l, B8 c) : bytesOf (strOfNums l) = l := by
  unfold strOfNums bytesOf
  simp only [List.map_map, Function.comp_def]
  conv => rhs; rw [← List.map_id l]
  refine List.map_congr_left (fun c hc => ?_)
  have h := hl c hc
  unfold B8 at h
  simp
  omega
theorem str_inj {a b : List Int} (ha : ∀ c ∈ a, B8 c) (hb : ∀ c ∈ b, B8 c) (h : strOfNums a = strOfNums b) : a = b := by
  rw [← bytesOf_str a ha, ← bytesOf_str b hb, h]

theorem bounds_u8 {n : Int} (h : (Lit.int .u8 n).wf = true) : 0 ≤ n ∧ n ≤ 255 := by
  simp [Lit.wf, IntKind.min, IntKind.max, IntKind.signed, IntKind.bits] at h
  omega
def bytesN (v : Int) : Nat → List Int
  | 0 => []
  | n + 1 => v % 256 :: bytesN (v / 256) n
theorem bytesN_length : ∀ (n : Nat) (v : Int), (bytesN v n).length = n
  | 0, _ => rfl
  | n + 1, v => by simp [bytesN, bytesN_length n]
theorem bytesN_byte : ∀ (n : Nat) (v : Int), ∀ c ∈ bytesN v n, 0 ≤ c ∧ c < 256
  | 0, _ => fun c hc => by simp [bytesN] at hc
  | n + 1, v => fun c hc => by
    simp only [bytesN, List.mem_cons] at hc
    rcases hc with rfl | hc
    · omega
    · exact bytesN_byte n _ c hc
theorem fnum_at (v : Int) : ∀ (d k : Nat) (l : List Int) (i : Nat), i + d ≤ 8 → d < k → l.length + d ≤ 1000000 → fields_number.l0 k v l ((i + d : Nat) : Int) (i : Int) = some (l ++ bytesN (v / 256 ^ i) d) := by
  intro d
  induction d with
  | zero =>
    intro k l i hi hk hl
    obtain ⟨k, rfl⟩ : ∃ m, k = m + 1 := ⟨k - 1, by omega⟩
    simp only [fields_number.l0]
    rw [if_neg (by omega)]
    simp [bytesN]
  | succ d ih =>
    intro k l i hi hk hl
    obtain ⟨k, rfl⟩ : ∃ m, k = m + 1 := ⟨k - 1, by omega⟩
    have e := ih k (l ++ [v / 256 ^ i % 256]) (i + 1) (by omega) (by omega) (by simp; omega)
    rw [show i + 1 + d = i + (d + 1) by omega] at e
    have e1 : wrap64 (8 * (i : Int)) = ((8 * i : Nat) : Int) := by unfold wrap64; omega
    have e2 : shr .u64 v ((8 * i : Nat) : Int) = v / 256 ^ i := by
      unfold shr
      rw [show min (((8 * i : Nat) : Int)).toNat IntKind.u64.bits = 8 * i by rw [show IntKind.u64.bits = 64 from rfl]; omega]
      have hp : (2 : Int) ^ (8 * i) = 256 ^ i := by
        have hc : i = 0 ∨ i = 1 ∨ i = 2 ∨ i = 3 ∨ i = 4 ∨ i = 5 ∨ i = 6 ∨ i = 7 := by omega
        rcases hc with rfl | rfl | rfl | rfl | rfl | rfl | rfl | rfl <;> rfl
      rw [hp]
    have e3 : v / 256 ^ i / 256 = v / 256 ^ (i + 1) := by
      rw [Int.ediv_ediv_of_nonneg (by exact Int.pow_nonneg (by omega))]
      rfl
    simp only [fields_number.l0]
    rw [if_pos (by omega), e1, if_pos (by omega), if_pos (by omega), e2, show wrap64 ((i : Int) + 1) = ((i + 1 : Nat) : Int) by unfold wrap64; omega, e, List.append_assoc]
    simp only [bytesN, e3, List.cons_append, List.nil_append]
theorem u64_range (a : Int) : 0 ≤ IntKind.u64.wrap a ∧ IntKind.u64.wrap a < 18446744073709551616 := by rw [IntKind.wrap_u64]; omega
theorem u16_app (k : Nat) (hk : 8 < k) (l : List Int) (a : Int) (hl : l.length ≤ 100000) : fields_U16.f k l a = some (l ++ bytesN (IntKind.u64.wrap a) 2) := by
  unfold fields_U16.f fields_number.f slices_Clone_byte_byte.f
  simp only [Option.bind_some, List.nil_append, List.length_nil, Nat.zero_add]
  rw [if_pos (by omega)]
  simp only [Option.bind_some]
  have := fnum_at (IntKind.u64.wrap a) 2 k l 0 (by omega) (by omega) (by omega)
  rw [show ((0 + 2 : Nat) : Int) = 2 from rfl, show ((0 : Nat) : Int) = 0 from rfl, show (256 : Int) ^ 0 = 1 from rfl, Int.ediv_one] at this
  rw [this]; rfl
def leV : List Int → Int
  | [] => 0
  | c :: r => c + 256 * leV r
theorem leV_range : ∀ (l : List Int), (∀ c ∈ l, 0 ≤ c ∧ c < 256) → 0 ≤ leV l ∧ leV l < 256 ^ l.length
  | [], _ => by simp [leV]
  | c :: r, h => by
    have ih := leV_range r (fun x hx => h x (by simp [hx]))
    have hc := h c (by simp)
    simp only [leV, List.length_cons, Int.pow_succ]
    omega
theorem nstep_add (v c : Int) (hv : 0 ≤ v) (hv1 : v * 256 < 18446744073709551616) (hc : 0 ≤ c) (hc1 : c < 256) : nstep v c = c + 256 * v := by
  unfold nstep
  rw [IntKind.wrap_u64, IntKind.wrap_u64, Int.emod_eq_of_lt (by omega) (by omega), Int.emod_eq_of_lt hc (by omega)]
  have := or_low (m := 8) hv hc (by omega) (by omega) (by omega)
  rw [show ((2 : Int) ^ 8) = 256 from rfl] at this
  rw [this]; omega
theorem numV_leV : ∀ (l : List Int), l.length ≤ 8 → (∀ c ∈ l, 0 ≤ c ∧ c < 256) → numV l = leV l
  | [], _, _ => rfl
  | c :: r, hl, h => by
    have ih := numV_leV r (by simp at hl; omega) (fun x hx => h x (by simp [hx]))
    have hr := leV_range r (fun x hx => h x (by simp [hx]))
    have hc := h c (by simp)
    have hp : (256 : Int) ^ r.length ≤ 256 ^ 7 := by
      simp at hl
      have : r.length = 0 ∨ r.length = 1 ∨ r.length = 2 ∨ r.length = 3 ∨ r.length = 4 ∨ r.length = 5 ∨ r.length = 6 ∨ r.length = 7 := by omega
      rcases this with e | e | e | e | e | e | e | e <;> rw [e] <;> decide
    have e : numV (c :: r) = nstep (numV r) c := by
      unfold numV
      rw [List.reverse_cons, List.foldl_append]; rfl
    rw [e, ih, nstep_add _ _ hr.1 (by omega) hc.1 hc.2]
    rfl
theorem bytesOf_byte (s : ByteArray) : ∀ c ∈ bytesOf s, 0 ≤ c ∧ c < 256 := by
  intro c hc
  unfold bytesOf at hc
  simp only [List.mem_map] at hc
  obtain ⟨u, _, rfl⟩ := hc
  have := u.toNat_lt
  omega
theorem strOf_bytesOf (s : ByteArray) : strOfNums (bytesOf s) = s := by
  unfold strOfNums bytesOf
  simp [List.map_map, Function.comp_def]

theorem kinded_eq (a : Int) : blob_kinded.f a = some (decide (1 ≤ a ∧ a ≤ 6)) := by
  unfold blob_kinded.f
  split
  · congr 1; rw [decide_eq_decide]; omega
  · rw [decide_eq_false (by omega)]
/-- what is ahead of a blob's bytes, and they -/
def body (q : Int) (l : List Int) : List Int := [116, 109, q, (l.length : Int) % 256, (l.length : Int) / 256] ++ l
def sealR (q : Int) (l : List Int) : List Int × Option Int :=
  if 1 ≤ q ∧ q ≤ 6 then (if 1024 < l.length then ([], some 5) else (body q l ++ le4 (mo 0 (body q l)), none)) else ([], some 1)
theorem body_byte {q : Int} {l : List Int} (hq : B8 q) (hl : ∀ c ∈ l, B8 c) (hn : l.length ≤ 1024) : ∀ c ∈ body q l, B8 c := by
  intro c hc
  unfold body at hc
  rcases List.mem_append.1 hc with h | h
  · simp only [List.mem_cons, List.not_mem_nil, or_false] at h
    unfold B8
    unfold B8 at hq
    rcases h with rfl | rfl | rfl | rfl | rfl <;> omega
  · exact hl c h
theorem body_length (q : Int) (l : List Int) : (body q l).length = l.length + 5 := by unfold body; simp
/-- a blob's kind, and how many bytes it has in all -/
def kdOk (l : List Int) : Prop := 5 ≤ l.length ∧ rd l 0 = 116 ∧ rd l 1 = 109 ∧ 1 ≤ rd l 2 ∧ rd l 2 ≤ 6 ∧ rd l 3 + 256 * rd l 4 ≤ 1024
instance (l : List Int) : Decidable (kdOk l) := by unfold kdOk; infer_instance
def kindR (l : List Int) : Int × Int × Option Int := if kdOk l then (rd l 2, 9 + (rd l 3 + 256 * rd l 4), none) else (0, 0, some 3)
theorem rd_byte {l : List Int} (hl : ∀ c ∈ l, B8 c) (j : Nat) (h : j < l.length) : B8 (rd l (j : Int)) := by
  rw [rd_get h]; exact hl _ (List.getElem_mem h)
theorem rkind_eq (l : List Int) (hl : ∀ c ∈ l, B8 c) : fuseeref06_Kind.f l = some ((kindR l).1, (kindR l).2.1, numE (kindR l).2.2) := by
  have hbad : ¬ kdOk l → some ((0 : Int), (0 : Int), (3 : Int)) = some ((kindR l).1, (kindR l).2.1, numE (kindR l).2.2) := fun h => by
    unfold kindR; rw [if_neg h]; rfl
  unfold fuseeref06_Kind.f
  by_cases h5 : (l.length : Int) < 5
  · rw [if_pos h5]; exact hbad (fun q => by have := q.1; omega)
  have h3 := rd_byte hl 3 (by omega)
  have h4 := rd_byte hl 4 (by omega)
  unfold B8 at h3 h4
  rw [show ((3 : Nat) : Int) = 3 from rfl] at h3
  rw [show ((4 : Nat) : Int) = 4 from rfl] at h4
  rw [if_neg h5, if_pos (by omega)]
  by_cases a0 : rd l 0 = 116
  case neg => rw [if_neg a0]; exact hbad (fun q => a0 q.2.1)
  rw [if_pos a0, if_pos (by omega)]
  by_cases a1 : rd l 1 = 109
  case neg => rw [if_neg a1]; exact hbad (fun q => a1 q.2.2.1)
  rw [if_pos a1, if_pos (by omega)]
  by_cases a2 : rd l 2 < 1
  · rw [if_pos a2]; exact hbad (fun q => by have := q.2.2.2.1; omega)
  rw [if_neg a2]
  by_cases a3 : rd l 2 > 6
  · rw [if_pos a3]; exact hbad (fun q => by have := q.2.2.2.2.1; omega)
  rw [if_neg a3, if_pos (by omega), if_pos (by omega)]
  have e3 : wrap64 (rd l 3) = rd l 3 := by unfold wrap64; omega
  have e4 : wrap64 (rd l 4) = rd l 4 := by unfold wrap64; omega
  have e5 : wrap64 (256 * rd l 4) = 256 * rd l 4 := by unfold wrap64; omega
  have e6 : wrap64 (rd l 3 + 256 * rd l 4) = rd l 3 + 256 * rd l 4 := by unfold wrap64; omega
  have e7 : wrap64 (9 + rd l 3) = 9 + rd l 3 := by unfold wrap64; omega
  have e8 : wrap64 (9 + rd l 3 + 256 * rd l 4) = 9 + (rd l 3 + 256 * rd l 4) := by unfold wrap64; omega
  rw [e3, e4, e5, e6, e7, e8]
  by_cases a4 : rd l 3 + 256 * rd l 4 > 1024
  · rw [if_pos a4]; exact hbad (fun q => by have := q.2.2.2.2.2; omega)
  rw [if_neg a4]
  have hok : kdOk l := ⟨by omega, a0, a1, by omega, by omega, by omega⟩
  unfold kindR
  rw [if_pos hok]
  rfl
/-- whether bytes are sealed -/
def okO (l : List Int) : Prop := 4 ≤ l.length ∧ l.take (l.length - 4) ++ le4 (mo 0 (l.take (l.length - 4))) = l
instance (l : List Int) : Decidable (okO l) := by unfold okO; infer_instance
/-- the bytes ahead of their sum -/
def opL (l : List Int) : List Int := if okO l then l.take (l.length - 4) else []
def opE (l : List Int) : Option Int := if okO l then none else some 4
/-- the bytes of a blob of a kind -/
def openR (q : Int) (l : List Int) : List Int × Option Int :=
  if 1 ≤ q ∧ q ≤ 6 then (if (kindR l).2.2.isSome then ([], some 3) else if (kindR l).1 = q ∧ (kindR l).2.1 = l.length then (if okO l then ((l.take (l.length - 4)).drop 5, none) else ([], some 4)) else ([], some 3)) else ([], some 1)
end Go.Proofs.YtnlaiiophongmaaDoor.MCb
