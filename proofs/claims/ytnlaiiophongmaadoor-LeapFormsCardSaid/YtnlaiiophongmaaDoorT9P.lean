/-
  Tables of leap seconds as blobs, in plain numbers.
-/
import Derived.Test.YtnlaiiophongmaaDoorB6
import Derived.Deep.RegionHeld3
import Derived.LoopTactic
namespace Go.Proofs.YtnlaiiophongmaaDoor.MCb
open Go.RowKit Go.Proofs.YtnlaiiophongmaaDoorW.PrintWords Go.Proofs.YtnlaiiophongmaaDoorW.PrintLast Go.Proofs.YtnlaiiophongmaaDoorW.PrintMore
set_option linter.unusedVariables false
set_option linter.unusedSimpArgs false

theorem put_at (n : Int) : ∀ (d k : Nat) (v : Int) (l : List Int) (i : Int), 0 ≤ v → v < 18446744073709551616 → n = i + d → 0 ≤ i → i + d ≤ 1000 → d < k → l.length + d ≤ 1000000 → fuseeref05_Put.l0 k v n l i = some (l ++ bytesN v d) := by
  intro d
  induction d with
  | zero =>
    intro k v l i h0 h1 hi hi0 hi1 hk hl
    obtain ⟨k, rfl⟩ : ∃ m, k = m + 1 := ⟨k - 1, by omega⟩
    simp only [fuseeref05_Put.l0]
    rw [if_neg (by omega)]
    simp [bytesN]
  | succ d ih =>
    intro k v l i h0 h1 hi hi0 hi1 hk hl
    obtain ⟨k, rfl⟩ : ∃ m, k = m + 1 := ⟨k - 1, by omega⟩
    have e1 : IntKind.u64.wrap (Int.tdiv v 256) = v / 256 := by rw [Int.tdiv_eq_ediv_of_nonneg h0, IntKind.wrap_u64]; omega
    have e2 : Int.tmod v 256 % 256 = v % 256 := by rw [Int.tmod_eq_emod_of_nonneg h0]; omega
    have e := ih k (v / 256) (l ++ [v % 256]) (i + 1) (by omega) (by omega) (by omega) (by omega) (by omega) (by omega) (by simp; omega)
    simp only [fuseeref05_Put.l0]
    rw [if_pos (by omega), if_pos (by omega), e1, e2, show wrap64 (i + 1) = i + 1 by unfold wrap64; omega, e, List.append_assoc]
    rfl
theorem put_eq (k : Nat) (d : Nat) (hk : d < k) (hd : d ≤ 8) (l : List Int) (v : Int) (h0 : 0 ≤ v) (h1 : v < 18446744073709551616) (hl : l.length ≤ 100000) : fuseeref05_Put.f k l v (d : Int) = some (l ++ bytesN v d) := by
  unfold fuseeref05_Put.f
  rw [if_pos (by simp; omega), List.nil_append, put_at (d : Int) d k v l 0 h0 h1 (by omega) (by omega) (by omega) hk (by omega)]
theorem i64_app (k : Nat) (hk : 8 < k) (l : List Int) (a : Int) (hl : l.length ≤ 100000) : fields_I64.f k l a = some (l ++ bytesN (IntKind.u64.wrap a) 8) := by
  unfold fields_I64.f fields_number.f slices_Clone_byte_byte.f
  simp only [Option.bind_some, List.nil_append, List.length_nil, Nat.zero_add]
  rw [if_pos (by omega)]
  simp only [Option.bind_some]
  have := fnum_at (IntKind.u64.wrap a) 8 k l 0 (by omega) (by omega) (by omega)
  rw [show ((0 + 8 : Nat) : Int) = 8 from rfl, show ((0 : Nat) : Int) = 0 from rfl, show (256 : Int) ^ 0 = 1 from rfl, Int.ediv_one] at this
  rw [this]; rfl
theorem leV_bytesN : ∀ (n : Nat) (v : Int), 0 ≤ v → leV (bytesN v n) = v % 256 ^ n
  | 0, v, _ => by simp [bytesN, leV, Int.emod_one]
  | n + 1, v, h => by
    simp only [bytesN, leV]
    rw [leV_bytesN n (v / 256) (Int.ediv_nonneg h (by omega)), Int.pow_succ, Int.mul_comm (256 ^ n) 256]
    have e := Int.emod_emod_of_dvd v (show (256 : Int) ∣ 256 * 256 ^ n from ⟨_, rfl⟩)
    have h1 := Int.mul_ediv_add_emod v (256 * 256 ^ n)
    have h2 : v / 256 / 256 ^ n = v / (256 * 256 ^ n) := Int.ediv_ediv_of_nonneg (by omega)
    have h3 := Int.mul_ediv_add_emod (v / 256) (256 ^ n)
    rw [h2] at h3
    have h4 := Int.mul_ediv_add_emod v 256
    have h5 : 256 * (256 ^ n * (v / (256 * 256 ^ n))) = 256 * 256 ^ n * (v / (256 * 256 ^ n)) := (Int.mul_assoc _ _ _).symm
    omega
theorem rd_num (v : Int) (n : Nat) (hn : n ≤ 8) (hv : 0 ≤ v) (T : List Int) : rdNum (bytesN v n ++ T) false n = v % 256 ^ n ∧ rdLeft (bytesN v n ++ T) false n = T ∧ rdBad (bytesN v n ++ T) false n = false := by
  have hl := bytesN_length n v
  have h1 : ¬ (false = true ∨ (bytesN v n ++ T).length < n) := by simp [hl]
  refine ⟨?_, ?_, ?_⟩
  · unfold rdNum
    rw [if_neg h1, List.take_left' hl, numV_leV _ (by omega) (bytesN_byte n v), leV_bytesN n v hv]
  · unfold rdLeft
    rw [if_neg h1, List.drop_left' hl]
  · unfold rdBad
    simp [hl]

def sealedL (q : Int) (l : List Int) : List Int := body q l ++ le4 (mo 0 (body q l))
theorem sealedL_len (q : Int) (l : List Int) : (sealedL q l).length = l.length + 9 := by unfold sealedL; rw [List.length_append, body_length]; simp [le4]
theorem sealedL_byte {q : Int} {l : List Int} (hq : B8 q) (hl : ∀ c ∈ l, B8 c) (hn : l.length ≤ 1024) : ∀ c ∈ sealedL q l, B8 c := fun c hc => by
  unfold sealedL at hc
  rcases List.mem_append.1 hc with z | z
  · exact body_byte hq hl hn c z
  · exact le4_byte _ c z
theorem sealedL_cons (q : Int) (l : List Int) : sealedL q l = 116 :: 109 :: q :: ((l.length : Int) % 256) :: ((l.length : Int) / 256) :: (l ++ le4 (mo 0 (body q l))) := by
  unfold sealedL body
  simp
theorem kind_cons {q a b : Int} {T : List Int} (hq : 1 ≤ q ∧ q ≤ 6) (h : a + 256 * b ≤ 1024) : kindR (116 :: 109 :: q :: a :: b :: T) = (q, 9 + (a + 256 * b), none) := by
  have hok : kdOk (116 :: 109 :: q :: a :: b :: T) := ⟨by simp, rfl, rfl, hq.1, hq.2, h⟩
  unfold kindR
  rw [if_pos hok]
  rfl
theorem sealedL_kind {q : Int} {l : List Int} (hq : 1 ≤ q ∧ q ≤ 6) (hn : l.length ≤ 1024) : kindR (sealedL q l) = (q, ((l.length + 9 : Nat) : Int), none) := by
  rw [sealedL_cons, kind_cons hq (by omega)]
  congr 2
  omega
theorem sealedL_ok (q : Int) (l : List Int) : okO (sealedL q l) ∧ ((sealedL q l).take (l.length + 9 - 4)).drop 5 = l := by
  have hlen := sealedL_len q l
  have hb : (sealedL q l).take (l.length + 5) = body q l := by
    unfold sealedL
    rw [List.take_append_of_le_length (by rw [body_length]; omega), List.take_of_length_le (by rw [body_length]; omega)]
  refine ⟨⟨by omega, ?_⟩, ?_⟩
  · rw [hlen, show l.length + 9 - 4 = l.length + 5 by omega, hb]; rfl
  · rw [show l.length + 9 - 4 = l.length + 5 by omega, hb]; rfl

theorem open_sealed {q : Int} {l : List Int} (hq : 1 ≤ q ∧ q ≤ 6) (hn : l.length ≤ 1024) : openR q (sealedL q l) = (l, none) := by
  have h := sealedL_ok q l
  unfold openR
  rw [if_pos hq, sealedL_kind hq hn]
  simp only [Option.isSome_none, Bool.false_eq_true, if_false]
  rw [if_pos ⟨by simp, by simp [sealedL_len]⟩, if_pos h.1, sealedL_len, h.2]
theorem openR_len (q : Int) (l : List Int) (h : l.length ≤ 1000) : (openR q l).1.length ≤ 1000 := by
  unfold openR
  split
  · split
    · simp
    · split
      · split
        · simp; omega
        · simp
      · simp
  · simp
theorem openR_ne (q : Int) (l : List Int) : (openR q l).2 ≠ some 0 := by
  unfold openR
  split
  · split
    · simp
    · split
      · split <;> simp
      · simp
  · simp
theorem openR_byte (q : Int) (l : List Int) (h : ∀ x ∈ l, B8 x) : ∀ x ∈ (openR q l).1, B8 x := by
  intro x hx
  unfold openR at hx
  split at hx
  · split at hx
    · simp at hx
    · split at hx
      · split at hx
        · exact h x (List.mem_of_mem_take (List.mem_of_mem_drop hx))
        · simp at hx
      · simp at hx
  · simp at hx
theorem seal_sealed {q : Int} {l : List Int} (hq : 1 ≤ q ∧ q ≤ 6) (hn : l.length ≤ 1024) : sealR q l = (sealedL q l, none) := by
  unfold sealR
  rw [if_pos hq, if_neg (by omega)]; rfl
/-- may element i be -/
def rowOk (l : Int) (L : List Int) (i : Nat) : Bool := decide (-50000 ≤ rd L i) && decide (rd L i < l) && (decide (i = 0) || decide (rd L ((i : Int) - 1) < rd L i))
/-- may the d elements from i on be -/
def rowsOk (l : Int) (L : List Int) : Nat → Nat → Bool
  | 0, _ => true
  | d + 1, i => rowOk l L i && rowsOk l L d (i + 1)
def headOk (b l : Int) (L : List Int) : Bool := decide (0 ≤ b) && decide (b ≤ 100) && decide (-50000 ≤ l) && decide (l ≤ 50000) && decide ((L.length : Int) ≤ 32)
def tabOk (b l : Int) (L : List Int) : Bool := headOk b l L && rowsOk l L L.length 0
theorem wrapS {i : Nat} (h : i < 1000) : wrap64 ((i : Int) + 1) = ((i + 1 : Nat) : Int) := by unfold wrap64; omega
theorem check_l0 (b l : Int) (L : List Int) (hL : L.length ≤ 300) : ∀ (d k i : Nat), i + d = L.length → d < k → leap_Check.l0 k L (L.length : Int) (i : Int) b l L = some (if rowsOk l L d i = true then none else some 1) := by
  intro d
  induction d with
  | zero =>
    intro k i hi hk
    obtain ⟨k, rfl⟩ : ∃ m, k = m + 1 := ⟨k - 1, by omega⟩
    simp only [leap_Check.l0]
    rw [if_neg (by omega)]; simp [rowsOk]
  | succ d ih =>
    intro k i hi hk
    obtain ⟨k, rfl⟩ : ∃ m, k = m + 1 := ⟨k - 1, by omega⟩
    have ih' := ih k (i + 1) (by omega) (by omega)
    simp only [leap_Check.l0]
    rw [if_pos (by omega), if_pos (by omega), if_pos (by omega), wrapS (by omega), ih']
    simp only [rowsOk, rowOk]
    by_cases h1 : rd L i < -50000
    · rw [if_pos h1]; simp [show ¬ (-50000 ≤ rd L i) by omega]
    · rw [if_neg h1]
      by_cases h2 : rd L i ≥ l
      · rw [if_pos h2]; simp [show ¬ (rd L i < l) by omega]
      · rw [if_neg h2]
        by_cases h3 : i = 0
        · rw [if_neg (by omega)]; subst h3; simp at h1 h2 ⊢; simp [h1, h2]
        · rw [if_pos (by omega), show wrap64 ((i : Int) - 1) = (i : Int) - 1 from R64.wrap (by unfold R64; omega), if_pos (by omega), if_pos (by omega)]
          by_cases h4 : rd L ((i : Int) - 1) ≥ rd L i
          · rw [if_pos h4]; simp [show ¬ (rd L ((i : Int) - 1) < rd L i) by omega, h3]
          · rw [if_neg h4]; simp [show rd L ((i : Int) - 1) < rd L i by omega, show -50000 ≤ rd L i by omega, show rd L i < l by omega]
theorem check_eq (k : Nat) (b l : Int) (L : List Int) (hL : L.length ≤ 300) (hk : 310 ≤ k) : leap_Check.f k b l L = some (if tabOk b l L = true then none else some 1) := by
  obtain ⟨k, rfl⟩ : ∃ m, k = m + 1 := ⟨k - 1, by omega⟩
  have h0 := check_l0 b l L hL L.length k 0 (by omega) (by omega)
  unfold leap_Check.f tabOk headOk
  by_cases h1 : b < 0
  · rw [if_pos h1]; simp [leap_Check.j0, show ¬ (0 ≤ b) by omega]
  rw [if_neg h1]
  by_cases h2 : b > 100
  · rw [if_pos h2]; simp [leap_Check.j0, show ¬ (b ≤ 100) by omega]
  rw [if_neg h2]
  by_cases h3 : l < -50000
  · rw [if_pos h3]; simp [leap_Check.j0, show ¬ (-50000 ≤ l) by omega]
  rw [if_neg h3]
  by_cases h4 : l > 50000
  · rw [if_pos h4]; simp [leap_Check.j0, show ¬ (l ≤ 50000) by omega]
  rw [if_neg h4]
  simp only [leap_Check.j0]
  by_cases h5 : (L.length : Int) > 32
  · rw [if_pos (by simpa using h5)]; simp [show ¬ ((L.length : Int) ≤ 32) by omega]
  · rw [if_neg (by simpa using h5)]
    refine h0.trans ?_
    simp [show 0 ≤ b by omega, show b ≤ 100 by omega, show -50000 ≤ l by omega, show l ≤ 50000 by omega, show (L.length : Int) ≤ 32 by omega]
theorem may_l0 (b l : Int) (L : List Int) (hL : L.length ≤ 300) : ∀ (d k i : Nat), i + d = L.length → d < k → fuseeref09_May.l0 k (i : Int) b l L = some (headOk b l L && rowsOk l L d i) := by
  intro d
  induction d with
  | zero =>
    intro k i hi hk
    obtain ⟨k, rfl⟩ : ∃ m, k = m + 1 := ⟨k - 1, by omega⟩
    simp only [fuseeref09_May.l0]
    rw [if_neg (by omega)]
    unfold headOk
    by_cases h1 : b ≥ 0 <;> by_cases h2 : b ≤ 100 <;> by_cases h3 : l ≥ -50000 <;> by_cases h4 : l ≤ 50000 <;> simp [rowsOk, h1, h2, h3, h4] <;> omega
  | succ d ih =>
    intro k i hi hk
    obtain ⟨k, rfl⟩ : ∃ m, k = m + 1 := ⟨k - 1, by omega⟩
    have ih' := ih k (i + 1) (by omega) (by omega)
    simp only [fuseeref09_May.l0]
    rw [if_pos (by omega), if_pos (by omega), wrapS (by omega), ih']
    simp only [rowsOk, rowOk]
    by_cases h1 : rd L i < -50000
    · rw [if_pos h1]; simp [show ¬ (-50000 ≤ rd L i) by omega]
    · rw [if_neg h1]
      by_cases h2 : rd L i ≥ l
      · rw [if_pos h2]; simp [show ¬ (rd L i < l) by omega]
      · rw [if_neg h2]
        by_cases h3 : i = 0
        · rw [if_neg (by omega)]; subst h3; simp at h1 h2 ⊢; simp [h1, h2]
        · rw [if_pos (by omega), show wrap64 ((i : Int) - 1) = (i : Int) - 1 from R64.wrap (by unfold R64; omega), if_pos (by omega), if_pos (by omega)]
          by_cases h4 : rd L i ≤ rd L ((i : Int) - 1)
          · rw [if_pos h4]; simp [show ¬ (rd L ((i : Int) - 1) < rd L i) by omega, h3]
          · rw [if_neg h4]; simp [show rd L ((i : Int) - 1) < rd L i by omega, show -50000 ≤ rd L i by omega, show rd L i < l by omega]
theorem may_eq (k : Nat) (b l : Int) (L : List Int) (hL : L.length ≤ 300) (hk : 310 ≤ k) : fuseeref09_May.f k b l L = some (tabOk b l L) := by
  unfold fuseeref09_May.f tabOk
  exact may_l0 b l L hL L.length k 0 (by omega) (by omega)
theorem isTable_l0 (b l : Int) (L : List Int) (hL : L.length ≤ 300) : ∀ (d k i : Nat), i + d = L.length → d < k → fuseelaw09_isTable.l0 k (i : Int) b l L b l L = some true := by
  intro d
  induction d with
  | zero =>
    intro k i hi hk
    obtain ⟨k, rfl⟩ : ∃ m, k = m + 1 := ⟨k - 1, by omega⟩
    simp only [fuseelaw09_isTable.l0]
    rw [if_neg (by omega)]
  | succ d ih =>
    intro k i hi hk
    obtain ⟨k, rfl⟩ : ∃ m, k = m + 1 := ⟨k - 1, by omega⟩
    simp only [fuseelaw09_isTable.l0]
    rw [if_pos (by omega), if_pos (by omega), if_pos (by omega), if_pos trivial, wrapS (by omega)]
    exact ih k (i + 1) (by omega) (by omega)
theorem isTable_eq (k : Nat) (b l : Int) (L : List Int) (hL : L.length ≤ 300) (hk : 310 ≤ k) : fuseelaw09_isTable.f k b l L b l L = some true := by
  obtain ⟨k, rfl⟩ : ∃ m, k = m + 1 := ⟨k - 1, by omega⟩
  unfold fuseelaw09_isTable.f
  rw [if_pos rfl, if_pos rfl]
  simp only [fuseelaw09_isTable.j0]
  rw [if_neg (by simp)]
  exact isTable_l0 b l L hL L.length k 0 (by omega) (by omega)

/-! ### encoding -/
def encs : List Int → List Int
  | [] => []
  | x :: r => bytesN (IntKind.u64.wrap x) 8 ++ encs r
theorem encs_snoc (x : Int) : ∀ l : List Int, encs (l ++ [x]) = encs l ++ bytesN (IntKind.u64.wrap x) 8
  | [] => by simp [encs]
  | y :: r => by simp only [List.cons_append, encs]; rw [encs_snoc x r, List.append_assoc]
theorem encs_length : ∀ l : List Int, (encs l).length = 8 * l.length
  | [] => rfl
  | y :: r => by simp only [encs, List.length_append, List.length_cons, bytesN_length, encs_length r]; omega
theorem encs_byte : ∀ l : List Int, ∀ c ∈ encs l, B8 c
  | [], c, h => by simp [encs] at h
  | y :: r, c, h => by
    rcases List.mem_append.1 h with z | z
    · exact bytesN_byte 8 _ c z
    · exact encs_byte r c z
def headV (b l : Int) (n : Nat) : List Int := bytesN (IntKind.u64.wrap b) 8 ++ (bytesN (IntKind.u64.wrap l) 8 ++ [(n : Int) % 256])
def encV (b l : Int) (L : List Int) : List Int := headV b l L.length ++ encs L
theorem headV_length (b l : Int) (n : Nat) : (headV b l n).length = 17 := by simp [headV, bytesN_length]
theorem encV_length (b l : Int) (L : List Int) : (encV b l L).length = 17 + 8 * L.length := by simp [encV, headV_length, encs_length]
theorem encV_byte (b l : Int) (L : List Int) : ∀ c ∈ encV b l L, B8 c := by
  intro c hc
  unfold encV headV at hc
  simp only [List.mem_append, List.mem_singleton] at hc
  rcases hc with (h | h | rfl) | h
  · exact bytesN_byte 8 _ c h
  · exact bytesN_byte 8 _ c h
  · unfold B8; omega
  · exact encs_byte L c h
def encR (b l : Int) (L : List Int) : List Int × Option Int := if tabOk b l L = true then sealR 5 (encV b l L) else ([], some 1)
theorem tab_len {b l : Int} {L : List Int} (h : tabOk b l L = true) : L.length ≤ 32 := by
  simp only [tabOk, headOk, Bool.and_eq_true, decide_eq_true_eq] at h; omega
theorem encR_ok {b l : Int} {L : List Int} (h : tabOk b l L = true) : encR b l L = (sealedL 5 (encV b l L), none) := by
  unfold encR
  rw [if_pos h, seal_sealed (by omega) (by rw [encV_length]; have := tab_len h; omega)]
/-! ### reading -/
/-- whether a reader is done -/
def rdDone (l : List Int) (bad : Bool) : Option Int := if bad = true ∨ 0 < l.length then some 3 else none
theorem rdLeft_ok {l : List Int} {n : Nat} (h : n ≤ l.length) : rdLeft l false n = l.drop n ∧ rdBad l false n = false := by
  unfold rdLeft rdBad
  rw [if_neg (by simp; omega)]
  simp; omega
theorem rdBad_bad (l : List Int) (n : Nat) : rdBad l true n = true := by simp [rdBad]
theorem rdBad_short {l : List Int} {bad : Bool} {n : Nat} (h : l.length < n) : rdBad l bad n = true := by simp [rdBad, h]
def stp (l : List Int) (bad : Bool) : Nat → List Int × Bool
  | 0 => (l, bad)
  | j + 1 => (rdLeft (stp l bad j).1 (stp l bad j).2 8, rdBad (stp l bad j).1 (stp l bad j).2 8)
def vals (l : List Int) (bad : Bool) : Nat → List Int
  | 0 => []
  | j + 1 => vals l bad j ++ [wrap64 (rdNum (stp l bad j).1 (stp l bad j).2 8)]
theorem vals_length (l : List Int) (bad : Bool) : ∀ j, (vals l bad j).length = j
  | 0 => rfl
  | j + 1 => by simp [vals, vals_length l bad j]
theorem stp_bad (l : List Int) : ∀ j, (stp l true j).2 = true
  | 0 => rfl
  | j + 1 => by show rdBad _ _ 8 = true; rw [stp_bad l j]; exact rdBad_bad _ _
theorem stp_ok (l : List Int) : ∀ j, 8 * j ≤ l.length → stp l false j = (l.drop (8 * j), false)
  | 0, _ => rfl
  | j + 1, h => by
    have e := stp_ok l j (by omega)
    have h2 := rdLeft_ok (l := l.drop (8 * j)) (n := 8) (by rw [List.length_drop]; omega)
    show (rdLeft _ _ 8, rdBad _ _ 8) = _
    rw [e, h2.1, h2.2, List.drop_drop]; rfl
theorem stp_keep (l : List Int) (bad : Bool) (j : Nat) (h : (stp l bad j).2 = true) : ∀ d, (stp l bad (j + d)).2 = true
  | 0 => h
  | d + 1 => by show rdBad (stp l bad (j + d)).1 (stp l bad (j + d)).2 8 = true; rw [stp_keep l bad j h d]; exact rdBad_bad _ _
theorem stp_short (l : List Int) (n : Nat) (h : l.length < 8 * n) : (stp l false n).2 = true := by
  obtain ⟨j, hj⟩ : ∃ j, j = l.length / 8 := ⟨_, rfl⟩
  have e := stp_ok l j (by omega)
  have h1 : (stp l false (j + 1)).2 = true := by
    show rdBad _ _ 8 = true
    rw [e]; exact rdBad_short (by rw [List.length_drop]; omega)
  have := stp_keep l false (j + 1) h1 (n - (j + 1))
  rwa [show j + 1 + (n - (j + 1)) = n by omega] at this
/-- what is left behind the three first fields -/
def s1 (i : List Int) : List Int × Bool := (rdLeft i false 8, rdBad i false 8)
def s2 (i : List Int) : List Int × Bool := (rdLeft (s1 i).1 (s1 i).2 8, rdBad (s1 i).1 (s1 i).2 8)
def s3 (i : List Int) : List Int × Bool := (rdLeft (s2 i).1 (s2 i).2 1, rdBad (s2 i).1 (s2 i).2 1)
def tB (i : List Int) : Int := wrap64 (rdNum i false 8)
def tE (i : List Int) : Int := wrap64 (rdNum (s1 i).1 (s1 i).2 8)
def tN (i : List Int) : Nat := (IntKind.u8.wrap (rdNum (s2 i).1 (s2 i).2 1)).toNat
def tL (i : List Int) : List Int := vals (s3 i).1 (s3 i).2 (tN i)
theorem tN_lt (i : List Int) : tN i < 256 := by unfold tN; rw [IntKind.wrap_u8]; omega
theorem tN_eq (i : List Int) : ((tN i : Nat) : Int) = IntKind.u8.wrap (rdNum (s2 i).1 (s2 i).2 1) := by unfold tN; rw [IntKind.wrap_u8]; omega
theorem s_ok {i : List Int} (h : 17 ≤ i.length) : s1 i = (i.drop 8, false) ∧ s2 i = (i.drop 16, false) ∧ s3 i = (i.drop 17, false) := by
  have h1 := rdLeft_ok (l := i) (n := 8) (by omega)
  have e1 : s1 i = (i.drop 8, false) := by unfold s1; rw [h1.1, h1.2]
  have h2 := rdLeft_ok (l := i.drop 8) (n := 8) (by rw [List.length_drop]; omega)
  have e2 : s2 i = (i.drop 16, false) := by unfold s2; rw [e1, h2.1, h2.2, List.drop_drop]
  have h3 := rdLeft_ok (l := i.drop 16) (n := 1) (by rw [List.length_drop]; omega)
  have e3 : s3 i = (i.drop 17, false) := by unfold s3; rw [e2, h3.1, h3.2, List.drop_drop]
  exact ⟨e1, e2, e3⟩
theorem s_short {i : List Int} (h : i.length < 17) : (s3 i).2 = true := by
  by_cases h8 : 8 ≤ i.length
  · have h1 := rdLeft_ok (l := i) (n := 8) h8
    have e1 : s1 i = (i.drop 8, false) := by unfold s1; rw [h1.1, h1.2]
    by_cases h16 : 16 ≤ i.length
    · have h2 := rdLeft_ok (l := i.drop 8) (n := 8) (by rw [List.length_drop]; omega)
      have e2 : s2 i = (i.drop 16, false) := by unfold s2; rw [e1, h2.1, h2.2, List.drop_drop]
      show rdBad _ _ 1 = true
      rw [e2]; exact rdBad_short (by rw [List.length_drop]; omega)
    · have e2 : (s2 i).2 = true := by show rdBad _ _ 8 = true; rw [e1]; exact rdBad_short (by rw [List.length_drop]; omega)
      show rdBad _ _ 1 = true
      rw [e2]; exact rdBad_bad _ _
  · have e1 : (s1 i).2 = true := by show rdBad i false 8 = true; exact rdBad_short (by omega)
    have e2 : (s2 i).2 = true := by show rdBad _ _ 8 = true; rw [e1]; exact rdBad_bad _ _
    show rdBad _ _ 1 = true
    rw [e2]; exact rdBad_bad _ _
theorem numV_one {x : Int} (h : B8 x) : numV [x] = x := by
  rw [numV_leV [x] (by simp) (by intro c hc; simp at hc; subst hc; exact h)]; simp [leV]
theorem tN_ok {i : List Int} (hi : ∀ c ∈ i, B8 c) (h : 17 ≤ i.length) : tN i = (rd i 16).toNat ∧ B8 (rd i 16) ∧ IntKind.u8.wrap (rdNum (i.drop 16) false 1) = rd i 16 := by
  have hb := rd_byte hi 16 (by omega)
  rw [show ((16 : Nat) : Int) = 16 from rfl] at hb
  have ht : (i.drop 16).take 1 = [rd i 16] := by
    rw [List.drop_eq_getElem_cons (by omega)]
    simp only [List.take_succ_cons, List.take_zero]
    congr 1
    unfold rd
    rw [show (16 : Int).toNat = 16 from rfl, List.getD, List.getElem?_eq_getElem (by omega)]; rfl
  have e : rdNum (i.drop 16) false 1 = rd i 16 := by
    unfold rdNum
    rw [if_neg (by simp [List.length_drop]; omega), ht, numV_one hb]
  have e2 : IntKind.u8.wrap (rd i 16) = rd i 16 := by rw [IntKind.wrap_u8]; unfold B8 at hb; omega
  refine ⟨?_, hb, by rw [e, e2]⟩
  unfold tN
  rw [(s_ok h).2.1, e, e2]
def lenOk (i : List Int) : Prop := 17 ≤ i.length ∧ i.length = 17 + 8 * tN i
instance (i : List Int) : Decidable (lenOk i) := by unfold lenOk; infer_instance
theorem fin_eq (i : List Int) : rdDone (stp (s3 i).1 (s3 i).2 (tN i)).1 (stp (s3 i).1 (s3 i).2 (tN i)).2 = if lenOk i then none else some 3 := by
  by_cases h : 17 ≤ i.length
  · rw [(s_ok h).2.2]
    dsimp only
    by_cases h2 : (i.drop 17).length < 8 * tN i
    · have := stp_short (i.drop 17) (tN i) h2
      rw [if_neg (by intro q; have := q.2; rw [List.length_drop] at h2; omega)]
      unfold rdDone; rw [if_pos (Or.inl this)]
    · rw [stp_ok _ _ (by omega)]
      unfold rdDone
      by_cases h3 : lenOk i
      · rw [if_pos h3, if_neg (by have := h3.2; simp [List.length_drop]; omega)]
      · rw [if_neg h3, if_pos]
        right
        rw [List.length_drop, List.length_drop]
        rw [List.length_drop] at h2
        have : i.length ≠ 17 + 8 * tN i := fun q => h3 ⟨h, q⟩
        omega
  · rw [if_neg (by intro q; exact h q.1)]
    have := stp_bad (s3 i).1 (tN i)
    unfold rdDone
    rw [s_short (by omega), if_pos (Or.inl this)]
def decRes (i : List Int) : (Int × Int × List Int) × Option Int := if lenOk i ∧ tabOk (tB i) (tE i) (tL i) = true then ((tB i, tE i, tL i), none) else ((0, 0, []), some 3)
def decR (b : List Int) : (Int × Int × List Int) × Option Int := if (openR 5 b).2 = none then decRes (openR 5 b).1 else ((0, 0, []), (openR 5 b).2)
/-! ### there and back -/
theorem i64_back {a : Int} (h : R64 a) : wrap64 (IntKind.u64.wrap a % 256 ^ 8) = a := by
  rw [IntKind.wrap_u64, show (256 : Int) ^ 8 = 18446744073709551616 from rfl]; unfold R64 at h; unfold wrap64; omega
theorem stp_encs (L : List Int) : ∀ j, j ≤ L.length → stp (encs L) false j = (encs (L.drop j), false)
  | 0, _ => rfl
  | j + 1, h => by
    have e := stp_encs L j (by omega)
    have hd : L.drop j = L[j] :: L.drop (j + 1) := List.drop_eq_getElem_cons (by omega)
    have hr := rd_num (IntKind.u64.wrap L[j]) 8 (by omega) (u64_range _).1 (encs (L.drop (j + 1)))
    show (rdLeft _ _ 8, rdBad _ _ 8) = _
    rw [e, hd]
    show (rdLeft (bytesN _ 8 ++ _) false 8, rdBad (bytesN _ 8 ++ _) false 8) = _
    rw [hr.2.1, hr.2.2]
theorem vals_encs (L : List Int) (hL : ∀ x ∈ L, R64 x) : ∀ j, j ≤ L.length → vals (encs L) false j = L.take j
  | 0, _ => rfl
  | j + 1, h => by
    have hd : L.drop j = L[j] :: L.drop (j + 1) := List.drop_eq_getElem_cons (by omega)
    have hr := rd_num (IntKind.u64.wrap L[j]) 8 (by omega) (u64_range _).1 (encs (L.drop (j + 1)))
    show vals _ _ j ++ [wrap64 (rdNum (stp _ _ j).1 (stp _ _ j).2 8)] = _
    rw [vals_encs L hL j (by omega), stp_encs L j (by omega), hd]
    show _ ++ [wrap64 (rdNum (bytesN _ 8 ++ _) false 8)] = _
    rw [hr.1, i64_back (hL _ (List.getElem_mem _)), List.take_succ_eq_append_getElem (by omega)]
theorem enc_back {b l : Int} {L : List Int} (hb : R64 b) (hl : R64 l) (hL : ∀ x ∈ L, R64 x) (hn : L.length ≤ 255) : tB (encV b l L) = b ∧ tE (encV b l L) = l ∧ tN (encV b l L) = L.length ∧ tL (encV b l L) = L ∧ lenOk (encV b l L) := by
  have h1 := rd_num (IntKind.u64.wrap b) 8 (by omega) (u64_range _).1 (bytesN (IntKind.u64.wrap l) 8 ++ ((L.length : Int) % 256 :: encs L))
  have h2 := rd_num (IntKind.u64.wrap l) 8 (by omega) (u64_range _).1 ((L.length : Int) % 256 :: encs L)
  have h3 := rd_num (L.length : Int) 1 (by omega) (by omega) (encs L)
  have e : encV b l L = bytesN (IntKind.u64.wrap b) 8 ++ (bytesN (IntKind.u64.wrap l) 8 ++ ((L.length : Int) % 256 :: encs L)) := by simp [encV, headV]
  have hb1 : bytesN (L.length : Int) 1 ++ encs L = (L.length : Int) % 256 :: encs L := rfl
  rw [hb1] at h3
  have e1 : s1 (encV b l L) = (bytesN (IntKind.u64.wrap l) 8 ++ ((L.length : Int) % 256 :: encs L), false) := by unfold s1; rw [e, h1.2.1, h1.2.2]
  have e2 : s2 (encV b l L) = ((L.length : Int) % 256 :: encs L, false) := by unfold s2; rw [e1, h2.2.1, h2.2.2]
  have e3 : s3 (encV b l L) = (encs L, false) := by unfold s3; rw [e2, h3.2.1, h3.2.2]
  have hN : tN (encV b l L) = L.length := by
    unfold tN; rw [e2, h3.1, IntKind.wrap_u8, show (256 : Int) ^ 1 = 256 from rfl]; omega
  refine ⟨?_, ?_, hN, ?_, ?_⟩
  · unfold tB; rw [e, h1.1, i64_back hb]
  · unfold tE; rw [e1, h2.1, i64_back hl]
  · unfold tL; rw [e3, hN, vals_encs L hL _ (Nat.le_refl _), List.take_length]
  · exact ⟨by rw [encV_length]; omega, by rw [encV_length, hN]⟩
theorem dec_back {b l : Int} {L : List Int} (hb : R64 b) (hl : R64 l) (hL : ∀ x ∈ L, R64 x) (h : tabOk b l L = true) : decR (encR b l L).1 = ((b, l, L), none) := by
  have hn := tab_len h
  have hq := enc_back hb hl hL (by omega)
  rw [encR_ok h]
  unfold decR
  rw [open_sealed (by omega) (by rw [encV_length]; omega), if_pos rfl]
  unfold decRes
  rw [hq.1, hq.2.1, hq.2.2.2.1, if_pos ⟨hq.2.2.2.2, h⟩]
open Go.RowKit Go.Proofs.YtnlaiiophongmaaDoorW.PrintWords Go.Proofs.YtnlaiiophongmaaDoorW.PrintLast Go.Proofs.YtnlaiiophongmaaDoorW.PrintMore

theorem same_block {A : Option Addr} {c k : Nat} {a : Addr} (h : (if c = k then A else A.map (·.add (k * 1))) = some a) : ∃ a0, A = some a0 ∧ a.block = a0.block := by
  split at h
  · exact ⟨a, h, rfl⟩
  · cases A with
    | none => cases h
    | some b => injection h with h; subst h; exact ⟨b, rfl, add_block b _⟩
theorem leV_step (l : List Int) (hby : ∀ x ∈ l, 0 ≤ x ∧ x < 256) (hl : l.length ≤ 8) (j : Nat) (c : Int) (hj : l[j]? = some c) : IntKind.u64.wrap (IntKind.u64.wrap (256 * leV (l.drop (j + 1))) + IntKind.u64.wrap c) = leV (l.drop j) := by
  obtain ⟨h, hc⟩ := List.getElem?_eq_some_iff.1 hj
  have e : leV (l.drop j) = c + 256 * leV (l.drop (j + 1)) := by rw [List.drop_eq_getElem_cons h, hc]; rfl
  have r1 := leV_range (l.drop (j + 1)) (fun x hx => hby x (List.mem_of_mem_drop hx))
  have r0 := leV_range (l.drop j) (fun x hx => hby x (List.mem_of_mem_drop hx))
  have rc := hby c (by rw [← hc]; exact List.getElem_mem h)
  have hp : (256 : Int) ^ (l.drop j).length ≤ 18446744073709551616 := by
    have h8 : (l.drop j).length ≤ 8 := by rw [List.length_drop]; omega
    have : (l.drop j).length = 0 ∨ (l.drop j).length = 1 ∨ (l.drop j).length = 2 ∨ (l.drop j).length = 3 ∨ (l.drop j).length = 4 ∨ (l.drop j).length = 5 ∨ (l.drop j).length = 6 ∨ (l.drop j).length = 7 ∨ (l.drop j).length = 8 := by omega
    rcases this with e | e | e | e | e | e | e | e | e <;> rw [e] <;> decide
  rw [e] at r0 ⊢
  rw [IntKind.wrap_u64, IntKind.wrap_u64, IntKind.wrap_u64]
  omega
set_option maxRecDepth 100000 in
theorem ref_take (n : Nat) (h1n : 1 ≤ n) (hn8 : n ≤ 8) (A : Option Addr) (m c : Nat) (l : List Int) (bad : Bool) (w : World) (h : Sl w A m c l) (hby : ∀ x ∈ l, 0 ≤ x ∧ x < 256) (hm : m ≤ 1000) :
    Calls Tryd.prog 102 #[.agg #[.slice A m c, .bool bad], .int .i64 (n : Int)] w fun e w' => ∃ A' m' c', e = .returned (.tuple #[.agg #[.slice A' m' c', .bool (rdBad l bad n)], .int .u64 (rdNum l bad n)]) ∧ Sl w' A' m' c' (rdLeft l bad n) ∧ (∀ a, A' = some a → ∃ a0, A = some a0 ∧ a.block = a0.block) ∧ Below w.heap.size w w' := by
  have hlen : Aside0 (m = l.length) := ⟨h.len⟩
  obtain ⟨w1, hw1⟩ : ∃ w1, w1 = w.alloc (.cells #[.slice A m c, .bool bad] 165) := ⟨_, rfl⟩
  obtain ⟨w2, hw2⟩ : ∃ w2, w2 = w1.alloc (.cells #[.slice none 0 0, .bool false] 165) := ⟨_, rfl⟩
  have hb1 : Below w.heap.size w w1 := by rw [hw1]; exact (Below.refl _ w).alloc (Nat.le_refl _) _
  have hb2 : Below w.heap.size w w2 := by rw [hw2]; exact hb1.alloc hb1.size _
  have h1 : w1.heap[w.heap.size]? = some (.cells #[.slice A m c, .bool bad] 165 (0, 0)) := by rw [hw1]; exact heap_alloc_new w _
  have hlt : w.heap.size < w1.heap.size := (Array.getElem?_eq_some_iff.1 h1).1
  have h2 : w2.heap[w.heap.size]? = some (.cells #[.slice A m c, .bool bad] 165 (0, 0)) := by rw [hw2]; exact (heap_alloc_old w1 _ hlt).trans h1
  have h3 : w2.heap[w1.heap.size]? = some (.cells #[.slice none 0 0, .bool false] 165 (0, 0)) := by rw [hw2]; exact heap_alloc_new w1 _
  have hsz : w1.heap.size = w.heap.size + 1 := by rw [hw1]; simp
  rw [hsz] at h3
  have hS2 := h.below hb2
  have HX := Lib.hid (And.intro h2 (And.intro h3 (And.intro hb2 (And.intro hS2 hsz))))
  have HW1 := Lib.hid hw1
  have HW2 := Lib.hid hw2
  have b0 : w2.cell? ⟨w.heap.size, 0, none⟩ = some (.slice A m c) := (blk_cell h2 0).trans rfl
  have b1 : w2.cell? ⟨w.heap.size, 1, none⟩ = some (.bool bad) := (blk_cell h2 1).trans rfl
  have bf0 := blk_frozen h2 0
  have bf1 := blk_frozen h2 1
  have hd0 : w2.cell? ⟨w.heap.size + 1, 0, none⟩ = some (.slice none 0 0) := (blk_cell h3 0).trans rfl
  have hd1 : w2.cell? ⟨w.heap.size + 1, 1, none⟩ = some (.bool false) := (blk_cell h3 1).trans rfl
  have hg0 := blk_frozen h3 0
  have hg1 := blk_frozen h3 1
  have HC := Lib.hid (And.intro b0 (And.intro b1 (And.intro bf0 (And.intro bf1 (And.intro hd0 (And.intro hd1 (And.intro hg0 hg1)))))))
  clear b0 b1 bf0 bf1 hd0 hd1 hg0 hg1
  clear h1 h2 h3 hb1 hb2 hS2 hw1 hw2 hlt
  have HSZ := Lib.hid hsz
  clear hsz
  have H0 := Lib.hid (And.intro h hby)
  clear h hby
  by_cases hs : bad = true ∨ l.length < n
  · have e1 : rdBad l bad n = true := by unfold rdBad; rcases hs with h | h <;> simp [h]
    have e2 : rdLeft l bad n = [] := by unfold rdLeft; rw [if_pos hs]
    have e3 : rdNum l bad n = 0 := by unfold rdNum; rw [if_pos hs]
    rw [e1, e2, e3]
    obtain ⟨wz, hwz⟩ : ∃ wz, wz = w1.alloc (.cells #[.slice none 0 0, .bool true] 165) := ⟨_, rfl⟩
    have hz3 : wz.heap[w.heap.size + 1]? = some (.cells #[.slice none 0 0, .bool true] 165 (0, 0)) := by rw [hwz, ← HSZ.out]; exact heap_alloc_new w1 _
    have hzb : Below w.heap.size w wz := by
      have hb1 : Below w.heap.size w w1 := by rw [HW1.out]; exact (Below.refl _ w).alloc (Nat.le_refl _) _
      rw [hwz]; exact hb1.alloc hb1.size _
    have HZ := Lib.hid (And.intro hwz (And.intro hz3 hzb))
    clear hwz hz3 hzb e1 e2 e3
    have hend : ∃ A' m' c', Ending.returned (.tuple #[.agg #[.slice none 0 0, .bool true], .int .u64 0]) = .returned (.tuple #[.agg #[.slice A' m' c', .bool true], .int .u64 0]) ∧ Sl wz A' m' c' [] ∧ (∀ a, A' = some a → ∃ a0, A = some a0 ∧ a.block = a0.block) ∧ Below w.heap.size w wz := ⟨none, 0, 0, rfl, Sl.nil wz, (fun a ha => nomatch ha), HZ.out.2.2⟩
    have HE := Lib.hid hend
    clear hend
    cases bad with
    | true =>
      clear hs
      go_enter Tryd.func102, Tryd.ntmps102
      go_wp2_with (fail)
      rw [← HW1.out, ← HZ.out.1]
      refine bodyPost_ret (results_ct rfl _ wz (w.heap.size + 1) 165 #[.slice none 0 0, .bool true] (0, 0) _ rfl HZ.out.2.1 Tryd.underlying165 rfl (by kernel_rfl)) rfl ?_
      exact HE.out
    | false =>
      have hq : (m : Int) < (n : Int) := by have := hs.resolve_left (by simp); have := hlen.out; omega
      clear hs
      go_enter Tryd.func102, Tryd.ntmps102
      go_wp2_with (fail)
      rw [← HW1.out, ← HZ.out.1]
      refine bodyPost_ret (results_ct rfl _ wz (w.heap.size + 1) 165 #[.slice none 0 0, .bool true] (0, 0) _ rfl HZ.out.2.1 Tryd.underlying165 rfl (by kernel_rfl)) rfl ?_
      exact HE.out
  · obtain ⟨hbad, hnl⟩ : bad = false ∧ n ≤ l.length := by
      cases bad
      · exact ⟨rfl, by omega⟩
      · exact absurd (Or.inl rfl) hs
    subst hbad
    have hnm : n ≤ m := by have := hlen.out; omega
    have e1 : rdBad l false n = false := by unfold rdBad; simp; omega
    have e2 : rdLeft l false n = l.drop n := by unfold rdLeft; rw [if_neg hs]
    have e3 : rdNum l false n = numV (l.take n) := by unfold rdNum; rw [if_neg hs]
    obtain ⟨lt, hlt⟩ : ∃ lt, lt = l.take n := ⟨_, rfl⟩
    have hll : lt.length = n := by rw [hlt, List.length_take]; omega
    have hbt : ∀ x ∈ lt, 0 ≤ x ∧ x < 256 := fun x hx => H0.out.2 x (by rw [hlt] at hx; exact List.mem_of_mem_take hx)
    rw [e1, e2, e3, ← hlt, numV_leV lt (by omega) hbt]
    have HT := Lib.hid (And.intro hlt (And.intro hll hbt))
    have HB := Lib.hid (And.intro hnl hnm)
    have hnq : ¬ (m : Int) < (n : Int) := by omega
    have hn0 : (0 : Int) ≤ (n : Int) := by omega
    have hn1 : (n : Int) ≤ 8 := by omega
    clear hs e1 e2 e3 hlt hll hbt hnl hnm h1n hn8
    go_enter Tryd.func102, Tryd.ntmps102
    go_wp2_with (fail)
    rw [← HW1.out, ← HW2.out]
    go_loopw [6, 7] (fun v6 v7 wr => wr = w2 ∧ ∃ (j : Nat) (x : Int), Aside0 (j ≤ n ∧ x = (j : Int) - 1) ∧ v7 = .int .i64 x ∧ v6 = .int .u64 (leV (lt.drop j)))
      (fun _ v7 _ => match v7 with | .int _ n => (n + 1).toNat | _ => 0)
    case atStart => exact ⟨rfl, n, _, ⟨Nat.le_refl _, rfl⟩, rfl, by rw [List.drop_eq_nil_of_le (by have := HT.out.2.1; omega)]; rfl⟩
    case round =>
      obtain ⟨rfl, j, x, hj, rfl, rfl⟩ := hrel
      by_cases h0 : 0 ≤ x
      · have hq : x < (l.length : Int) := by have := hj.out; have := HB.out; omega
        have hC8 : (Kd.int .u8).C wr A l.length l := HX.out.2.2.2.1.rd
        obtain ⟨ad, e_, hx0⟩ := Kd.at_int hC8 x h0 hq
        subst e_
        have hqm : x < (m : Int) := by have := hlen.out; omega
        have hc0 := HC.out.1
        have hf0 := HC.out.2.2.1
        have hstep : Aside0 (IntKind.u64.wrap (IntKind.u64.wrap (256 * leV (lt.drop j)) + IntKind.u64.wrap (rd l x)) = leV (lt.drop (j - 1))) := ⟨by
          have hjj := hj.out
          have hll := HT.out.2.1
          have e1 : lt[j - 1]? = some (rd l x) := by
            have : x.toNat = j - 1 := by omega
            rw [HT.out.1, List.getElem?_take_of_lt (by omega), rd, this, List.getD, List.getElem?_eq_getElem (by have := HB.out; omega)]; rfl
          have := leV_step lt HT.out.2.2 (by omega) (j - 1) _ e1
          rw [show j - 1 + 1 = j by omega] at this
          exact this⟩
        have p_ := eq_true h0
        have q_ := eq_true hqm
        clear hC8 hq
        go_wp2
        refine ⟨⟨trivial, j - 1, x - 1, ⟨by have := hj.out; omega⟩, rfl, by rw [← hstep.out]⟩, ?_⟩
        show (x - 1 + 1).toNat < (x + 1).toNat
        omega
      · have hj0 : j = 0 := by have := hj.out; omega
        subst hj0
        have hx : x = -1 := by have := hj.out; omega
        subst hx
        obtain ⟨i0, hi0, _, hsz, _⟩ := info_parts info5
        have cut2 := cut_from (P := Tryd.prog) 47 5 .i64 Tryd.underlying47 hi0 1 hsz A m c (n : Int) (by omega) (by have := HB.out; omega)
        have hc0 := HC.out.1
        have hf0 := HC.out.2.2.1
        have hd0 := HC.out.2.2.2.2.1
        have hd1 := HC.out.2.2.2.2.2.1
        have hg0 := HC.out.2.2.2.2.2.2.1
        have hg1 := HC.out.2.2.2.2.2.2.2
        simp only [Int.toNat_natCast] at cut2
        obtain ⟨A3, hA3⟩ : ∃ A3, A3 = (if c = n then A else A.map (·.add (n * 1))) := ⟨_, rfl⟩
        rw [← hA3] at cut2
        have HA3 := Lib.hid hA3
        clear hi0 hsz hA3
        go_wp2_with (fail)
        obtain ⟨wz, hwz⟩ : ∃ wz, wz = (wr.setCell ⟨w.heap.size + 1, 0, none⟩ (.slice A3 (m - n) (c - n))).setCell ⟨w.heap.size + 1, 1, none⟩ (.bool false) := ⟨_, rfl⟩
        have hz3 : wz.heap[w.heap.size + 1]? = some (.cells #[.slice A3 (m - n) (c - n), .bool false] 165 (0, 0)) := by
          rw [hwz]
          exact blk_put (cs := #[.slice A3 (m - n) (c - n), .bool false]) (blk_put (cs := #[.slice none 0 0, .bool false]) HX.out.2.1 0 _ rfl) 1 _ rfl
        have hzb : Below w.heap.size w wz := by
          rw [hwz]
          exact (HX.out.2.2.1.setCell (Nat.le_succ _) _).setCell (Nat.le_succ _) _
        rw [← hwz]
        refine bodyPost_ret (results_ct rfl _ wz (w.heap.size + 1) 165 #[.slice A3 (m - n) (c - n), .bool false] (0, 0) _ rfl hz3 Tryd.underlying165 rfl (by kernel_rfl)) rfl ?_
        refine ⟨A3, m - n, c - n, rfl, ?_, ?_, hzb⟩
        · rw [HA3.out]; exact (H0.out.1.drop HB.out.2).below hzb
        · intro a ha; rw [HA3.out] at ha; exact same_block ha
open Go.RowKit Go.Proofs.YtnlaiiophongmaaDoorW.PrintWords Go.Proofs.YtnlaiiophongmaaDoorW.PrintLast Go.Proofs.YtnlaiiophongmaaDoorW.PrintMore

theorem rsealed_R {w : World} {A : Option Addr} {n c : Nat} {l : List Int} (h : Sl w A n c l) (hl : ∀ x ∈ l, B8 x) (hn : n ≤ 1900) :
    Calls Tryd.prog 122 #[.slice A n c] w fun e w' => ∃ v, e = .returned v ∧ Kd.R (Kd.int .u8) 5 w' w.heap.size (fun _ => True) v (l ++ le4 (mo 0 l)) ∧ Below w.heap.size w w' := by
  obtain ⟨hC, hn', hc⟩ := h
  subst hn'
  refine (fuseeref04_Sealed.calls 30000 A c l _ w hC hc (rsealed_eq 30000 l hl (by omega) (by omega))).mono ?_
  rintro e w' ⟨v, rfl, hR, hb⟩
  exact ⟨v, rfl, hR, hb⟩
theorem seal_R {w : World} {A : Option Addr} {n c : Nat} {l : List Int} (q : Int) (hq : B8 q) (h : Sl w A n c l) (hl : ∀ x ∈ l, B8 x) (hn : n ≤ 5000) :
    Calls Tryd.prog 93 #[.int .u8 q, .slice A n c] w fun e w' => ∃ v, e = .returned (.tuple #[v, errW (sealR q l).2]) ∧ Kd.R (Kd.int .u8) 5 w' w.heap.size (fun _ => True) v (sealR q l).1 ∧ Below w.heap.size w w' := by
  obtain ⟨hC, hn', hc⟩ := h
  subst hn'
  refine (blob_Seal.calls 20000 q (fun k => k < w.heap.size) A c l (sealR q l).1 (sealR q l).2 w (Kd.V_mk hc (Kd.C_F (Kd.heap_int .u8) hC)) (seal_eq 20000 (Nat.le_refl _) q l hq hl hn)).mono ?_
  rintro e w' ⟨v, rfl, hR, hb⟩
  exact ⟨v, rfl, Kd.R_mono hR (fun _ _ => trivial), hb⟩
set_option maxRecDepth 100000 in
set_option maxHeartbeats 4000000 in
theorem rseal_R {w : World} {A : Option Addr} {n c : Nat} {l : List Int} (q : Int) (hq : B8 q) (h : Sl w A n c l) (hl : ∀ x ∈ l, B8 x) (hn : n ≤ 5000) :
    Calls Tryd.prog 95 #[.int .u8 q, .slice A n c] w fun e w' => ∃ v, e = .returned (.tuple #[v, .int .i64 (numE (sealR q l).2)]) ∧ Kd.R (Kd.int .u8) 5 w' w.heap.size (fun _ => True) v (sealR q l).1 ∧ Below w.heap.size w w' := by
  have hlen := h.len
  by_cases hk : 1 ≤ q ∧ q ≤ 6
  · by_cases hb : 1024 < l.length
    · have e : sealR q l = ([], some 5) := by unfold sealR; rw [if_pos hk, if_pos hb]
      rw [e]
      have h1 : ¬ q < 1 := by omega
      have h2 : ¬ 6 < q := by omega
      have h3 : (1024 : Int) < (n : Int) := by omega
      clear h hl hn hlen hk hb e hq
      go_enter Tryd.func95, Tryd.ntmps95
      go_wp2
      go_ret2
      exact ⟨.slice none 0 0, rfl, Kd.R_nil _ _ _ _ _, Below.refl _ _⟩
    · have e : sealR q l = (body q l ++ le4 (mo 0 (body q l)), none) := by unfold sealR; rw [if_pos hk, if_neg hb]
      rw [e]
      have h1 : ¬ q < 1 := by omega
      have h2 : ¬ 6 < q := by omega
      have h3 : ¬ (1024 : Int) < (n : Int) := by omega
      have hbb := body_byte hq hl (by omega)
      have hbl := body_length q l
      obtain ⟨x3, hx3⟩ : ∃ x, x = (n : Int) % 256 := ⟨_, rfl⟩
      obtain ⟨x4, hx4⟩ : ∃ x, x = (n : Int) / 256 := ⟨_, rfl⟩
      have t3 : Int.tmod (n : Int) 256 = x3 := by rw [hx3, Int.tmod_eq_emod_of_nonneg (by omega)]
      have t4 : Int.tdiv (n : Int) 256 = x4 := by rw [hx4, Int.tdiv_eq_ediv_of_nonneg (by omega)]
      have hx3' := hx3.symm
      have hx4' := hx4.symm
      have u3 : IntKind.u8.wrap x3 = x3 := by show x3 % 256 = x3; omega
      have u4 : IntKind.u8.wrap x4 = x4 := by show x4 % 256 = x4; omega
      have v3 : wrap64 x3 = x3 := by unfold wrap64; omega
      have v4 : wrap64 x4 = x4 := by unfold wrap64; omega
      have z3 : x3 % 256 = x3 := by omega
      have z4 : x4 % 256 = x4 := by omega
      have hlist : Aside0 ([116, 109, q, x3, x4] ++ l = body q l) := ⟨by unfold body; rw [hx3, hx4, hlen]⟩
      obtain ⟨mb, hmb⟩ : ∃ mb : Nat, mb = n + 5 := ⟨_, rfl⟩
      have hSe : ∀ W A' c', Sl W A' mb c' (body q l) → Calls Tryd.prog 122 #[.slice A' mb c'] W fun e w' => ∃ v, e = .returned v ∧ Kd.R (Kd.int .u8) 5 w' W.heap.size (fun _ => True) v (body q l ++ le4 (mo 0 (body q l))) ∧ Below W.heap.size W w' := fun W A' c' hW => rsealed_R hW hbb (by have := hW.len; omega)
      have H0 := Aside0.mk (And.intro h (And.intro hlen (And.intro hmb hbl)))
      clear h hl hn hlen hk hb e hq hx3 hx4 hmb hbb hbl
      go_enter Tryd.func95, Tryd.ntmps95
      go_upto_region 6 with (fail)
      have hown := own_lit w w.heap.size 5 .u8 [116, 109, q, x3, x4] (Nat.le_refl _) (by simp)
      have HO := Aside0.mk (Kd.R_of_own (enc := Value.int .u8) (h1 := fun _ => rfl) (xs := [116, 109, q, x3, x4]) (ok := fun _ => True) hown (fun _ _ => trivial))
      have HB1 := Aside0.mk ((Below.refl _ w).alloc (Nat.le_refl _) (.cells #[.int .u8 116, .int .u8 109, .int .u8 q, .int .u8 x3, .int .u8 x4] 5))
      have rowA : ∀ W, Sl W A n c l → (Kd.int .u8).C W A n l := fun W h => by have := h.rd; rw [← h.len] at this; exact this
      have RA := Aside0.mk rowA
      clear hown rowA
      go_wp2_with (first
        | ((with_reducible refine gate_builtin (b := .append) (xs := #[.tmp 26, .tmp 27]) rfl ?_); at_builtin; refine Kd.R_append_rows (Kd.int .u8) (w0 := w) w.heap.size rfl (.tmp 26) (.tmp 27) 47 5 (.int .u8 0) 1 rfl Tryd.underlying47 info5 rfl (by decide) (by omega) (.slice (some ⟨w.heap.size, 0, none⟩) 5 5) [116, 109, q, x3, x4] l _ _ _ (fun _ => True) (fun _ => False) rfl rfl HO.out ?aR (fun _ _ h => h) (fun _ h => h.elim) (fun _ _ => trivial) HB1.out ?aS ?aL ?_; (case aR => exact RA.out _ (H0.out.1.below HB1.out)); (case aS => exact HB1.out.size); (case aL => (simp; omega)); intro v1 w1 hR hB hg_ hat; rw [hlist.out] at hR; obtain ⟨A5, c5, e5, hS5⟩ := Sl.of_R hR (m := mb) (by rw [H0.out.2.2.2, H0.out.2.2.1, H0.out.2.1]); subst e5; have H1 := Aside0.mk (And.intro hS5 hB); clear hR hB hg_ hat hS5)
        | (go_at_call 122; (with_reducible refine (hSe _ _ _ H1.out.1).mono ?_); rintro e w2 ⟨v6, rfl, h6, hb6⟩; have H2 := Aside0.mk (And.intro (Kd.R_lower h6 H1.out.2.size) (H1.out.2.trans (hb6.mono H1.out.2.size))); clear h6 hb6))
      go_ret2
      exact ⟨v6, rfl, H2.out.1, H2.out.2⟩
  · have e : sealR q l = ([], some 1) := by unfold sealR; rw [if_neg hk]
    rw [e]
    by_cases h1 : q < 1
    · clear h hl hn hlen hk e hq
      go_enter Tryd.func95, Tryd.ntmps95
      go_wp2
      go_ret2
      exact ⟨.slice none 0 0, rfl, Kd.R_nil _ _ _ _ _, Below.refl _ _⟩
    · have h2 : 6 < q := by omega
      clear h hl hn hlen hk e hq
      go_enter Tryd.func95, Tryd.ntmps95
      go_wp2
      go_ret2
      exact ⟨.slice none 0 0, rfl, Kd.R_nil _ _ _ _ _, Below.refl _ _⟩
end Go.Proofs.YtnlaiiophongmaaDoor.MCb
