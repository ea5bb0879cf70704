/-
  Chapter 5's fields: what is put behind, in plain numbers; the chapter's 'sure'.
-/
import Derived.Test.YtiljnlhmeolhfaaDoorFd
import Derived.Test.YtiljnlhmeolhfaaDoorWideM
import Derived.Test.YtiljnlhmeolhfaaDoorMath
import Derived.Lib.SlBytesConst
import Derived.Deep.RegionHeld3
import Derived.LoopTactic
namespace Go.Proofs.YtiljnlhmeolhfaaDoor.MFd
open Go.RowKit Go.Proofs.YtiljnlhmeolhfaaDoorW.PrintWords Go.Proofs.YtiljnlhmeolhfaaDoorW.PrintLast Go.Proofs.YtiljnlhmeolhfaaDoorW.PrintMore
set_option linter.unusedVariables false
set_option linter.unusedSimpArgs false

theorem bounds_u8 {n : Int} (h : (Lit.int .u8 n).wf = true) : 0 ≤ n ∧ n ≤ 255 := by
  simp [Lit.wf, IntKind.min, IntKind.max, IntKind.signed, IntKind.bits] at h
  omega
/-- the lowest bytes of a number -/
def bytesN (v : Int) : Nat → List Int
  | 0 => []
  | n + 1 => v % 256 :: bytesN (v / 256) n
theorem bytesN_length : ∀ (n : Nat) (v : Int), (bytesN v n).length = n
  | 0, _ => rfl
  | n + 1, v => by simp [bytesN, bytesN_length n]
theorem bytesN_byte : ∀ (n : Nat) (v : Int), ∀ c ∈ bytesN v n, 0 ≤ c ∧ c < 256
  | 0, _ => fun c hc => by simp [bytesN] at hc
  | n + 1, v => fun c hc => by
    simp only [bytesN, List.mem_cons] at hc
    rcases hc with rfl | hc
    · omega
    · exact bytesN_byte n _ c hc
theorem fnum_at (v : Int) : ∀ (d k : Nat) (l : List Int) (i : Nat), i + d ≤ 8 → d < k → l.length + d ≤ 1000000 → fields_number.l0 k v l ((i + d : Nat) : Int) (i : Int) = some (l ++ bytesN (v / 256 ^ i) d) := by
  intro d
  induction d with
  | zero =>
    intro k l i hi hk hl
    obtain ⟨k, rfl⟩ : ∃ m, k = m + 1 := ⟨k - 1, by omega⟩
    simp only [fields_number.l0]
    rw [if_neg (by omega)]
    simp [bytesN]
  | succ d ih =>
    intro k l i hi hk hl
    obtain ⟨k, rfl⟩ : ∃ m, k = m + 1 := ⟨k - 1, by omega⟩
    have e := ih k (l ++ [v / 256 ^ i % 256]) (i + 1) (by omega) (by omega) (by simp; omega)
    rw [show i + 1 + d = i + (d + 1) by omega] at e
    have e1 : wrap64 (8 * (i : Int)) = ((8 * i : Nat) : Int) := by unfold wrap64; omega
    have e2 : shr .u64 v ((8 * i : Nat) : Int) = v / 256 ^ i := by
      unfold shr
      rw [show min (((8 * i : Nat) : Int)).toNat IntKind.u64.bits = 8 * i by rw [show IntKind.u64.bits = 64 from rfl]; omega]
      have hp : (2 : Int) ^ (8 * i) = 256 ^ i := by
        have hc : i = 0 ∨ i = 1 ∨ i = 2 ∨ i = 3 ∨ i = 4 ∨ i = 5 ∨ i = 6 ∨ i = 7 := by omega
        rcases hc with rfl | rfl | rfl | rfl | rfl | rfl | rfl | rfl <;> rfl
      rw [hp]
    have e3 : v / 256 ^ i / 256 = v / 256 ^ (i + 1) := by
      rw [Int.ediv_ediv_of_nonneg (by exact Int.pow_nonneg (by omega))]
      rfl
    simp only [fields_number.l0]
    rw [if_pos (by omega), e1, if_pos (by omega), if_pos (by omega), e2, show wrap64 ((i : Int) + 1) = ((i + 1 : Nat) : Int) by unfold wrap64; omega, e, List.append_assoc]
    simp only [bytesN, e3, List.cons_append, List.nil_append]
theorem put_at (n : Int) : ∀ (d k : Nat) (v : Int) (l : List Int) (i : Int), 0 ≤ v → v < 18446744073709551616 → n = i + d → 0 ≤ i → i + d ≤ 1000 → d < k → l.length + d ≤ 1000000 → fuseeref05_Put.l0 k v n l i = some (l ++ bytesN v d) := by
  intro d
  induction d with
  | zero =>
    intro k v l i h0 h1 hi hi0 hi1 hk hl
    obtain ⟨k, rfl⟩ : ∃ m, k = m + 1 := ⟨k - 1, by omega⟩
    simp only [fuseeref05_Put.l0]
    rw [if_neg (by omega)]
    simp [bytesN]
  | succ d ih =>
    intro k v l i h0 h1 hi hi0 hi1 hk hl
    obtain ⟨k, rfl⟩ : ∃ m, k = m + 1 := ⟨k - 1, by omega⟩
    have e1 : IntKind.u64.wrap (Int.tdiv v 256) = v / 256 := by rw [Int.tdiv_eq_ediv_of_nonneg h0, IntKind.wrap_u64]; omega
    have e2 : Int.tmod v 256 % 256 = v % 256 := by rw [Int.tmod_eq_emod_of_nonneg h0]; omega
    have e := ih k (v / 256) (l ++ [v % 256]) (i + 1) (by omega) (by omega) (by omega) (by omega) (by omega) (by omega) (by simp; omega)
    simp only [fuseeref05_Put.l0]
    rw [if_pos (by omega), if_pos (by omega), e1, e2, show wrap64 (i + 1) = i + 1 by unfold wrap64; omega, e, List.append_assoc]
    rfl
theorem put_eq (k : Nat) (d : Nat) (hk : d < k) (hd : d ≤ 8) (l : List Int) (v : Int) (h0 : 0 ≤ v) (h1 : v < 18446744073709551616) (hl : l.length ≤ 100000) : fuseeref05_Put.f k l v (d : Int) = some (l ++ bytesN v d) := by
  unfold fuseeref05_Put.f
  rw [if_pos (by simp; omega), List.nil_append, put_at (d : Int) d k v l 0 h0 h1 (by omega) (by omega) (by omega) hk (by omega)]
theorem i64_app (k : Nat) (hk : 8 < k) (l : List Int) (a : Int) (hl : l.length ≤ 100000) : fields_I64.f k l a = some (l ++ bytesN (IntKind.u64.wrap a) 8) := by
  unfold fields_I64.f fields_number.f slices_Clone_byte_byte.f
  simp only [Option.bind_some, List.nil_append, List.length_nil, Nat.zero_add]
  rw [if_pos (by omega)]
  simp only [Option.bind_some]
  have := fnum_at (IntKind.u64.wrap a) 8 k l 0 (by omega) (by omega) (by omega)
  rw [show ((0 + 8 : Nat) : Int) = 8 from rfl, show ((0 : Nat) : Int) = 0 from rfl, show (256 : Int) ^ 0 = 1 from rfl, Int.ediv_one] at this
  rw [this]; rfl
theorem u64_range (a : Int) : 0 ≤ IntKind.u64.wrap a ∧ IntKind.u64.wrap a < 18446744073709551616 := by rw [IntKind.wrap_u64]; omega
theorem u16_app (k : Nat) (hk : 8 < k) (l : List Int) (a : Int) (hl : l.length ≤ 100000) : fields_U16.f k l a = some (l ++ bytesN (IntKind.u64.wrap a) 2) := by
  unfold fields_U16.f fields_number.f slices_Clone_byte_byte.f
  simp only [Option.bind_some, List.nil_append, List.length_nil, Nat.zero_add]
  rw [if_pos (by omega)]
  simp only [Option.bind_some]
  have := fnum_at (IntKind.u64.wrap a) 2 k l 0 (by omega) (by omega) (by omega)
  rw [show ((0 + 2 : Nat) : Int) = 2 from rfl, show ((0 : Nat) : Int) = 0 from rfl, show (256 : Int) ^ 0 = 1 from rfl, Int.ediv_one] at this
  rw [this]; rfl
theorem u32_app (k : Nat) (hk : 8 < k) (l : List Int) (a : Int) (hl : l.length ≤ 100000) : fields_U32.f k l a = some (l ++ bytesN (IntKind.u64.wrap a) 4) := by
  unfold fields_U32.f fields_number.f slices_Clone_byte_byte.f
  simp only [Option.bind_some, List.nil_append, List.length_nil, Nat.zero_add]
  rw [if_pos (by omega)]
  simp only [Option.bind_some]
  have := fnum_at (IntKind.u64.wrap a) 4 k l 0 (by omega) (by omega) (by omega)
  rw [show ((0 + 4 : Nat) : Int) = 4 from rfl, show ((0 : Nat) : Int) = 0 from rfl, show (256 : Int) ^ 0 = 1 from rfl, Int.ediv_one] at this
  rw [this]; rfl
theorem text_app (k : Nat) (hk : 8 < k) (l : List Int) (s : ByteArray) (hs : s.size ≤ 255) (hl : l.length ≤ 100000) : fields_Text.f k l s = some (l ++ (s.size : Int) :: bytesOf s, none) := by
  unfold fields_Text.f fields_number.f slices_Clone_byte_byte.f
  rw [if_neg (by omega)]
  simp only [Option.bind_some, List.nil_append, List.length_nil, Nat.zero_add]
  rw [if_pos (by omega)]
  simp only [Option.bind_some]
  have hw : IntKind.u64.wrap (s.size : Int) = s.size := by rw [IntKind.wrap_u64]; omega
  have := fnum_at (IntKind.u64.wrap (s.size : Int)) 1 k l 0 (by omega) (by omega) (by omega)
  rw [show ((0 + 1 : Nat) : Int) = 1 from rfl, show ((0 : Nat) : Int) = 0 from rfl, show (256 : Int) ^ 0 = 1 from rfl, Int.ediv_one, hw] at this
  rw [hw, this]
  simp only [Option.bind_some, bytesN]
  rw [if_pos (by simp; omega), show (s.size : Int) % 256 = s.size by omega]
  simp
theorem text_long (k : Nat) (l : List Int) (s : ByteArray) (hs : 255 < s.size) : fields_Text.f k l s = some ([], some 5) := by
  unfold fields_Text.f
  rw [if_pos (by omega)]
/-- bytes as a number, the lowest first -/
def leV : List Int → Int
  | [] => 0
  | c :: r => c + 256 * leV r
theorem leV_range : ∀ (l : List Int), (∀ c ∈ l, 0 ≤ c ∧ c < 256) → 0 ≤ leV l ∧ leV l < 256 ^ l.length
  | [], _ => by simp [leV]
  | c :: r, h => by
    have ih := leV_range r (fun x hx => h x (by simp [hx]))
    have hc := h c (by simp)
    simp only [leV, List.length_cons, Int.pow_succ]
    omega
theorem leV_bytesN : ∀ (n : Nat) (v : Int), 0 ≤ v → leV (bytesN v n) = v % 256 ^ n
  | 0, v, _ => by simp [bytesN, leV, Int.emod_one]
  | n + 1, v, h => by
    simp only [bytesN, leV]
    rw [leV_bytesN n (v / 256) (Int.ediv_nonneg h (by omega)), Int.pow_succ, Int.mul_comm (256 ^ n) 256]
    have e := Int.emod_emod_of_dvd v (show (256 : Int) ∣ 256 * 256 ^ n from ⟨_, rfl⟩)
    have h1 := Int.mul_ediv_add_emod v (256 * 256 ^ n)
    have h2 : v / 256 / 256 ^ n = v / (256 * 256 ^ n) := Int.ediv_ediv_of_nonneg (by omega)
    have h3 := Int.mul_ediv_add_emod (v / 256) (256 ^ n)
    rw [h2] at h3
    have h4 := Int.mul_ediv_add_emod v 256
    have h5 : 256 * (256 ^ n * (v / (256 * 256 ^ n))) = 256 * 256 ^ n * (v / (256 * 256 ^ n)) := (Int.mul_assoc _ _ _).symm
    omega
theorem nstep_add (v c : Int) (hv : 0 ≤ v) (hv1 : v * 256 < 18446744073709551616) (hc : 0 ≤ c) (hc1 : c < 256) : nstep v c = c + 256 * v := by
  unfold nstep
  rw [IntKind.wrap_u64, IntKind.wrap_u64, Int.emod_eq_of_lt (by omega) (by omega), Int.emod_eq_of_lt hc (by omega)]
  have := or_low (m := 8) hv hc (by omega) (by omega) (by omega)
  rw [show ((2 : Int) ^ 8) = 256 from rfl] at this
  rw [this]; omega
theorem numV_leV : ∀ (l : List Int), l.length ≤ 8 → (∀ c ∈ l, 0 ≤ c ∧ c < 256) → numV l = leV l
  | [], _, _ => rfl
  | c :: r, hl, h => by
    have ih := numV_leV r (by simp at hl; omega) (fun x hx => h x (by simp [hx]))
    have hr := leV_range r (fun x hx => h x (by simp [hx]))
    have hc := h c (by simp)
    have hp : (256 : Int) ^ r.length ≤ 256 ^ 7 := by
      simp at hl
      have : r.length = 0 ∨ r.length = 1 ∨ r.length = 2 ∨ r.length = 3 ∨ r.length = 4 ∨ r.length = 5 ∨ r.length = 6 ∨ r.length = 7 := by omega
      rcases this with e | e | e | e | e | e | e | e <;> rw [e] <;> decide
    have e : numV (c :: r) = nstep (numV r) c := by
      unfold numV
      rw [List.reverse_cons, List.foldl_append]; rfl
    rw [e, ih, nstep_add _ _ hr.1 (by omega) hc.1 hc.2]
    rfl
theorem bytesOf_byte (s : ByteArray) : ∀ c ∈ bytesOf s, 0 ≤ c ∧ c < 256 := by
  intro c hc
  unfold bytesOf at hc
  simp only [List.mem_map] at hc
  obtain ⟨u, _, rfl⟩ := hc
  have := u.toNat_lt
  omega
theorem strOf_bytesOf (s : ByteArray) : strOfNums (bytesOf s) = s := by
  unfold strOfNums bytesOf
  simp [List.map_map, Function.comp_def]
/-- a reader at a number -/
theorem rd_num (v : Int) (n : Nat) (hn : n ≤ 8) (hv : 0 ≤ v) (T : List Int) : rdNum (bytesN v n ++ T) false n = v % 256 ^ n ∧ rdLeft (bytesN v n ++ T) false n = T ∧ rdBad (bytesN v n ++ T) false n = false := by
  have hl := bytesN_length n v
  have h1 : ¬ (false = true ∨ (bytesN v n ++ T).length < n) := by simp [hl]
  refine ⟨?_, ?_, ?_⟩
  · unfold rdNum
    rw [if_neg h1, List.take_left' hl, numV_leV _ (by omega) (bytesN_byte n v), leV_bytesN n v hv]
  · unfold rdLeft
    rw [if_neg h1, List.drop_left' hl]
  · unfold rdBad
    simp [hl]

/-- bytes that can be read there -/
structure Sl (w : World) (A : Option Addr) (n c : Nat) (l : List Int) : Prop where
  rd : (Kd.int .u8).C w A l.length l
  len : n = l.length
  cap : n ≤ c
theorem Sl.below {w w' : World} {A : Option Addr} {n c : Nat} {l : List Int} (h : Sl w A n c l) (hb : Below w.heap.size w w') : Sl w' A n c l := ⟨Kd.C_below h.rd hb, h.len, h.cap⟩
theorem Sl.lt {w : World} {A : Option Addr} {n c : Nat} {l : List Int} (h : Sl w A n c l) {a : Addr} (e : A = some a) (hp : 0 < n) : a.block < w.heap.size := by
  have hR := Kd.reads_of_C (enc := Value.int .u8) (d := (0 : Int)) (h1 := fun _ => rfl) h.rd
  obtain ⟨a', e', hc⟩ := hR.2.2 (by have := h.len; omega)
  obtain rfl := Option.some.inj (e.symm.trans e')
  have h0 := hc 0 (by have := h.len; omega)
  have := block_lt_of_cell h0
  rwa [add_block] at this
theorem Sl.but {w w' : World} {A : Option Addr} {n c g : Nat} {l : List Int} (h : Sl w A n c l) (hb : But g w w') (hg : ∀ a, A = some a → 0 < n → a.block ≠ g) : Sl w' A n c l := by
  refine ⟨?_, h.len, h.cap⟩
  have hR := Kd.reads_of_C (enc := Value.int .u8) (d := (0 : Int)) (h1 := fun _ => rfl) h.rd
  refine Kd.C_of_reads (enc := Value.int .u8) (d := (0 : Int)) (h1 := fun _ => rfl) ⟨hR.1, hR.2.1, fun hp => ?_⟩
  obtain ⟨a, e, hc⟩ := hR.2.2 hp
  refine ⟨a, e, fun j hj => ?_⟩
  have h0 := hc j hj
  have hlt := block_lt_of_cell h0
  rw [← h0]
  unfold World.cell?
  rw [hb.block _ hlt (by rw [add_block]; exact hg a e (by have := h.len; omega))]
theorem Sl.of_R {w : World} {base : Nat} {ok : Nat → Prop} {v : Value} {l : List Int} {m : Nat} (h : Kd.R (Kd.int .u8) 5 w base ok v l) (hm : m = l.length) : ∃ A c, v = .slice A m c ∧ Sl w A m c l := by
  obtain ⟨A, c, rfl⟩ := Kd.R_slice h
  have hr := Kd.R_reads' h
  subst hm
  exact ⟨A, c, rfl, hr.2.2, rfl, hr.2.1⟩
theorem Sl.nil (w : World) : Sl w none 0 0 [] := ⟨⟨rfl, Nat.zero_le _, fun h => absurd h (by simp)⟩, rfl, Nat.le_refl _⟩
theorem but_below {g B : Nat} {w0 a b : World} (h : But g a b) (hB : Below B w0 a) (hg : B ≤ g) (hs : B ≤ a.heap.size) : Below B w0 b := ⟨h.os.trans hB.os, h.tape.trans hB.tape, h.output.trans hB.output, Nat.le_trans hB.size h.size, fun k hk => (h.block k (by omega) (by omega)).trans (hB.block k hk)⟩
theorem u16_sl {w : World} {A : Option Addr} {n c : Nat} {l : List Int} (a : Int) (h : Sl w A n c l) (hl : l.length ≤ 100000) (m : Nat) (hm : m = n + 2) :
    Calls Tryd.prog 25 #[.slice A n c, .int .u16 a] w fun e w' => ∃ A' c', e = .returned (.slice A' m c') ∧ Sl w' A' m c' (l ++ bytesN (IntKind.u64.wrap a) 2) ∧ Below w.heap.size w w' := by
  obtain ⟨hC, hn, hc⟩ := h
  subst hn
  refine (fields_U16.calls 20 A c l a _ w hC hc (u16_app 20 (by omega) l a hl)).mono ?_
  rintro e w' ⟨v, rfl, hR, hb⟩
  obtain ⟨A', c', rfl, hS⟩ := Sl.of_R hR (m := m) (by rw [hm]; simp [bytesN_length])
  exact ⟨A', c', rfl, hS, hb⟩
theorem u32_sl {w : World} {A : Option Addr} {n c : Nat} {l : List Int} (a : Int) (h : Sl w A n c l) (hl : l.length ≤ 100000) (m : Nat) (hm : m = n + 4) :
    Calls Tryd.prog 27 #[.slice A n c, .int .u32 a] w fun e w' => ∃ A' c', e = .returned (.slice A' m c') ∧ Sl w' A' m c' (l ++ bytesN (IntKind.u64.wrap a) 4) ∧ Below w.heap.size w w' := by
  obtain ⟨hC, hn, hc⟩ := h
  subst hn
  refine (fields_U32.calls 20 A c l a _ w hC hc (u32_app 20 (by omega) l a hl)).mono ?_
  rintro e w' ⟨v, rfl, hR, hb⟩
  obtain ⟨A', c', rfl, hS⟩ := Sl.of_R hR (m := m) (by rw [hm]; simp [bytesN_length])
  exact ⟨A', c', rfl, hS, hb⟩
theorem i64_sl {w : World} {A : Option Addr} {n c : Nat} {l : List Int} (a : Int) (h : Sl w A n c l) (hl : l.length ≤ 100000) (m : Nat) (hm : m = n + 8) :
    Calls Tryd.prog 28 #[.slice A n c, .int .i64 a] w fun e w' => ∃ A' c', e = .returned (.slice A' m c') ∧ Sl w' A' m c' (l ++ bytesN (IntKind.u64.wrap a) 8) ∧ Below w.heap.size w w' := by
  obtain ⟨hC, hn, hc⟩ := h
  subst hn
  refine (fields_I64.calls 20 A c l a _ w hC hc (i64_app 20 (by omega) l a hl)).mono ?_
  rintro e w' ⟨v, rfl, hR, hb⟩
  obtain ⟨A', c', rfl, hS⟩ := Sl.of_R hR (m := m) (by rw [hm]; simp [bytesN_length])
  exact ⟨A', c', rfl, hS, hb⟩
theorem bytesOf_len (s : ByteArray) : (bytesOf s).length = s.size := bytesOf_length s
theorem text_sl {w : World} {A : Option Addr} {n c : Nat} {l : List Int} (s : ByteArray) (h : Sl w A n c l) (hl : l.length ≤ 100000) (hs : s.size ≤ 255) (m : Nat) (hm : m = n + 1 + s.size) :
    Calls Tryd.prog 23 #[.slice A n c, .string s] w fun e w' => ∃ A' c', e = .returned (.tuple #[.slice A' m c', .nilIface]) ∧ Sl w' A' m c' (l ++ (s.size : Int) :: bytesOf s) ∧ Below w.heap.size w w' := by
  obtain ⟨hC, hn, hc⟩ := h
  subst hn
  refine (fields_Text.calls 20 A c l s _ _ w hC hc (text_app 20 (by omega) l s hs hl)).mono ?_
  rintro e w' ⟨v, rfl, hR, hb⟩
  obtain ⟨A', c', rfl, hS⟩ := Sl.of_R hR (m := m) (by rw [hm]; simp [bytesOf_len]; omega)
  exact ⟨A', c', rfl, hS, hb⟩
theorem text_no {w : World} {A : Option Addr} {n c : Nat} {l : List Int} (s : ByteArray) (h : Sl w A n c l) (hs : 255 < s.size) :
    Calls Tryd.prog 23 #[.slice A n c, .string s] w fun e w' => ∃ v, e = .returned (.tuple #[v, .iface 75 (.int .i64 5)]) ∧ Below w.heap.size w w' := by
  obtain ⟨hC, hn, hc⟩ := h
  subst hn
  refine (fields_Text.calls 20 A c l s _ _ w hC hc (text_long 20 l s hs)).mono ?_
  rintro e w' ⟨v, rfl, hR, hb⟩
  exact ⟨v, rfl, hb⟩
theorem new_sl {w : World} {A : Option Addr} {n c : Nat} {l : List Int} (h : Sl w A n c l) (hl : l.length ≤ 100000) :
    Calls Tryd.prog 30 #[.slice A n c] w fun e w' => ∃ g, e = .returned (.pointer (some ⟨g, 0, none⟩)) ∧ w.heap.size ≤ g ∧ Rdr w' g l false ∧ Below w.heap.size w w' := by
  obtain ⟨hC, hn, hc⟩ := h
  subst hn
  exact new_calls A c l w hC hc (by omega)
/-- a literal's row, marked behind its end: its bytes are read as ever -/
theorem lit_C {W : World} {g : Nat} {t : TypeId} {k : IntKind} {l : List Int} {fr : Nat × Nat} (hg : W.heap[g]? = some (.cells (l.map (Value.int k)).toArray t fr)) (hN : l.length ≤ 1000) : (Kd.int k).C W (some ⟨g, 0, none⟩) l.length l := by
  refine ⟨rfl, by omega, fun _ => ⟨⟨g, 0, none⟩, rfl, fun j p hj => ⟨[.int k p], rfl, rfl, fun i u hu => ?_⟩⟩⟩
  have hi : i = 0 := by
    have := (List.getElem?_eq_some_iff.1 hu).1
    simp at this; exact this
  subst hi
  simp at hu
  subst hu
  have hjl : j < l.length := (List.getElem?_eq_some_iff.1 hj).1
  show W.cell? ((⟨g, 0, none⟩ : Addr).add (j * 1 + 0)) = _
  rw [show (⟨g, 0, none⟩ : Addr).add (j * 1 + 0) = ⟨g, j, none⟩ by unfold Addr.add; split <;> simp_all]
  unfold World.cell?
  rw [hg]
  simp [hj]
theorem strOfNums_size (l : List Int) : (strOfNums l).size = l.length := by
  unfold strOfNums; simp [ByteArray.size]
set_option maxRecDepth 100000 in
set_option maxHeartbeats 4000000 in
theorem sure05 (w : World) (hgL : HG w) :
    Calls Tryd.prog 22 #[] w fun e w' => e = .returned (.bool true) ∧ Below w.heap.size w w' := by
  have kc := fun (w : World) (C : Array Value) (n c : Nat) => Lib.run_convert_bytes_const (P := Tryd.prog) w 36 5 C n c Tryd.underlying36 Tryd.underlying5
  have HG' := Lib.hid hgL
  clear hgL
  go_enter Tryd.func22, Tryd.ntmps22
  go_wp2_with (fail)
  (with_reducible refine (u16_sl 258 (Sl.nil w) (by simp) 2 rfl).mono ?_)
  rintro e w1 ⟨A1, c1, rfl, h1, hb1⟩
  have H1 := Lib.hid (And.intro h1 hb1)
  clear h1 hb1
  go_wp2_with (fail)
  (with_reducible refine (new_sl H1.out.1 (by simp [bytesN])).mono ?_)
  rintro e w2 ⟨g, rfl, hg, hr, hb⟩
  have H2 := Lib.hid (And.intro hr (And.intro (H1.out.2.trans (hb.mono H1.out.2.size)) (show w.heap.size ≤ g from Nat.le_trans H1.out.2.size hg)))
  clear hr hb hg
  have hw258 : IntKind.u64.wrap 258 = 258 := rfl
  have r1 := rd_num 258 2 (by omega) (by omega) []
  go_wp2_with (fail)
  (with_reducible refine (u16_calls g _ false _ H2.out.1).mono ?_)
  rintro e w3 ⟨rfl, hr, hb⟩
  have H3 : Hid (Rdr w3 g [] false ∧ Below w.heap.size w w3) := Lib.hid ⟨by
    have hr' := hr
    rw [hw258, List.nil_append, ← List.append_nil (bytesN 258 2), r1.2.1, r1.2.2] at hr'
    exact hr', but_below hb H2.out.2.1 H2.out.2.2 H2.out.2.1.size⟩
  have v1 : IntKind.u16.wrap (rdNum ([] ++ bytesN (IntKind.u64.wrap 258) 2) false 2) = 258 := by
    rw [hw258, List.nil_append, ← List.append_nil (bytesN 258 2), r1.1]; rfl
  rw [v1]
  clear hr hb v1 hw258 r1
  go_wp2_with (fail)
  (with_reducible refine (done_calls g [] false _ H3.out.1).mono ?_)
  rintro e w4 ⟨rfl, rfl⟩
  rw [show errV (rdDone [] false) = .nilIface from rfl]
  go_wp2_with (fail)
  (with_reducible refine (u8_calls g [] false _ H3.out.1).mono ?_)
  rintro e w4 ⟨rfl, hr, hb⟩
  have H4 : Hid (Rdr w4 g [] true ∧ Below w.heap.size w w4) := Lib.hid ⟨hr, but_below hb H3.out.2 H2.out.2.2 H3.out.2.size⟩
  rw [show IntKind.u8.wrap (rdNum [] false 1) = 0 from rfl]
  clear hr hb
  go_wp2_with (fail)
  (with_reducible refine (done_calls g [] true _ H4.out.1).mono ?_)
  rintro e w5 ⟨rfl, rfl⟩
  rw [show errV (rdDone [] true) = .iface 75 (.int .i64 3) from rfl]
  go_wp2_with ((with_reducible refine gate_dst (N := 19) rfl ?_); refine Kd.R_make (Kd.int .u8) (w0 := w) w.heap.size 5 rfl (N := 19) rfl 36 (.const (.int .i64 256)) (.const (.int .i64 256)) rfl 256 rfl rfl Tryd.underlying36 (.int .u8 0) 1 info5 rfl (by decide) (by decide) (0 : Int) (ok := fun _ => True) (okp := fun _ => True) ?hz (fun _ h => h) trivial (by omega) (by decide) H4.out.2 H4.out.2.size ?_; (case hz => rfl); intro v1 w5 hR hB hg hat; obtain ⟨zz, hzz⟩ : ∃ z : List Int, z = List.replicate (256 : Int).toNat 0 := ⟨_, rfl⟩; rw [← hzz] at hR; have hzl : 256 = zz.length := (by rw [hzz, List.length_replicate]; all_goals rfl); clear hzz; obtain ⟨A5, c5, rfl, hS5⟩ := Sl.of_R hR hzl; have hcv := Kd.C_string (P := Tryd.prog) (A := A5) (c := c5) Tryd.underlying36 Tryd.underlying5 Tryd.underlying9 hS5.rd; rw [← hzl] at hcv; have hcv' : ∀ W : World, W = w5 → (convert 36 9 (.slice A5 256 c5)).run Tryd.prog W = .ok (.string (strOfNums zz)) W := (fun W h => by subst h; exact hcv); clear hcv; have hcv := hcv' w5 rfl; clear hcv' hR hg hat; have HB5 := Lib.hid (And.intro hB hzl); clear hB hzl hS5)
  (with_reducible refine (text_no (strOfNums zz) (Sl.nil w5) (by rw [strOfNums_size, ← HB5.out.2]; omega)).mono ?_)
  rintro e w6 ⟨v6, rfl, hb⟩
  have hB6 := HB5.out.1.trans (hb.mono HB5.out.1.size)
  have H6 := Lib.hid (And.intro hB6 (HG'.out.below (Nat.le_refl _) hB6))
  clear hb hB6 hcv
  go_wp2_with (fail)
  (with_reducible refine (fuseelaw05_num_some 3 w6 w6 (St.refl H6.out.2)).mono ?_)
  rintro e w7 ⟨rfl, hb⟩
  have hB7 := H6.out.1.trans (hb.mono H6.out.1.size)
  have H7 := Lib.hid (And.intro hB7 (HG'.out.below (Nat.le_refl _) hB7))
  clear hb hB7
  go_wp2_with (fail)
  (with_reducible refine (fuseelaw05_num_some 5 w7 w7 (St.refl H7.out.2)).mono ?_)
  rintro e w8 ⟨rfl, hb⟩
  have hB8 := H7.out.1.trans (hb.mono H7.out.1.size)
  have H8 := Lib.hid hB8
  clear hb hB8
  go_wp2_with (fail)
  have hl := heap_alloc_new w8 (.cells #[.int .u8 97] 5 (1, 2))
  have hS : Sl (w8.alloc (.cells #[.int .u8 97] 5 (1, 2))) (some ⟨w8.heap.size, 0, none⟩) 1 1 [97] := ⟨lit_C (l := [97]) hl (by simp), rfl, Nat.le_refl _⟩
  have hBa := H8.out.alloc H8.out.size (.cells #[.int .u8 97] 5 (1, 2))
  (with_reducible refine (u32_sl 1 hS (by simp) 5 rfl).mono ?_)
  rintro e w9 ⟨A9, c9, rfl, h9, hb⟩
  have hcv := Kd.C_string (P := Tryd.prog) (A := A9) (c := c9) Tryd.underlying36 Tryd.underlying5 Tryd.underlying9 h9.rd
  rw [show [97] ++ bytesN (IntKind.u64.wrap 1) 4 = [97, 1, 0, 0, 0] by decide] at hcv
  have hcv' : (convert 36 9 (.slice A9 5 c9)).run Tryd.prog w9 = .ok (.string (⟨#[97, 1, 0, 0, 0]⟩ : ByteArray)) w9 := hcv
  have H9 := Lib.hid (hBa.trans (hb.mono hBa.size))
  clear hl hS hBa h9 hcv hb kc
  go_wp2
  go_ret
  exact ⟨rfl, H9.out⟩
end Go.Proofs.YtiljnlhmeolhfaaDoor.MFd
