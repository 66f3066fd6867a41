/- Signs of a text in plain words: the first sign of a list of bytes and how many bytes it is, and that chars.one computes just that. No condition but the text's length. -/
import Derived.Test.YtjlgbakdnenjhaaDoorXCa1
import Derived.Laws.BitsLemmas
namespace Go.Proofs.YtjlgbakdnenjhaaDoor.L
open Go Go.RowKit Go.Proofs.YtjlgbakdnenjhaaDoorW.PrintWords Go.Proofs.YtjlgbakdnenjhaaDoorW.PrintLast Go.Proofs.YtjlgbakdnenjhaaDoorW.PrintMore Go.Proofs.YtjlgbakdnenjhaaDoor.XCa

/-- m bytes more are wanted, the first of them from lo to hi; x: the number so far; i: how many bytes there were. -/
def conts : Nat → Int → Int → Int → Nat → List Int → Int × Nat
  | 0, _, _, x, i, _ => (x, i)
  | _ + 1, _, _, _, i, [] => (65533, i)
  | m + 1, lo, hi, x, i, c :: t => if c < lo then (65533, i) else if c > hi then (65533, i) else conts m 128 191 (64 * x + (c - 128)) (i + 1) t

/-- The first sign, and how many bytes it is. -/
def sg1 : List Int → Int × Nat
  | [] => (65533, 1)
  | b :: t =>
    if b < 128 then (b, 1) else if b < 194 then (65533, 1) else if b < 224 then conts 1 128 191 (b - 192) 1 t
    else if b < 240 then conts 2 (if b = 224 then 160 else 128) (if b = 237 then 159 else 191) (b - 224) 1 t
    else if b < 245 then conts 3 (if b = 240 then 144 else 128) (if b = 244 then 143 else 191) (b - 240) 1 t
    else (65533, 1)

theorem sg1_cons (b : Int) (t : List Int) : sg1 (b :: t) =
    if b < 128 then (b, 1) else if b < 194 then (65533, 1) else if b < 224 then conts 1 128 191 (b - 192) 1 t
    else if b < 240 then conts 2 (if b = 224 then 160 else 128) (if b = 237 then 159 else 191) (b - 224) 1 t
    else if b < 245 then conts 3 (if b = 240 then 144 else 128) (if b = 244 then 143 else 191) (b - 240) 1 t
    else (65533, 1) := rfl

def isBytes (l : List Int) : Prop := ∀ b ∈ l, 0 ≤ b ∧ b ≤ 255
theorem isBytes_of (s : ByteArray) : isBytes (bytesOf s) := by
  intro b hb
  simp only [bytesOf, List.mem_map] at hb
  obtain ⟨c, _, rfl⟩ := hb
  have := c.toNat_lt
  omega
theorem isBytes_tail {b : Int} {t : List Int} (h : isBytes (b :: t)) : isBytes t := fun x hx => h x (List.mem_cons_of_mem _ hx)
theorem isBytes_drop {l : List Int} (h : isBytes l) (n : Nat) : isBytes (l.drop n) := fun x hx => h x (List.mem_of_mem_drop hx)

theorem conts_size : ∀ (m : Nat) (lo hi x : Int) (i : Nat) (l : List Int), i ≤ (conts m lo hi x i l).2 ∧ (conts m lo hi x i l).2 ≤ i + m ∧ (conts m lo hi x i l).2 ≤ i + l.length
  | 0, _, _, _, _, _ => by simp [conts]
  | m + 1, _, _, _, _, [] => by simp [conts]
  | m + 1, lo, hi, x, i, c :: t => by
    unfold conts
    split
    · simp
    · split
      · simp
      · have := conts_size m 128 191 (64 * x + (c - 128)) (i + 1) t
        simp only [List.length_cons]
        omega

theorem conts_range : ∀ (m : Nat) (lo hi x : Int) (i : Nat) (l : List Int), 128 ≤ lo → hi ≤ 191 → 0 ≤ x → 0 ≤ (conts m lo hi x i l).1 ∧ ((conts m lo hi x i l).1 = 65533 ∨ (conts m lo hi x i l).1 < (x + 1) * 64 ^ m)
  | 0, _, _, x, _, _, _, _, hx => by simp [conts]; omega
  | m + 1, _, _, _, _, [], _, _, _ => by simp [conts]
  | m + 1, lo, hi, x, i, c :: t, h1, h2, hx => by
    unfold conts
    split
    · simp
    · split
      · simp
      · have := conts_range m 128 191 (64 * x + (c - 128)) (i + 1) t (by omega) (by omega) (by omega)
        refine ⟨this.1, ?_⟩
        rcases this.2 with h | h
        · exact .inl h
        · right
          have e : (x + 1) * 64 ^ (m + 1) = ((x + 1) * 64) * 64 ^ m := by rw [Int.pow_succ, Int.mul_comm (64 ^ m) 64, Int.mul_assoc]
          rw [e]
          refine Int.lt_of_lt_of_le h (Int.mul_le_mul_of_nonneg_right (by omega) (Int.pow_nonneg (by decide)))

theorem sg1_size (l : List Int) (h : l ≠ []) : 1 ≤ (sg1 l).2 ∧ (sg1 l).2 ≤ l.length := by
  cases l with
  | nil => exact absurd rfl h
  | cons b t =>
    have h1 := conts_size 1 128 191 (b - 192) 1 t
    have h2 := conts_size 2 (if b = 224 then 160 else 128) (if b = 237 then 159 else 191) (b - 224) 1 t
    have h3 := conts_size 3 (if b = 240 then 144 else 128) (if b = 244 then 143 else 191) (b - 240) 1 t
    rw [sg1_cons]
    simp only [List.length_cons]
    by_cases c1 : b < 128
    · simp [c1]
    rw [if_neg c1]
    by_cases c2 : b < 194
    · simp [c2]
    rw [if_neg c2]
    by_cases c3 : b < 224
    · rw [if_pos c3]; omega
    rw [if_neg c3]
    by_cases c4 : b < 240
    · rw [if_pos c4]; omega
    rw [if_neg c4]
    by_cases c5 : b < 245
    · rw [if_pos c5]; omega
    rw [if_neg c5]; simp

theorem sg1_range (l : List Int) (h : isBytes l) : 0 ≤ (sg1 l).1 ∧ (sg1 l).1 < 2097152 := by
  cases l with
  | nil => simp [sg1]
  | cons b t =>
    have hb := h b (by simp)
    have h1 := conts_range 1 128 191 (b - 192) 1 t (by omega) (by omega)
    have h2 := conts_range 2 (if b = 224 then 160 else 128) (if b = 237 then 159 else 191) (b - 224) 1 t (by split <;> omega) (by split <;> omega)
    have h3 := conts_range 3 (if b = 240 then 144 else 128) (if b = 244 then 143 else 191) (b - 240) 1 t (by split <;> omega) (by split <;> omega)
    rw [sg1_cons]
    by_cases c1 : b < 128
    · rw [if_pos c1]; simp; omega
    rw [if_neg c1]
    by_cases c2 : b < 194
    · simp [c2]
    rw [if_neg c2]
    by_cases c3 : b < 224
    · rw [if_pos c3]
      have := h1 (by omega)
      rcases this with ⟨a1, a2 | a2⟩ <;> omega
    rw [if_neg c3]
    by_cases c4 : b < 240
    · rw [if_pos c4]
      have := h2 (by omega)
      rcases this with ⟨a1, a2 | a2⟩ <;> omega
    rw [if_neg c4]
    by_cases c5 : b < 245
    · rw [if_pos c5]
      have := h3 (by omega)
      rcases this with ⟨a1, a2 | a2⟩ <;> omega
    rw [if_neg c5]; simp

def leadF (b : Int) : Int × Int × Int :=
  if b < 128 then (0, 128, 191) else if b < 194 then (-1, 128, 191) else if b < 224 then (1, 128, 191)
  else if b < 240 then (2, if b = 224 then 160 else 128, if b = 237 then 159 else 191)
  else if b < 245 then (3, if b = 240 then 144 else 128, if b = 244 then 143 else 191) else (-1, 128, 191)

theorem lead_all : ∀ b : Fin 256, chars_lead.f 12 (b.val : Int) = some (leadF (b.val : Int)) := by decide +kernel
theorem lead_eq (b : Int) (h : 0 ≤ b ∧ b ≤ 255) : chars_lead.f 12 b = some (leadF b) := by
  have := lead_all ⟨b.toNat, by omega⟩
  rw [show ((⟨b.toNat, by omega⟩ : Fin 256).val : Int) = b from by simp; omega] at this
  exact this

theorem mask1 : ∀ b : Fin 256, 194 ≤ b.val → b.val < 224 → Go.bits .and .i32 (wrap32 (b.val : Int)) (wrap32 ((shl .i32 1 (wrap64 (6 - 1))) - 1)) = (b.val : Int) - 192 := by decide +kernel
theorem mask2 : ∀ b : Fin 256, 224 ≤ b.val → b.val < 240 → Go.bits .and .i32 (wrap32 (b.val : Int)) (wrap32 ((shl .i32 1 (wrap64 (6 - 2))) - 1)) = (b.val : Int) - 224 := by decide +kernel
theorem mask3 : ∀ b : Fin 256, 240 ≤ b.val → b.val < 245 → Go.bits .and .i32 (wrap32 (b.val : Int)) (wrap32 ((shl .i32 1 (wrap64 (6 - 3))) - 1)) = (b.val : Int) - 240 := by decide +kernel

theorem maskI1 (b : Int) (h1 : 194 ≤ b) (h2 : b < 224) : Go.bits .and .i32 (wrap32 b) (wrap32 ((shl .i32 1 (wrap64 (6 - 1))) - 1)) = b - 192 := by
  have := mask1 ⟨b.toNat, by omega⟩ (by simp; omega) (by simp; omega)
  rw [show ((⟨b.toNat, by omega⟩ : Fin 256).val : Int) = b from by simp; omega] at this
  exact this
theorem maskI2 (b : Int) (h1 : 224 ≤ b) (h2 : b < 240) : Go.bits .and .i32 (wrap32 b) (wrap32 ((shl .i32 1 (wrap64 (6 - 2))) - 1)) = b - 224 := by
  have := mask2 ⟨b.toNat, by omega⟩ (by simp; omega) (by simp; omega)
  rw [show ((⟨b.toNat, by omega⟩ : Fin 256).val : Int) = b from by simp; omega] at this
  exact this
theorem maskI3 (b : Int) (h1 : 240 ≤ b) (h2 : b < 245) : Go.bits .and .i32 (wrap32 b) (wrap32 ((shl .i32 1 (wrap64 (6 - 3))) - 1)) = b - 240 := by
  have := mask3 ⟨b.toNat, by omega⟩ (by simp; omega) (by simp; omega)
  rw [show ((⟨b.toNat, by omega⟩ : Fin 256).val : Int) = b from by simp; omega] at this
  exact this

theorem bt_bytes (s : ByteArray) (i : Nat) (h : i < s.size) : (bytesOf s).drop i = bt s (i : Int) :: (bytesOf s).drop (i + 1) := by
  have hl : i < (bytesOf s).length := by simpa [bytesOf] using h
  rw [List.drop_eq_getElem_cons hl]
  congr 1
  have := bt_at s (i : Int) (by simpa using h)
  rw [← this]
  simp [bytesOf]
  rfl

theorem pow_step (x c : Int) (m : Nat) (hx : (x + 1) * 64 ^ (m + 1) ≤ 2097152) (h0 : 0 ≤ x) (hc : c ≤ 191) : x + 1 ≤ 32768 ∧ (64 * x + (c - 128) + 1) * 64 ^ m ≤ 2097152 := by
  have e : (x + 1) * 64 ^ (m + 1) = (64 * (x + 1)) * 64 ^ m := by rw [Int.pow_succ, Int.mul_comm (64 ^ m) 64, ← Int.mul_assoc, Int.mul_comm (x + 1) 64]
  rw [e] at hx
  have p1 : (1 : Int) ≤ 64 ^ m := Int.pow_pos (by decide)
  have p0 : (0 : Int) ≤ 64 ^ m := Int.pow_nonneg (by decide)
  generalize (64 : Int) ^ m = q at hx p1 p0
  have p2 : (64 * (x + 1)) * 1 ≤ (64 * (x + 1)) * q := Int.mul_le_mul_of_nonneg_left p1 (by omega)
  refine ⟨?_, Int.le_trans (Int.mul_le_mul_of_nonneg_right (by omega) p0) hx⟩
  generalize (64 * (x + 1)) * q = z at hx p2
  omega

theorem or_step (x c : Int) (h0 : 0 ≤ x) (hx : x + 1 ≤ 32768) (h1 : 128 ≤ c) (h2 : c ≤ 191) : Go.bits .or .i32 (wrap32 (x * 64)) (wrap32 (Go.bits .and .u8 c 63)) = 64 * x + (c - 128) := by
  have w1 : wrap32 (x * 64) = x * 64 := by unfold wrap32; omega
  have w3 : wrap32 (c % 64) = c % 64 := by unfold wrap32; omega
  rw [u8_and63 c (by omega) (by omega), w1, w3, i32_or6 (x * 64) (c % 64) (by omega) (by omega) (by omega) (by omega) (by omega)]
  clear w1 w3
  omega

theorem one_loop (s : ByteArray) (hs : s.size ≤ 140737488355328) (more : Nat) (hm : more ≤ 3) (m : Nat) : ∀ (k : Nat) (lo hi x : Int) (i : Nat), m + i = more + 1 → 1 ≤ i → i ≤ s.size → m < k → 128 ≤ lo → hi ≤ 191 → 0 ≤ x → (x + 1) * 64 ^ m ≤ 2097152 →
    chars_one.l0 k s (more : Int) lo hi x (i : Int) = some ((conts m lo hi x i ((bytesOf s).drop i)).1, ((conts m lo hi x i ((bytesOf s).drop i)).2 : Int)) := by
  induction m with
  | zero =>
    intro k lo hi x i h1 h2 h3 hk _ _ _ _
    obtain ⟨k, rfl⟩ : ∃ q, k = q + 1 := ⟨k - 1, by omega⟩
    rw [chars_one.l0, if_neg (by omega)]
    have : wrap64 ((more : Int) + 1) = (i : Int) := by unfold wrap64; omega
    rw [this]
    rfl
  | succ m ih =>
    intro k lo hi x i h1 h2 h3 hk hlo hhi hx0 hx
    obtain ⟨k, rfl⟩ : ∃ q, k = q + 1 := ⟨k - 1, by omega⟩
    rw [chars_one.l0, if_pos (by omega)]
    by_cases he : i = s.size
    · rw [if_pos (by omega)]
      rw [List.drop_eq_nil_of_le (by simp [bytesOf]; exact Nat.le_of_eq he.symm)]
      rfl
    · rw [if_neg (by omega), if_pos (by omega), if_pos (by omega), bt_bytes s i (by omega)]
      have hb := bt_range s (i : Int)
      generalize bt s (i : Int) = c at hb
      unfold conts
      by_cases c1 : c < lo
      · rw [if_pos c1, if_pos c1]
      rw [if_neg c1, if_neg c1]
      by_cases c2 : c > hi
      · rw [if_pos c2, if_pos c2]
      rw [if_neg c2, if_neg c2]
      obtain ⟨hx1, hx2⟩ := pow_step x c m hx hx0 (by omega)
      clear hx
      have HX := Aside0.mk hx2
      clear hx2
      have w6 : wrap64 ((i : Int) + 1) = ((i + 1 : Nat) : Int) := by unfold wrap64; omega
      rw [or_step x c hx0 hx1 (by omega) (by omega), w6]
      clear w6
      exact ih k 128 191 (64 * x + (c - 128)) (i + 1) (by omega) (by omega) (by omega) (by omega) (by omega) (by omega) (by omega) HX.out

/-- chars.one, at a text that holds a byte. -/
theorem one_eq1 (s : ByteArray) (hs : s.size ≤ 140737488355328) (h0 : 0 < s.size) : chars_one.f 12 s = some ((sg1 (bytesOf s)).1, ((sg1 (bytesOf s)).2 : Int)) := by
  have hd0 := bt_bytes s 0 h0
  rw [List.drop_zero] at hd0
  obtain ⟨t, ht⟩ : ∃ t, (bytesOf s).drop 1 = t := ⟨_, rfl⟩
  have hd : bytesOf s = bt s ((0 : Nat) : Int) :: t := by rw [← ht]; exact hd0
  clear hd0
  have hb := bt_range s ((0 : Nat) : Int)
  rw [show ((0 : Nat) : Int) = 0 from rfl] at hd hb
  unfold chars_one.f
  rw [if_pos (by omega), lead_eq _ hb]
  simp only [Option.bind_some]
  have L1 := fun lo hi x => one_loop s hs 1 (by omega) 1 12 lo hi x 1 (by omega) (by omega) h0 (by omega)
  have L2 := fun lo hi x => one_loop s hs 2 (by omega) 2 12 lo hi x 1 (by omega) (by omega) h0 (by omega)
  have L3 := fun lo hi x => one_loop s hs 3 (by omega) 3 12 lo hi x 1 (by omega) (by omega) h0 (by omega)
  simp only [ht] at L1 L2 L3
  rw [hd]
  generalize bt s 0 = b at hb
  rw [sg1_cons]
  unfold leadF
  by_cases c1 : b < 128
  · simp only [if_pos c1]
    rw [if_neg (by omega), if_pos trivial]
    have : wrap32 b = b := by unfold wrap32; omega
    rw [this]; rfl
  simp only [if_neg c1]
  by_cases c2 : b < 194
  · simp only [if_pos c2]
    rfl
  simp only [if_neg c2]
  by_cases c3 : b < 224
  · simp only [if_pos c3]
    rw [if_neg (by omega), if_neg (by omega), if_pos (by unfold wrap64; decide), maskI1 b (by omega) (by omega)]
    exact L1 128 191 (b - 192) (by omega) (by omega) (by omega) (by omega)
  simp only [if_neg c3]
  by_cases c4 : b < 240
  · simp only [if_pos c4]
    rw [if_neg (by omega), if_neg (by omega), if_pos (by unfold wrap64; decide), maskI2 b (by omega) (by omega)]
    exact L2 _ _ (b - 224) (by split <;> omega) (by split <;> omega) (by omega) (by omega)
  simp only [if_neg c4]
  by_cases c5 : b < 245
  · simp only [if_pos c5]
    rw [if_neg (by omega), if_neg (by omega), if_pos (by unfold wrap64; decide), maskI3 b (by omega) (by omega)]
    exact L3 _ _ (b - 240) (by split <;> omega) (by split <;> omega) (by omega) (by omega)
  simp only [if_neg c5]
  rfl
end Go.Proofs.YtjlgbakdnenjhaaDoor.L
