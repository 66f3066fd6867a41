/- A reference by its number: the program's and the reference's reading are one. Condition: the text is of at most 100000 bytes. -/
import Derived.Test.YtjlgbakdnenjhaaDoorEncE
import Derived.Test.YtjlgbakdnenjhaaDoorSign1
namespace Go.Proofs.YtjlgbakdnenjhaaDoor.LE
open Go Go.RowKit Go.Proofs.YtjlgbakdnenjhaaDoorW.PrintWords Go.Proofs.YtjlgbakdnenjhaaDoorW.PrintLast Go.Proofs.YtjlgbakdnenjhaaDoorW.PrintMore Go.Proofs.YtjlgbakdnenjhaaDoor.XEn Go.Proofs.YtjlgbakdnenjhaaDoor.Ch

def hexB (b : Int) : Int := if 48 ≤ b ∧ b ≤ 57 then b - 48 else if 97 ≤ b ∧ b ≤ 102 then b - 87 else if 65 ≤ b ∧ b ≤ 70 then b - 55 else 99

theorem hex_all : ∀ b : Fin 256, clerestoryref1_hexOf.f 12 (b.val : Int) = some (hexB (b.val : Int)) := by decide +kernel
theorem dig10_all : ∀ b : Fin 256, entity_digit.f 12 (b.val : Int) 10 = some (if hexB (b.val : Int) < 10 then hexB (b.val : Int) else -1) := by decide +kernel
theorem dig16_all : ∀ b : Fin 256, entity_digit.f 12 (b.val : Int) 16 = some (if hexB (b.val : Int) < 16 then hexB (b.val : Int) else -1) := by decide +kernel
theorem x_all : ∀ b : Fin 256, (Go.bits .or .u8 (b.val : Int) 32 == 120) = ((b.val : Int) == 120 || (b.val : Int) == 88) := by decide +kernel
theorem word_all : ∀ b : Fin 256, entity_word.f (b.val : Int) = (if (b.val : Int) = 61 then some true else clerestoryref1_letterOrDigit.f (b.val : Int)) := by decide +kernel
theorem lod_all : ∀ b : Fin 256, (clerestoryref1_letterOrDigit.f (b.val : Int)).isSome = true := by decide +kernel

theorem byte_of {P : Int → Prop} (h : ∀ b : Fin 256, P (b.val : Int)) (b : Int) (h0 : 0 ≤ b ∧ b ≤ 255) : P b := by
  have := h ⟨b.toNat, by omega⟩
  rw [show ((⟨b.toNat, by omega⟩ : Fin 256).val : Int) = b from by simp; omega] at this
  exact this

theorem hex_eq (b : Int) (h : 0 ≤ b ∧ b ≤ 255) (k : Nat) (hk : 12 ≤ k) : clerestoryref1_hexOf.f k b = some (hexB b) := by
  have := more_rounds (clerestoryref1_hexOf.mono b) 12 (k - 12) _ (byte_of (P := fun b => clerestoryref1_hexOf.f 12 b = some (hexB b)) hex_all b h)
  rw [show 12 + (k - 12) = k by omega] at this
  exact this
theorem dig_eq (b base : Int) (hb : base = 10 ∨ base = 16) (h : 0 ≤ b ∧ b ≤ 255) (k : Nat) (hk : 12 ≤ k) : entity_digit.f k b base = some (if hexB b < base then hexB b else -1) := by
  have h1 : entity_digit.f 12 b base = some (if hexB b < base then hexB b else -1) := by
    rcases hb with rfl | rfl
    · exact byte_of (P := fun b => entity_digit.f 12 b 10 = some (if hexB b < 10 then hexB b else -1)) dig10_all b h
    · exact byte_of (P := fun b => entity_digit.f 12 b 16 = some (if hexB b < 16 then hexB b else -1)) dig16_all b h
  have := more_rounds (entity_digit.mono b base) 12 (k - 12) _ h1
  rw [show 12 + (k - 12) = k by omega] at this
  exact this
theorem hexB_nonneg (b : Int) (h : 0 ≤ b ∧ b ≤ 255) : 0 ≤ hexB b ∧ hexB b ≤ 99 := by
  unfold hexB
  split
  · omega
  · split
    · omega
    · split <;> omega

/-- The sign of a number. -/
def signB (a : Int) : ByteArray := ⟨(bytesOfSigns [if a = 0 ∨ a = 13 then 65533 else a]).toArray⟩

theorem signB_size (a : Int) : (signB a).size ≤ 4 := by
  have h := bytesOfSigns_le [if a = 0 ∨ a = 13 then 65533 else a]
  show ((bytesOfSigns [if a = 0 ∨ a = 13 then 65533 else a]).toArray).size ≤ 4
  rw [List.size_toArray]
  exact h
/-- A place within the text, or none; and few bytes. -/
def FB (s : ByteArray) (r : ByteArray × Int) : Prop := 0 ≤ r.2 ∧ r.2 ≤ (s.size : Int) ∧ r.1.size ≤ 8
theorem fb_nil (s : ByteArray) : FB s (⟨#[]⟩, 0) := ⟨Int.le_refl _, Int.natCast_nonneg _, Nat.zero_le _⟩
theorem fb_sign (s : ByteArray) (a n : Int) (h0 : 0 ≤ n) (h1 : n ≤ (s.size : Int)) : FB s (signB a, n) := ⟨h0, h1, Nat.le_trans (signB_size a) (by decide)⟩

theorem sign_eq (a : Int) (h0 : 0 ≤ a) (h1 : a ≤ 2097152) : entity_sign.f a = some (signB a) := by
  have one : ∀ x : Int, 0 ≤ x ∧ x ≤ 2097152 → chars_Encode.f [x] = some ⟨(bytesOfSigns [x]).toArray⟩ := fun x hx => by
    unfold chars_Encode.f
    rw [if_pos]
    refine ⟨by simp, ?_⟩
    simp
    omega
  unfold entity_sign.f signB
  by_cases c0 : a = 0
  · rw [if_pos c0, one 65533 (by omega), if_pos (.inl c0)]; rfl
  rw [if_neg c0]
  by_cases c1 : a = 13
  · rw [if_pos c1, one 65533 (by omega), if_pos (.inr c1)]; rfl
  rw [if_neg c1, show wrap32 a = a by unfold wrap32; omega, one a ⟨h0, h1⟩, if_neg (by omega)]; rfl

theorem enc_one (x : Int) (h0 : 0 ≤ x) (h1 : x ≤ 2097152) (k : Nat) (hk : 8 < k) : clerestoryref1_CharsEncode.f k [x] = some ⟨(bytesOfSigns [x]).toArray⟩ :=
  ref_enc [x] (by simp) (fun y hy => by obtain rfl : y = x := by simpa using hy
                                        omega) k (by simpa using hk)

/-- The two numbers are one, or both are beyond every sign. -/
def Both (a b : Int) : Prop := 0 ≤ a ∧ a ≤ 2097152 ∧ 0 ≤ b ∧ b ≤ 2000000 ∧ (a = b ∨ 2000000 ≤ a ∧ b = 2000000)

theorem both_sign (a b : Int) (h : Both a b) : signB a = signB b := by
  obtain ⟨h0, h1, h2, h3, h | ⟨h4, h5⟩⟩ := h
  · rw [h]
  · unfold signB
    rw [if_neg (by omega), if_neg (by omega)]
    congr 2
    simp only [bytesOfSigns, List.flatMap_cons, List.flatMap_nil, List.append_nil]
    unfold Lib.encodeRune
    rw [Lib.encodeRuneZ_bad (r := a) (by omega), Lib.encodeRuneZ_bad (r := b) (by omega)]

theorem wx (y : Int) (h0 : 0 ≤ y) (h1 : y ≤ 100000000) : wrap64 y = y := by unfold wrap64; omega

theorem both_step (base a b d : Int) (hb : base = 10 ∨ base = 16) (hd : 0 ≤ d) (hd2 : d ≤ 99) (h : Both a b) :
    Both (mn (wrap64 ((wrap64 (base * a)) + d)) 2097152) (if (wrap64 ((wrap64 (base * b)) + d)) > 2000000 then 2000000 else (wrap64 ((wrap64 (base * b)) + d))) := by
  obtain ⟨h0, h1, h2, h3, h⟩ := h
  have e1 : wrap64 ((wrap64 (base * a)) + d) = base * a + d := by
    rcases hb with rfl | rfl
    · rw [wx (10 * a) (by omega) (by omega), wx (10 * a + d) (by omega) (by omega)]
    · rw [wx (16 * a) (by omega) (by omega), wx (16 * a + d) (by omega) (by omega)]
  have e2 : wrap64 ((wrap64 (base * b)) + d) = base * b + d := by
    rcases hb with rfl | rfl
    · rw [wx (10 * b) (by omega) (by omega), wx (10 * b + d) (by omega) (by omega)]
    · rw [wx (16 * b) (by omega) (by omega), wx (16 * b + d) (by omega) (by omega)]
  rw [e1, e2]
  clear e1 e2
  unfold Both mn
  rcases hb with rfl | rfl
  · split <;> split <;> omega
  · split <;> split <;> omega

/-- The reference's end of a number. -/
theorem ref_numend (s : ByteArray) (hs : s.size ≤ 100000) (i : Nat) (hi : i ≤ s.size) (b : Int) (h0 : 0 ≤ b) (h1 : b ≤ 2000000) (c : Bool) (k : Nat) (hk : 12 < k) :
    clerestoryref1_EntityFind.j5 k (i : Int) b c = some (signB b, if c = true then ((i + 1 : Nat) : Int) else (i : Int)) := by
  obtain ⟨k, rfl⟩ : ∃ q, k = q + 1 := ⟨k - 1, by omega⟩
  rw [clerestoryref1_EntityFind.j5, wrap_i i (by omega)]
  have w : wrap32 b = b := by unfold wrap32; omega
  rw [w]
  clear w
  unfold signB
  by_cases c0 : b = 0
  · rw [if_pos c0, if_pos c0, if_pos (show b = 0 ∨ b = 13 from .inl c0), enc_one 65533 (by omega) (by omega) k (by omega)]
    cases c <;> rfl
  by_cases c1 : b = 13
  · rw [if_neg c0, if_neg c0, if_pos c1, if_pos c1, if_pos (show b = 0 ∨ b = 13 from .inr c1), enc_one 65533 (by omega) (by omega) k (by omega)]
    cases c <;> rfl
  rw [if_neg c0, if_neg c0, if_neg c1, if_neg c1, if_neg (show ¬ (b = 0 ∨ b = 13) by omega), enc_one b h0 (by omega) k (by omega)]
  cases c <;> rfl

theorem semi_eq (s : ByteArray) (hs : s.size ≤ 100000) (i : Nat) : entity_semicolon.f s (i : Int) = some (if i < s.size ∧ bt s (i : Int) = 59 then ((i + 1 : Nat) : Int) else (i : Int)) := by
  unfold entity_semicolon.f
  by_cases c : i < s.size
  · rw [if_pos (by omega), if_pos (by omega), wrap_i i (by omega)]
    by_cases c2 : bt s (i : Int) = 59
    · rw [if_pos c2, if_pos ⟨c, c2⟩]
    · rw [if_neg c2, if_neg (fun h => c2 h.2)]
  · rw [if_neg (by omega), if_neg (fun h => c h.1)]

theorem num_both (s : ByteArray) (hs : s.size ≤ 100000) (base : Int) (hb : base = 10 ∨ base = 16) (fr : Nat) (d : Nat) : ∀ (i : Nat) (a b : Int), s.size - i = d → i ≤ s.size → Both a b →
    ∃ r, FB s r ∧ (∀ k, 2 * d + 40 < k → entity_number.l0 k s base (i : Int) a (fr : Int) = some r) ∧ (∀ k, 2 * d + 40 < k → clerestoryref1_EntityFind.l0 k s base (i : Int) (fr : Int) b = some r) := by
  induction d with
  | zero =>
    intro i a b hd hi hB
    refine ⟨if i = fr then (⟨#[]⟩, 0) else (signB a, (i : Int)), (by split; exact fb_nil s; exact fb_sign s a _ (by omega) (by omega)), fun k hk => ?_, fun k hk => ?_⟩
    · obtain ⟨k, rfl⟩ : ∃ q, k = q + 2 := ⟨k - 2, by omega⟩
      rw [entity_number.l0, if_neg (by omega), entity_number.j3]
      by_cases c : i = fr
      · rw [if_pos (by omega), if_pos c]
      · rw [if_neg (by omega), if_neg c, sign_eq a hB.1 hB.2.1, semi_eq s hs i, if_neg (by omega)]
        rfl
    · obtain ⟨k, rfl⟩ : ∃ q, k = q + 2 := ⟨k - 2, by omega⟩
      rw [clerestoryref1_EntityFind.l0, if_neg (by omega), clerestoryref1_EntityFind.j4, if_neg (by decide)]
      by_cases c : i = fr
      · rw [if_pos (by omega), if_pos c]
      · rw [if_neg (by omega), if_neg c, if_neg (by omega), ref_numend s hs i hi b hB.2.2.1 hB.2.2.2.1 false k (by omega), both_sign a b hB]
        rfl
  | succ d ih =>
    intro i a b hd hi hB
    have hr := bt_range s (i : Int)
    have hh := hexB_nonneg _ hr
    by_cases c : hexB (bt s (i : Int)) < base
    · obtain ⟨r, h0, h1, h2⟩ := ih (i + 1) _ _ (by omega) (by omega) (both_step base a b (hexB (bt s (i : Int))) hb hh.1 hh.2 hB)
      refine ⟨r, h0, fun k hk => ?_, fun k hk => ?_⟩
      · obtain ⟨k, rfl⟩ : ∃ q, k = q + 2 := ⟨k - 2, by omega⟩
        rw [entity_number.l0, if_pos (by omega), if_pos (by omega), dig_eq _ base hb hr _ (by omega), wrap_i i (by omega)]
        simp only [Option.bind_some]
        rw [if_pos c, if_pos (by omega)]
        exact h1 _ (by omega)
      · obtain ⟨k, rfl⟩ : ∃ q, k = q + 2 := ⟨k - 2, by omega⟩
        rw [clerestoryref1_EntityFind.l0, if_pos (by omega), if_pos (by omega), hex_eq _ hr _ (by omega)]
        simp only [Option.bind_some]
        rw [clerestoryref1_EntityFind.j4, if_pos (decide_eq_true c), if_pos (by omega), if_pos (by omega), hex_eq _ hr _ (by omega), wrap_i i (by omega)]
        simp only [Option.bind_some]
        have := h2 k (by omega)
        by_cases c2 : (wrap64 ((wrap64 (base * b)) + hexB (bt s (i : Int)))) > 2000000
        · rw [if_pos c2]
          rw [if_pos c2] at this
          exact this
        · rw [if_neg c2]
          rw [if_neg c2] at this
          exact this
    · refine ⟨if i = fr then (⟨#[]⟩, 0) else (signB a, if bt s (i : Int) = 59 then ((i + 1 : Nat) : Int) else (i : Int)), (by split; exact fb_nil s; exact fb_sign s a _ (by split <;> omega) (by split <;> omega)), fun k hk => ?_, fun k hk => ?_⟩
      · obtain ⟨k, rfl⟩ : ∃ q, k = q + 2 := ⟨k - 2, by omega⟩
        rw [entity_number.l0, if_pos (by omega), if_pos (by omega), dig_eq _ base hb hr _ (by omega), wrap_i i (by omega), Option.bind_some, if_neg c, if_neg (show ¬ ((-1 : Int) ≥ 0) by decide), entity_number.j3]
        have e : (if i < s.size ∧ bt s (i : Int) = 59 then ((i + 1 : Nat) : Int) else (i : Int)) = (if bt s (i : Int) = 59 then ((i + 1 : Nat) : Int) else (i : Int)) := by
          have hlt : i < s.size := by omega
          simp only [hlt, true_and]
        by_cases c1 : i = fr
        · rw [if_pos (show (i : Int) = (fr : Int) by rw [c1]), if_pos c1]
        · rw [if_neg (show ¬ (i : Int) = (fr : Int) by omega), if_neg c1, sign_eq a hB.1 hB.2.1, semi_eq s hs i, e]
          simp only [Option.bind_some]
      · obtain ⟨k, rfl⟩ : ∃ q, k = q + 2 := ⟨k - 2, by omega⟩
        rw [clerestoryref1_EntityFind.l0, if_pos (by omega), if_pos (by omega), hex_eq _ hr _ (by omega)]
        simp only [Option.bind_some]
        rw [clerestoryref1_EntityFind.j4, if_neg (by simpa using c)]
        by_cases c1 : i = fr
        · rw [if_pos (by omega), if_pos c1]
        · rw [if_neg (by omega), if_neg c1, if_pos (by omega), if_pos (by omega), ref_numend s hs i hi b hB.2.2.1 hB.2.2.2.1 _ k (by omega), both_sign a b hB]
          by_cases c2 : bt s (i : Int) = 59
          · rw [if_pos c2, if_pos (by rw [c2]; rfl)]
          · rw [if_neg c2, if_neg (by simpa using c2)]
end Go.Proofs.YtjlgbakdnenjhaaDoor.LE
