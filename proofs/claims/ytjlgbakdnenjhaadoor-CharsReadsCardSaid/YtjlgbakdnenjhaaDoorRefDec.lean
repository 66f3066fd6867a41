/- The reference's decoding and encoding of a text, in plain words. Condition: the text is of at most 100000 bytes (signs). -/
import Derived.Test.YtjlgbakdnenjhaaDoorRefStep
import Derived.Test.YtjlgbakdnenjhaaDoorClean
import Derived.Test.YtjlgbakdnenjhaaDoorXCh2
import Derived.Test.YtjlgbakdnenjhaaDoorXCh3
namespace Go.Proofs.YtjlgbakdnenjhaaDoor.L
open Go Go.RowKit Go.Proofs.YtjlgbakdnenjhaaDoorW.PrintWords Go.Proofs.YtjlgbakdnenjhaaDoorW.PrintLast Go.Proofs.YtjlgbakdnenjhaaDoorW.PrintMore Go.Proofs.YtjlgbakdnenjhaaDoor.XCh Go.Proofs.YtjlgbakdnenjhaaDoor.Sg Go.Proofs.YtjlgbakdnenjhaaDoor.Ch

theorem ref_between (a b c : Int) : clerestoryref1_between.f a b c = some (decide (b ≤ a ∧ a ≤ c)) := by
  unfold clerestoryref1_between.f
  by_cases h : a ≥ b
  · rw [if_pos h]; simp [h]
  · rw [if_neg h]; simp; omega

theorem ref_longOf (f : Int) : clerestoryref1_longOf.f f = some (longN f : Int) := by
  unfold clerestoryref1_longOf.f longN
  split
  · rfl
  · split
    · rfl
    · split <;> rfl

theorem ref_mayBe (f : Int) (p : Nat) (b : Int) (k : Nat) (hk : 6 < k) : clerestoryref1_mayBe.f k f (p : Int) b = some (mB f p b) := by
  obtain ⟨k, rfl⟩ : ∃ q, k = q + 4 := ⟨k - 4, by omega⟩
  unfold clerestoryref1_mayBe.f mB
  by_cases h0 : p = 0
  · subst h0
    rw [if_pos (by rfl), if_pos rfl, ref_between]
    simp only [Option.bind_some]
    by_cases c : b < 128
    · rw [if_pos c]; simp [c]
    · rw [if_neg c]; simp [c]
  rw [if_neg (by omega), if_neg h0]
  by_cases h1 : p = 1
  · subst h1
    by_cases d1 : f = 224
    · subst d1; simp [clerestoryref1_mayBe.j0, ref_between]
    by_cases d2 : f = 237
    · subst d2; simp [clerestoryref1_mayBe.j0, clerestoryref1_mayBe.j1, ref_between]
    by_cases d3 : f = 240
    · subst d3; simp [clerestoryref1_mayBe.j0, clerestoryref1_mayBe.j1, clerestoryref1_mayBe.j2, ref_between]
    by_cases d4 : f = 244
    · subst d4; simp [clerestoryref1_mayBe.j0, clerestoryref1_mayBe.j1, clerestoryref1_mayBe.j2, clerestoryref1_mayBe.j3, ref_between]
    · simp [clerestoryref1_mayBe.j0, clerestoryref1_mayBe.j1, clerestoryref1_mayBe.j2, clerestoryref1_mayBe.j3, ref_between, d1, d2, d3, d4]
  · have h1' : ¬ (p : Int) = 1 := by omega
    simp [clerestoryref1_mayBe.j0, clerestoryref1_mayBe.j1, clerestoryref1_mayBe.j2, clerestoryref1_mayBe.j3, ref_between, h1, h1']

/-- The count of the bytes that may stand there. -/
theorem ref_count (s : ByteArray) (hs : s.size ≤ 100000) (x3 : List Int) (f : Int) (r : List Int) (B d : Nat) : ∀ (p : Nat), p ≤ s.size → s.size - p = d →
    (∀ k, B < k → clerestoryref1_CharsDecode.j2 k s x3 f (cnt (longN f) f p ((bytesOf s).drop p) : Int) = some r) → ∀ k, B + d + 12 < k → clerestoryref1_CharsDecode.l1 k s x3 f (p : Int) = some r := by
  induction d with
  | zero =>
    intro p hp hd H k hk
    obtain ⟨k, rfl⟩ : ∃ q, k = q + 1 := ⟨k - 1, by omega⟩
    have e : p = s.size := by omega
    subst e
    rw [List.drop_eq_nil_of_le (by rw [bytes_length]; exact Nat.le_refl _)] at H
    rw [clerestoryref1_CharsDecode.l1, if_neg (by omega)]
    exact H k (by omega)
  | succ d ih =>
    intro p hp hd H k hk
    obtain ⟨k, rfl⟩ : ∃ q, k = q + 1 := ⟨k - 1, by omega⟩
    have hlt : p < s.size := by omega
    have hr := bt_range s (p : Int)
    rw [bt_bytes s p hlt] at H
    rw [clerestoryref1_CharsDecode.l1, if_pos (by omega), ref_longOf]
    have w : wrap64 (bt s (p : Int)) = bt s (p : Int) := by unfold wrap64; omega
    rw [w]
    simp only [Option.bind_some]
    unfold cnt at H
    by_cases c : p < longN f
    · rw [if_pos (by omega), if_pos (by omega), ref_mayBe f p _ k (by omega)]
      simp only [Option.bind_some]
      by_cases m : mB f p (bt s (p : Int)) = true
      · rw [if_pos m]
        rw [if_pos ⟨c, m⟩] at H
        have w2 : wrap64 ((p : Int) + 1) = ((p + 1 : Nat) : Int) := by unfold wrap64; omega
        rw [w2]
        exact ih (p + 1) (by omega) (by omega) H k (by omega)
      · rw [if_neg m]
        rw [if_neg (fun h => m h.2)] at H
        exact H k (by omega)
    · rw [if_neg (by omega)]
      rw [if_neg (fun h => c h.1)] at H
      exact H k (by omega)

theorem val_step (x M c : Int) (hM : 0 ≤ M) (h0 : -M ≤ x) (h1 : x ≤ M) (h2 : M + 2 ≤ 100000000000000) (c0 : 0 ≤ c) (c1 : c ≤ 255) : 0 ≤ 256 * (M + 2) - 2 ∧ -(256 * (M + 2) - 2) ≤ 64 * x + (c - 128) ∧ 64 * x + (c - 128) ≤ 256 * (M + 2) - 2 ∧
    wrap64 ((wrap64 ((wrap64 (64 * x)) + (wrap64 c))) - 128) = 64 * x + (c - 128) := by
  have e1 : wrap64 (64 * x) = 64 * x := by unfold wrap64; omega
  have e2 : wrap64 c = c := by unfold wrap64; omega
  rw [e1, e2]
  clear e1 e2
  have e3 : wrap64 (64 * x + c) = 64 * x + c := by unfold wrap64; omega
  rw [e3]
  clear e3
  refine ⟨by omega, by omega, by omega, ?_⟩
  unfold wrap64
  omega
theorem wrap_i (i : Nat) (h : i ≤ 1000000) : wrap64 ((i : Int) + 1) = ((i + 1 : Nat) : Int) := by unfold wrap64; omega

/-- The value of a whole sign. -/
theorem ref_value (s : ByteArray) (hs : s.size ≤ 100000) (x3 : List Int) (n : Nat) (hn : n ≤ s.size) (r : List Int) (B d : Nat) (hx3 : x3.length ≤ 100000) : ∀ (i : Nat) (x M : Int), 1 ≤ i → i ≤ n → n - i = d → 0 ≤ M → -M ≤ x → x ≤ M → (M + 2) * 256 ^ d ≤ 1000000000000000 →
    (∀ k, B < k → clerestoryref1_CharsDecode.l0 k (s.extract n s.size) (x3 ++ [wrap32 (val x (((bytesOf s).drop i).take d))]) = some r) → ∀ k, B + d + 1 < k → clerestoryref1_CharsDecode.l2 k s x3 (n : Int) x (i : Int) = some r := by
  induction d with
  | zero =>
    intro i x M h1 hi hd hM hx0 hx1 hx H k hk
    obtain ⟨k, rfl⟩ : ∃ q, k = q + 1 := ⟨k - 1, by omega⟩
    have e : i = n := by omega
    subst e
    rw [clerestoryref1_CharsDecode.l2, if_neg (by omega), if_pos (by omega), if_pos (by omega), if_pos (by omega)]
    rw [List.take_zero] at H
    exact H k (by omega)
  | succ d ih =>
    intro i x M h1 hi hd hM hx0 hx1 hx H k hk
    obtain ⟨k, rfl⟩ : ∃ q, k = q + 1 := ⟨k - 1, by omega⟩
    have hr := bt_range s (i : Int)
    have e : (M + 2) * 256 ^ (d + 1) = (256 * (M + 2)) * 256 ^ d := by rw [Int.pow_succ, Int.mul_comm (256 ^ d) 256, ← Int.mul_assoc, Int.mul_comm (M + 2) 256]
    rw [e] at hx
    clear e
    have hb : M + 2 ≤ 100000000000000 := by
      have p1 : (1 : Int) ≤ 256 ^ d := Int.pow_pos (by decide)
      generalize (256 : Int) ^ d = q at hx p1
      have p2 : (256 * (M + 2)) * 1 ≤ (256 * (M + 2)) * q := Int.mul_le_mul_of_nonneg_left p1 (by omega)
      generalize (256 * (M + 2)) * q = z at hx p2
      omega
    have HX := Aside0.mk hx
    clear hx
    rw [clerestoryref1_CharsDecode.l2, if_pos (by omega), if_pos (by omega), if_pos (by omega)]
    rw [bt_bytes s i (by omega), List.take_succ_cons] at H
    simp only [val] at H
    generalize bt s (i : Int) = c at hr H
    obtain ⟨v1, v2, v3, v4⟩ := val_step x M c hM hx0 hx1 hb hr.1 hr.2
    rw [v4, wrap_i i (by omega)]
    refine ih (i + 1) (64 * x + (c - 128)) (256 * (M + 2) - 2) (by omega) (by omega) (by omega) v1 v2 v3 ?_ H k (by omega)
    rw [show 256 * (M + 2) - 2 + 2 = 256 * (M + 2) from Int.sub_add_cancel _ _]
    exact HX.out

/-- The signs alone, without their places. -/
def sgR : Nat → List Int → List Int
  | 0, _ => []
  | _ + 1, [] => []
  | d + 1, b :: t => (sg1 (b :: t)).1 :: sgR d ((b :: t).drop (sg1 (b :: t)).2)

theorem sgR_at : ∀ (d : Nat) (l : List Int) (a : Nat), runesAt (sgAt d l a) = sgR d l
  | 0, _, _ => rfl
  | d + 1, [], _ => rfl
  | d + 1, b :: t, a => by
    have := sgR_at d ((b :: t).drop (sg1 (b :: t)).2) (a + (sg1 (b :: t)).2)
    simp only [sgAt, runesAt, List.map_cons, sgR] at this ⊢
    rw [this]

theorem sgR_fuel : ∀ (d e : Nat) (l : List Int), l.length ≤ d → l.length ≤ e → sgR d l = sgR e l := fun d e l h1 h2 => by
  rw [← sgR_at d l 0, ← sgR_at e l 0, sgAt_fuel d e l 0 h1 h2]

theorem runes_eq (s : ByteArray) : runes s = sgR s.size (bytesOf s) := sgR_at _ _ _

theorem ext_size (s : ByteArray) (n : Nat) : (s.extract n s.size).size = s.size - n := by simp

/-- The reference's decoding. -/
theorem ref_decode (d : Nat) : ∀ (s : ByteArray) (x3 : List Int), s.size = d → s.size + x3.length ≤ 100000 → ∀ k, 100 * d * d + 100 < k →
    clerestoryref1_CharsDecode.l0 k s x3 = some (x3 ++ sgR s.size (bytesOf s)) := by
  induction d using Nat.strongRecOn with
  | _ d ih =>
    intro s x3 hd hs k hk
    obtain ⟨k, rfl⟩ : ∃ q, k = q + 1 := ⟨k - 1, by omega⟩
    by_cases h0 : s.size = 0
    · rw [clerestoryref1_CharsDecode.l0, if_neg (by omega), h0]
      simp [sgR]
    have hd0 := bt_bytes s 0 (by omega)
    rw [List.drop_zero] at hd0
    obtain ⟨t, ht⟩ : ∃ t, (bytesOf s).drop 1 = t := ⟨_, rfl⟩
    have hbs : bytesOf s = bt s 0 :: t := by rw [← ht]; exact hd0
    clear hd0
    have hr := bt_range s 0
    rw [clerestoryref1_CharsDecode.l0, if_pos (by omega), if_pos (by omega)]
    have w : wrap64 (bt s 0) = bt s 0 := by unfold wrap64; omega
    rw [w]
    clear w
    have hst := ref_sg1 (bt s 0) t hr
    have hsz := sg1_size (bt s 0 :: t) (by simp)
    have hlen : (bt s 0 :: t).length = s.size := by rw [← hbs, bytes_length]
    -- what is owed behind the step
    have next : ∀ (n : Nat) (v : Int), sg1 (bt s 0 :: t) = (v, n) → ∀ k, 100 * (d - 1) * (d - 1) + 100 < k →
        clerestoryref1_CharsDecode.l0 k (s.extract n s.size) (x3 ++ [v]) = some (x3 ++ sgR s.size (bytesOf s)) := by
      intro n v hv k hk
      rw [hv] at hsz
      have hsize := ext_size s n
      have h1 : 1 ≤ n := hsz.1
      have h2 : n ≤ s.size := by have := hsz.2; simp only at this; omega
      rw [ih (s.size - n) (by omega) (s.extract n s.size) (x3 ++ [v]) hsize (by rw [hsize, List.length_append]; simp only [List.length_cons, List.length_nil]; omega) k ?_]
      · rw [hsize, bytes_extract, List.append_assoc]
        congr 2
        obtain ⟨m, hm⟩ : ∃ m, s.size = m + 1 := ⟨s.size - 1, by omega⟩
        rw [hm, hbs, sgR, hv]
        rw [List.singleton_append]
        congr 1
        refine sgR_fuel _ _ _ ?_ ?_
        · rw [List.length_drop, hlen]; omega
        · rw [List.length_drop, hlen]; omega
      · refine Nat.lt_of_le_of_lt ?_ hk
        have : s.size - n ≤ d - 1 := by omega
        have := Nat.mul_le_mul (Nat.mul_le_mul (Nat.le_refl 100) this) this
        omega
    obtain ⟨r, hR⟩ : ∃ r, x3 ++ sgR s.size (bytesOf s) = r := ⟨_, rfl⟩
    rw [hR] at next ⊢
    obtain ⟨B, hB⟩ : ∃ B, 100 * (d - 1) * (d - 1) + 100 = B := ⟨_, rfl⟩
    rw [hB] at next
    have hbud : B + d + 60 < k := by
      obtain ⟨m, rfl⟩ : ∃ m, d = m + 1 := ⟨d - 1, by omega⟩
      rw [← hB, show m + 1 - 1 = m from rfl]
      have e : 100 * (m + 1) * (m + 1) = 100 * m * m + 200 * m + 100 := by simp only [Nat.mul_add, Nat.add_mul, Nat.mul_one]; omega
      rw [e] at hk
      omega
    clear hB hk ih
    have hB := isBytes_of s
    rw [hbs] at hB
    have hrg := sg1_range _ hB
    clear hB
    refine ref_count s (by omega) x3 (bt s 0) r (B + 20) s.size 0 (Nat.zero_le _) (by omega) ?_ k (by omega)
    clear hbud k
    intro k hk
    rw [List.drop_zero, hbs]
    obtain ⟨n, hn⟩ : ∃ n, cnt (longN (bt s 0)) (bt s 0) 0 (bt s 0 :: t) = n := ⟨_, rfl⟩
    have hL := cnt_leL (longN (bt s 0)) (bt s 0) (bt s 0 :: t) 0 (Nat.zero_le _)
    have hN := cnt_le (longN (bt s 0)) (bt s 0) (bt s 0 :: t) 0
    simp only [refStep] at hst
    rw [hn] at hst hL hN ⊢
    rw [hlen] at hN
    clear hn hsz hlen
    obtain ⟨k, rfl⟩ : ∃ q, k = q + 1 := ⟨k - 1, by omega⟩
    rw [clerestoryref1_CharsDecode.j2, ref_longOf]
    simp only [Option.bind_some]
    by_cases c : n < longN (bt s 0)
    · rw [if_pos (by omega), if_pos (by omega)]
      rw [if_pos c] at hst
      by_cases c0 : n = 0
      · rw [if_pos (by omega), if_pos (by omega)]
        rw [if_pos c0] at hst
        exact next 1 65533 hst.symm k (by omega)
      · rw [if_neg (by omega), if_pos (by omega), if_pos (by omega)]
        rw [if_neg c0] at hst
        exact next n 65533 hst.symm k (by omega)
    · rw [if_neg (by omega)]
      rw [if_neg c] at hst
      have hl1 : 1 ≤ longN (bt s 0) := by unfold longN; split <;> (try split) <;> (try split) <;> omega
      have hl4 : longN (bt s 0) ≤ 4 := by unfold longN; split <;> (try split) <;> (try split) <;> omega
      rw [← hst] at hrg
      simp only at hrg
      have w32 : wrap32 (val (base (bt s 0) n) (t.take (n - 1))) = val (base (bt s 0) n) (t.take (n - 1)) := by
        unfold wrap32
        omega
      have hV := ref_value s (by omega) x3 n (by omega) r B (n - 1) (by omega) 1 (base (bt s 0) n) 300 (by omega) (by omega) rfl (by decide) (by unfold base; split <;> (try split) <;> (try split) <;> omega) (by unfold base; split <;> (try split) <;> (try split) <;> omega)
        (by
          have h3 : n - 1 = 0 ∨ n - 1 = 1 ∨ n - 1 = 2 ∨ n - 1 = 3 := by omega
          rcases h3 with h3 | h3 | h3 | h3 <;> rw [h3] <;> decide)
        (fun k hk => by
          rw [ht, w32]
          exact next n _ hst.symm k hk)
      clear w32 hrg hst next
      have fin : ∀ x k, x = base (bt s 0) n → B + 10 < k → clerestoryref1_CharsDecode.j5 k s x3 (n : Int) x = some r := by
        intro x k hx hk
        obtain ⟨k, rfl⟩ : ∃ q, k = q + 1 := ⟨k - 1, by omega⟩
        rw [clerestoryref1_CharsDecode.j5, hx]
        exact hV k (by omega)
      clear hV
      obtain ⟨k, rfl⟩ : ∃ q, k = q + 2 := ⟨k - 2, by omega⟩
      by_cases n2 : n = 2
      · subst n2
        rw [if_pos (by omega), clerestoryref1_CharsDecode.j3, if_neg (by omega), clerestoryref1_CharsDecode.j4, if_neg (by omega)]
        exact fin _ k (by simp only [base, if_true]; unfold wrap64; omega) (by omega)
      rw [if_neg (by omega), clerestoryref1_CharsDecode.j3]
      by_cases n3 : n = 3
      · subst n3
        rw [if_pos (by omega), clerestoryref1_CharsDecode.j4, if_neg (by omega)]
        exact fin _ k (by simp only [base, if_true]; rw [if_neg (by omega)]; unfold wrap64; omega) (by omega)
      rw [if_neg (by omega), clerestoryref1_CharsDecode.j4]
      by_cases n4 : n = 4
      · subst n4
        rw [if_pos (by omega)]
        exact fin _ k (by simp only [base, if_true]; rw [if_neg (by omega), if_neg (by omega)]; unfold wrap64; omega) (by omega)
      rw [if_neg (by omega)]
      exact fin _ k (by unfold base; rw [if_neg n2, if_neg n3, if_neg n4]) (by omega)
end Go.Proofs.YtjlgbakdnenjhaaDoor.L
