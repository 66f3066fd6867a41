/- What utf8.ValidString answers, against the signs: a text is right just if its signs, written again, are the text. No condition. -/
import Derived.Test.YtjlgbakdnenjhaaDoorRefEncA
import Derived.Lib.ValidLaws
namespace Go.Proofs.YtjlgbakdnenjhaaDoor.L
open Go Go.RowKit Go.Proofs.YtjlgbakdnenjhaaDoorW.PrintWords Go.Proofs.YtjlgbakdnenjhaaDoorW.PrintLast Go.Proofs.YtjlgbakdnenjhaaDoorW.PrintMore Go.Proofs.YtjlgbakdnenjhaaDoor.XCh Go.Proofs.YtjlgbakdnenjhaaDoor.Sg Go.Proofs.YtjlgbakdnenjhaaDoor.Ch
set_option maxRecDepth 100000

def ints (l : List UInt8) : List Int := l.map (fun c => (c.toNat : Int))

/-- What a decoding of n bytes, b0 b1 b2 b3 ahead, says beside the first sign of the list. -/
def Agree (n b0 b1 b2 b3 : Nat) (l : List Int) : Prop :=
  (Lib.decodeN n b0 b1 b2 b3 = (65533, 1) ∧ (sg1 l).1 = 65533 ∧ ¬ (b0 = 239 ∧ b1 = 191 ∧ b2 = 189)) ∨
  (¬ ((Lib.decodeN n b0 b1 b2 b3).1 = 65533 ∧ (Lib.decodeN n b0 b1 b2 b3).2 = 1) ∧ sg1 l = (((Lib.decodeN n b0 b1 b2 b3).1 : Int), (Lib.decodeN n b0 b1 b2 b3).2))

theorem agree_bad {n b0 b1 b2 b3 : Nat} {l : List Int} (h1 : Lib.decodeN n b0 b1 b2 b3 = (65533, 1)) (h2 : (sg1 l).1 = 65533) (h3 : ¬ (b0 = 239 ∧ b1 = 191 ∧ b2 = 189)) : Agree n b0 b1 b2 b3 l := .inl ⟨h1, h2, h3⟩
theorem agree_good {n b0 b1 b2 b3 : Nat} {l : List Int} (x m : Nat) (h1 : Lib.decodeN n b0 b1 b2 b3 = (x, m)) (h0 : ¬ (x = 65533 ∧ m = 1)) (h2 : (sg1 l).1 = (x : Int)) (h3 : (sg1 l).2 = m) : Agree n b0 b1 b2 b3 l := by
  refine .inr ⟨by rw [h1]; exact h0, ?_⟩
  rw [h1]
  exact Prod.ext h2 h3

set_option maxHeartbeats 4000000 in
theorem agree_1 (b0 : Nat) (h0 : b0 < 256) : Agree 1 b0 0 0 0 [(b0 : Int)] := by
  by_cases c : b0 < 128
  · refine agree_good b0 1 (by unfold Lib.decodeN; rw [if_pos c]) (by omega) ?_ ?_ <;> rw [sg1_cons, if_pos (by omega)]
  refine agree_bad ?_ ?_ (by omega)
  · unfold Lib.decodeN
    rw [if_neg c, if_neg (by omega), if_neg (by omega), if_neg (by omega)]
  · rw [sg1_cons]
    simp only [conts]
    repeat' split
    all_goals first | rfl | (exfalso; omega)

set_option maxHeartbeats 4000000 in
theorem agree_2 (b0 b1 : Nat) (h0 : b0 < 256) (h1 : b1 < 256) : Agree 2 b0 b1 0 0 [(b0 : Int), (b1 : Int)] := by
  obtain ⟨d, hd⟩ : ∃ d, Lib.decodeN 2 b0 b1 0 0 = d := ⟨_, rfl⟩
  obtain ⟨x, m⟩ := d
  have hd' := hd
  unfold Lib.decodeN at hd'
  repeat' split at hd'
  all_goals (simp only [Prod.mk.injEq] at hd'; obtain ⟨rfl, rfl⟩ := hd')
  all_goals first
    | (refine agree_good _ _ hd (by omega) ?_ ?_ <;> rw [sg1_cons] <;> simp only [conts] <;> (repeat' split) <;> first | (exfalso; omega) | rfl | omega | (simp only; omega))
    | (refine agree_bad hd ?_ (by omega); rw [sg1_cons]; simp only [conts]; (repeat' split) <;> first | rfl | (exfalso; omega))
    | (exfalso; omega)

set_option maxHeartbeats 8000000 in
theorem agree_3 (b0 b1 b2 : Nat) (h0 : b0 < 256) (h1 : b1 < 256) (h2 : b2 < 256) : Agree 3 b0 b1 b2 0 [(b0 : Int), (b1 : Int), (b2 : Int)] := by
  obtain ⟨d, hd⟩ : ∃ d, Lib.decodeN 3 b0 b1 b2 0 = d := ⟨_, rfl⟩
  obtain ⟨x, m⟩ := d
  have hd' := hd
  unfold Lib.decodeN at hd'
  repeat' split at hd'
  all_goals (simp only [Prod.mk.injEq] at hd'; obtain ⟨rfl, rfl⟩ := hd')
  all_goals first
    | (refine agree_good _ _ hd (by omega) ?_ ?_ <;> rw [sg1_cons] <;> simp only [conts] <;> (repeat' split) <;> first | (exfalso; omega) | rfl | omega | (simp only; omega))
    | (refine agree_bad hd ?_ (by omega); rw [sg1_cons]; simp only [conts]; (repeat' split) <;> first | rfl | (exfalso; omega))
    | (exfalso; omega)

theorem if_facts {c : Prop} [Decidable c] (a b : Int) : ∃ x, (if c then a else b) = x ∧ (c ∧ x = a ∨ ¬ c ∧ x = b) := by
  by_cases h : c
  · exact ⟨a, if_pos h, .inl ⟨h, rfl⟩⟩
  · exact ⟨b, if_neg h, .inr ⟨h, rfl⟩⟩

set_option maxHeartbeats 16000000 in
theorem agree_4 (n b0 b1 b2 b3 : Nat) (l : List Int) (hn : 4 ≤ n) (h0 : b0 < 256) (h1 : b1 < 256) (h2 : b2 < 256) (h3 : b3 < 256) : Agree n b0 b1 b2 b3 ((b0 : Int) :: (b1 : Int) :: (b2 : Int) :: (b3 : Int) :: l) := by
  have fin : ∀ r : Int × Nat, sg1 ((b0 : Int) :: (b1 : Int) :: (b2 : Int) :: (b3 : Int) :: l) = r →
      ((∃ x m, Lib.decodeN n b0 b1 b2 b3 = (x, m) ∧ ¬ (x = 65533 ∧ m = 1) ∧ r.1 = (x : Int) ∧ r.2 = m) ∨ (Lib.decodeN n b0 b1 b2 b3 = (65533, 1) ∧ r.1 = 65533 ∧ ¬ (b0 = 239 ∧ b1 = 191 ∧ b2 = 189))) → Agree n b0 b1 b2 b3 ((b0 : Int) :: (b1 : Int) :: (b2 : Int) :: (b3 : Int) :: l) := by
    rintro r rfl (⟨x, m, ha, hb, hc, hd⟩ | ⟨ha, hb, hc⟩)
    · exact agree_good x m ha hb hc hd
    · exact agree_bad ha hb hc
  have k : b0 < 128 ∨ (128 ≤ b0 ∧ b0 < 194) ∨ (194 ≤ b0 ∧ b0 < 224) ∨ (224 ≤ b0 ∧ b0 < 240) ∨ (240 ≤ b0 ∧ b0 < 245) ∨ 245 ≤ b0 := by omega
  rcases k with k | k | k | k | k | k
  · refine fin (b0, 1) (by rw [sg1_cons, if_pos (by omega)]) (.inl ⟨b0, 1, by unfold Lib.decodeN; rw [if_pos k], by omega, rfl, rfl⟩)
  · refine fin (65533, 1) (by rw [sg1_cons, if_neg (by omega), if_pos (by omega)]) (.inr ⟨?_, rfl, by omega⟩)
    unfold Lib.decodeN
    repeat' split
    all_goals first | rfl | (exfalso; omega)
  · refine fin _ (by rw [sg1_cons, if_neg (by omega), if_neg (by omega), if_pos (by omega)]) ?_
    simp only [conts]
    unfold Lib.decodeN
    by_cases c1 : b1 < 128
    · rw [if_pos (show (b1 : Int) < 128 by omega)]
      refine .inr ⟨?_, rfl, by omega⟩
      repeat' split
      all_goals first | rfl | (exfalso; omega)
    rw [if_neg (show ¬ (b1 : Int) < 128 by omega)]
    by_cases c2 : 191 < b1
    · rw [if_pos (show (b1 : Int) > 191 by omega)]
      refine .inr ⟨?_, rfl, by omega⟩
      repeat' split
      all_goals first | rfl | (exfalso; omega)
    rw [if_neg (show ¬ (b1 : Int) > 191 by omega)]
    refine .inl ⟨b0 % 32 * 64 + b1 % 64, 2, ?_, by omega, by simp only; omega, rfl⟩
    rw [if_neg (by omega), if_pos (by omega), if_pos (by omega)]
  · refine fin _ (by rw [sg1_cons, if_neg (by omega), if_neg (by omega), if_neg (by omega), if_pos (by omega)]) ?_
    obtain ⟨lo, elo, flo⟩ := if_facts (c := (b0 : Int) = 224) 160 128
    obtain ⟨hi, ehi, fhi⟩ := if_facts (c := (b0 : Int) = 237) 159 191
    rw [elo, ehi]
    simp only [conts]
    unfold Lib.decodeN
    by_cases c1 : (b1 : Int) < lo
    · rw [if_pos c1]
      refine .inr ⟨?_, rfl, by omega⟩
      repeat' split
      all_goals first | rfl | (exfalso; omega)
    rw [if_neg c1]
    by_cases c2 : (b1 : Int) > hi
    · rw [if_pos c2]
      refine .inr ⟨?_, rfl, by omega⟩
      repeat' split
      all_goals first | rfl | (exfalso; omega)
    rw [if_neg c2]
    by_cases c3 : (b2 : Int) < 128
    · rw [if_pos c3]
      refine .inr ⟨?_, rfl, by omega⟩
      repeat' split
      all_goals first | rfl | (exfalso; omega)
    rw [if_neg c3]
    by_cases c4 : (b2 : Int) > 191
    · rw [if_pos c4]
      refine .inr ⟨?_, rfl, by omega⟩
      repeat' split
      all_goals first | rfl | (exfalso; omega)
    rw [if_neg c4]
    refine .inl ⟨b0 % 16 * 4096 + b1 % 64 * 64 + b2 % 64, 3, ?_, by omega, by simp only; omega, rfl⟩
    rw [if_neg (by omega), if_neg (by omega), if_pos (by omega), if_pos (by omega)]
  · refine fin _ (by rw [sg1_cons, if_neg (by omega), if_neg (by omega), if_neg (by omega), if_neg (by omega), if_pos (by omega)]) ?_
    obtain ⟨lo, elo, flo⟩ := if_facts (c := (b0 : Int) = 240) 144 128
    obtain ⟨hi, ehi, fhi⟩ := if_facts (c := (b0 : Int) = 244) 143 191
    rw [elo, ehi]
    simp only [conts]
    unfold Lib.decodeN
    by_cases c1 : (b1 : Int) < lo
    · rw [if_pos c1]
      refine .inr ⟨?_, rfl, by omega⟩
      repeat' split
      all_goals first | rfl | (exfalso; omega)
    rw [if_neg c1]
    by_cases c2 : (b1 : Int) > hi
    · rw [if_pos c2]
      refine .inr ⟨?_, rfl, by omega⟩
      repeat' split
      all_goals first | rfl | (exfalso; omega)
    rw [if_neg c2]
    by_cases c3 : (b2 : Int) < 128
    · rw [if_pos c3]
      refine .inr ⟨?_, rfl, by omega⟩
      repeat' split
      all_goals first | rfl | (exfalso; omega)
    rw [if_neg c3]
    by_cases c4 : (b2 : Int) > 191
    · rw [if_pos c4]
      refine .inr ⟨?_, rfl, by omega⟩
      repeat' split
      all_goals first | rfl | (exfalso; omega)
    rw [if_neg c4]
    by_cases c5 : (b3 : Int) < 128
    · rw [if_pos c5]
      refine .inr ⟨?_, rfl, by omega⟩
      repeat' split
      all_goals first | rfl | (exfalso; omega)
    rw [if_neg c5]
    by_cases c6 : (b3 : Int) > 191
    · rw [if_pos c6]
      refine .inr ⟨?_, rfl, by omega⟩
      repeat' split
      all_goals first | rfl | (exfalso; omega)
    rw [if_neg c6]
    refine .inl ⟨b0 % 8 * 262144 + b1 % 64 * 4096 + b2 % 64 * 64 + b3 % 64, 4, ?_, by omega, by simp only; omega, rfl⟩
    rw [if_neg (by omega), if_neg (by omega), if_neg (by omega), if_pos (by omega), if_pos (by omega)]
  · refine fin (65533, 1) (by rw [sg1_cons, if_neg (by omega), if_neg (by omega), if_neg (by omega), if_neg (by omega), if_neg (by omega)]) (.inr ⟨?_, rfl, by omega⟩)
    unfold Lib.decodeN
    repeat' split
    all_goals first | rfl | (exfalso; omega)

theorem agree (l : List UInt8) (hne : l ≠ []) : Agree l.length (l.getD 0 0).toNat (l.getD 1 0).toNat (l.getD 2 0).toNat (l.getD 3 0).toNat (ints l) := by
  match l, hne with
  | [a], _ => exact agree_1 a.toNat a.toNat_lt
  | [a, b], _ => exact agree_2 a.toNat b.toNat a.toNat_lt b.toNat_lt
  | [a, b, c], _ => exact agree_3 a.toNat b.toNat c.toNat a.toNat_lt b.toNat_lt c.toNat_lt
  | a :: b :: c :: d :: t, _ => exact agree_4 _ a.toNat b.toNat c.toNat d.toNat (ints t) (by simp) a.toNat_lt b.toNat_lt c.toNat_lt d.toNat_lt

theorem wrong_bytes : Lib.encodeRune 65533 = [239, 191, 189] := by decide +kernel

theorem valid_iff : ∀ (d : Nat) (l : List UInt8), l.length ≤ d → (bytesOfSigns (sgR d (ints l)) = l ↔ Lib.validD l = true)
  | 0, l, h => by
    obtain rfl : l = [] := List.eq_nil_of_length_eq_zero (by omega)
    simp [sgR, bytesOfSigns, Lib.validD_nil]
  | d + 1, [], _ => by simp [sgR, ints, bytesOfSigns, Lib.validD_nil]
  | d + 1, b :: t, h => by
    have hne : b :: t ≠ [] := by simp
    have hw := Lib.decodeL_width (b :: t)
    rw [Lib.validD_step _ hne]
    have e0 : sgR (d + 1) (ints (b :: t)) = (sg1 (ints (b :: t))).1 :: sgR d ((ints (b :: t)).drop (sg1 (ints (b :: t))).2) := rfl
    have e1 : ∀ x r, bytesOfSigns (x :: r) = Lib.encodeRune x ++ bytesOfSigns r := fun x r => by simp [bytesOfSigns]
    rw [e0, e1]
    have ha := agree (b :: t) hne
    unfold Agree at ha
    rw [← Lib.decodeL_N] at ha
    rcases ha with ⟨hd, hs, hb⟩ | ⟨hd, hs⟩
    · rw [hs, wrong_bytes, if_pos (by rw [hd]; exact ⟨rfl, rfl⟩)]
      refine ⟨fun e => absurd ?_ hb, fun e => by cases e⟩
      rw [← e]
      exact ⟨rfl, rfl, rfl⟩
    · rw [if_neg hd, hs]
      dsimp only
      rw [Lib.encode_decode _ hne hd]
      have hl : ((b :: t).drop (Lib.decodeL (b :: t)).2).length ≤ d := by rw [List.length_drop]; simp only [List.length_cons] at h ⊢; omega
      have ih := valid_iff d ((b :: t).drop (Lib.decodeL (b :: t)).2) hl
      rw [← ih]
      have e2 : (ints (b :: t)).drop (Lib.decodeL (b :: t)).2 = ints ((b :: t).drop (Lib.decodeL (b :: t)).2) := by unfold ints; rw [List.map_drop]
      rw [e2]
      constructor
      · intro e
        exact List.append_cancel_left (e.trans (List.take_append_drop _ _).symm)
      · intro e
        rw [e, List.take_append_drop]

/-- A text is right just if its signs, written again, are the text. -/
theorem valid_eq (s : ByteArray) : Lib.validD s.data.toList = decide ((⟨(bytesOfSigns (runes s)).toArray⟩ : ByteArray) = s) := by
  have h := valid_iff s.size s.data.toList (by rw [Lib.size_eq]; exact Nat.le_refl _)
  rw [show ints s.data.toList = bytesOf s from rfl, ← runes_eq] at h
  by_cases c : bytesOfSigns (runes s) = s.data.toList
  · rw [h.1 c, c]
    exact (decide_eq_true (by cases s; rfl)).symm
  · have hv : Lib.validD s.data.toList = false := by
      cases hv : Lib.validD s.data.toList
      · rfl
      · exact absurd (h.2 hv) c
    rw [hv]
    exact (decide_eq_false fun e => c (congrArg (fun b : ByteArray => b.data.toList) e)).symm
end Go.Proofs.YtjlgbakdnenjhaaDoor.L
