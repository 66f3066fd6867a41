/- The plain law behind CharsReads: decoding, encoding and rightness are the reference's. -/
import Derived.Test.YtjlgbakdnenjhaaDoorValid
import Derived.Test.YtjlgbakdnenjhaaDoorQCharsReads
namespace Go.Proofs.YtjlgbakdnenjhaaDoor.Pure
open Go Go.RowKit Go.Proofs.YtjlgbakdnenjhaaDoorW.PrintWords Go.Proofs.YtjlgbakdnenjhaaDoorW.PrintLast Go.Proofs.YtjlgbakdnenjhaaDoorW.PrintMore Go.Proofs.YtjlgbakdnenjhaaDoor.XCh Go.Proofs.YtjlgbakdnenjhaaDoor.Sg Go.Proofs.YtjlgbakdnenjhaaDoor.Ch Go.Proofs.YtjlgbakdnenjhaaDoor.L
set_option maxRecDepth 100000

theorem begun (k : Nat) (hk : 12 < k) : clerestorylaw1_charsBegun.f k = some true := by
  obtain ⟨k, rfl⟩ : ∃ q, k = q + 12 := ⟨k - 12, by omega⟩
  have e3 : clerestoryref1_SameRunes.l0 (k + 12) [97, 233, 65533] [97, 233, 65533] 0 = some true := by
    simp [clerestoryref1_SameRunes.l0, rd, wrap64]
  have e1 : runes ⟨#[97, 195, 169, 226, 130]⟩ = [97, 233, 65533] := by decide +kernel
  have e2 : (bytesOfSigns (clean 0 (runes ⟨#[97, 13, 10, 98, 13, 99]⟩))) = [97, 10, 98, 10, 99] := by decide +kernel
  unfold clerestorylaw1_charsBegun.f chars_Decode.f chars_Clean.f clerestoryref1_SameRunes.f
  rw [if_pos (by decide), e1, if_pos (by decide), e2]
  simp only [Option.bind_some]
  rw [if_pos (by decide), e3]
  simp [Lib.toList_data]

theorem some_eq (s : ByteArray) : ∃ t : ByteArray, clerestorylaw1_some.f s 300 = some t ∧ t.size ≤ 300 := by
  unfold clerestorylaw1_some.f
  have h : 0 ≤ mn (s.size : Int) 300 ∧ mn (s.size : Int) 300 ≤ (s.size : Int) ∧ mn (s.size : Int) 300 ≤ 300 := by
    unfold mn
    split <;> omega
  rw [if_pos h.1, if_pos h.2.1]
  refine ⟨_, rfl, ?_⟩
  simp only [ByteArray.size_extract]
  omega

theorem runes_range (s : ByteArray) : ∀ x ∈ runes s, 0 ≤ x ∧ x < 2097152 := by
  rw [← sigs_rr]
  intro x hx
  obtain ⟨y, _, rfl⟩ := List.mem_map.1 hx
  exact rr_range y

theorem runes_len (s : ByteArray) : (runes s).length ≤ s.size := by
  unfold runes runesAt
  rw [List.length_map]
  exact sigs_len s

/-- Two alike lists are told alike. -/
theorem same_loop (l : List Int) (hl : l.length ≤ 100000) (d : Nat) : ∀ (i : Nat), i ≤ l.length → l.length - i = d → ∀ k, d + 1 < k → clerestoryref1_SameRunes.l0 k l l (i : Int) = some true := by
  induction d with
  | zero =>
    intro i hi hd k hk
    obtain ⟨k, rfl⟩ : ∃ q, k = q + 1 := ⟨k - 1, by omega⟩
    rw [clerestoryref1_SameRunes.l0, if_neg (by omega)]
  | succ d ih =>
    intro i hi hd k hk
    obtain ⟨k, rfl⟩ : ∃ q, k = q + 1 := ⟨k - 1, by omega⟩
    rw [clerestoryref1_SameRunes.l0, if_pos (by omega)]
    have := ih (i + 1) (by omega) (by omega) k (by omega)
    have e : wrap64 ((i : Int) + 1) = ((i + 1 : Nat) : Int) := wrap_i i (by omega)
    have hlt : i < l.length := by omega
    simp [e]
    refine ⟨hlt, ?_⟩
    rw [show ((i : Int) + 1) = ((i + 1 : Nat) : Int) by omega]
    exact this

theorem same_self (l : List Int) (hl : l.length ≤ 100000) (k : Nat) (hk : l.length + 1 < k) : clerestoryref1_SameRunes.f k l l = some true := by
  unfold clerestoryref1_SameRunes.f
  rw [if_pos rfl]
  exact same_loop l hl l.length 0 (Nat.zero_le _) (by omega) k hk

theorem CharsReads : clerestorylaw1_CharsReads.Pure := by
  intro a0 l1 h0 h1
  refine ⟨20000000, ?_⟩
  obtain ⟨t, ht, hts⟩ := some_eq a0
  unfold clerestorylaw1_CharsReads.f
  have hm : 0 ≤ mn (l1.length : Int) 200 ∧ mn (l1.length : Int) 200 ≤ (l1.length : Int) ∧ mn (l1.length : Int) 200 ≤ 200 := by
    unfold mn
    split <;> omega
  obtain ⟨m, hmm⟩ : ∃ m, l1.take (mn (l1.length : Int) 200).toNat = m := ⟨_, rfl⟩
  have hml : m.length ≤ 200 := by
    rw [← hmm, List.length_take]
    omega
  have hmr : ∀ x ∈ m, -2147483648 ≤ x ∧ x ≤ 2147483647 := by
    intro x hx
    rw [← hmm] at hx
    have := h1.2.2 x (List.mem_of_mem_take hx)
    simp [Lit.wf] at this
    exact ⟨this.1, this.2⟩
  have hrl := runes_len t
  have hrr := runes_range t
  have hsq : 100 * t.size * t.size + 100 < 20000000 := by
    have : 100 * t.size * t.size ≤ 100 * 300 * 300 := Nat.mul_le_mul (Nat.mul_le_mul (Nat.le_refl 100) hts) hts
    omega
  have e1 : chars_Decode.f t = some (runes t) := by unfold chars_Decode.f; rw [if_pos (by omega)]
  have e2 : chars_Encode.f m = some ⟨(bytesOfSigns m).toArray⟩ := by
    unfold chars_Encode.f
    rw [if_pos ⟨by omega, List.all_eq_true.2 fun x hx => decide_eq_true (hmr x hx)⟩]
  have e3 := ref_dec t (by omega) 20000000 hsq
  have e4 := same_self (runes t) (by omega) 20000000 (by omega)
  have e5 := ref_enc m (by omega) hmr 20000000 (by omega)
  have e6 : chars_Right.f t = some (Lib.validD t.data.toList) := by
    unfold chars_Right.f utf8_ValidString.f
    rw [if_pos (by omega)]
    rfl
  have e7 := ref_enc (runes t) (by omega) (fun x hx => ⟨by have := hrr x hx; omega, by have := hrr x hx; omega⟩) 20000000 (by omega)
  rw [ht, Option.bind_some, if_pos hm.1, if_pos hm.2.1, e1, Option.bind_some, hmm, e2, Option.bind_some, begun 20000000 (by omega), Option.bind_some, if_pos rfl, e3, Option.bind_some, e4, Option.bind_some, if_pos rfl, e5, Option.bind_some, if_pos rfl, e6, Option.bind_some, Option.bind_some, e7, Option.bind_some, valid_eq]
  have e8 : ∀ a b : ByteArray, (a.toList == b.toList) = decide (a = b) := by
    intro a b
    by_cases h : a = b
    · subst h; simp
    · rw [decide_eq_false h]
      refine beq_eq_false_iff_ne.mpr fun e => h ?_
      rw [Lib.toList_data, Lib.toList_data] at e
      cases a; cases b
      congr 1
      exact Array.toList_inj.1 e
  rw [e8]
  simp
end Go.Proofs.YtjlgbakdnenjhaaDoor.Pure
