/- The plain law behind CharsCleans: what is cleaned is the reference's, sign for sign. -/
import Derived.Test.YthecjfkafpndoaaRefEnc
import Derived.Test.YthecjfkafpndoaaQCharsCleans
namespace Go.Proofs.Ythecjfkafpndoaa.Pure
open Go Go.RowKit Go.Proofs.YthecjfkafpndoaaW.PrintWords Go.Proofs.YthecjfkafpndoaaW.PrintLast Go.Proofs.YthecjfkafpndoaaW.PrintMore Go.Proofs.Ythecjfkafpndoaa.XCh Go.Proofs.Ythecjfkafpndoaa.Sg Go.Proofs.Ythecjfkafpndoaa.Ch Go.Proofs.Ythecjfkafpndoaa.L
set_option maxRecDepth 100000

theorem begun (k : Nat) (hk : 12 < k) : clerestorylaw1_charsBegun.f k = some true := by
  obtain ⟨k, rfl⟩ : ∃ q, k = q + 12 := ⟨k - 12, by omega⟩
  have e3 : clerestoryref1_SameRunes.l0 (k + 12) [97, 233, 65533] [97, 233, 65533] 0 = some true := by
    simp [clerestoryref1_SameRunes.l0, rd, wrap64]
  have e1 : runes ⟨#[97, 195, 169, 226, 130]⟩ = [97, 233, 65533] := by decide +kernel
  have e2 : (bytesOfSigns (clean 0 (runes ⟨#[97, 13, 10, 98, 13, 99]⟩))) = [97, 10, 98, 10, 99] := by decide +kernel
  unfold clerestorylaw1_charsBegun.f chars_Decode.f chars_Clean.f clerestoryref1_SameRunes.f
  rw [if_pos (by decide), e1, if_pos (by decide), e2]
  simp only [Option.bind_some]
  rw [if_pos (by decide), e3]
  simp [Lib.toList_data]

theorem some_eq (s : ByteArray) : ∃ t : ByteArray, clerestorylaw1_some.f s 300 = some t ∧ t.size ≤ 300 := by
  unfold clerestorylaw1_some.f
  have h : 0 ≤ mn (s.size : Int) 300 ∧ mn (s.size : Int) 300 ≤ (s.size : Int) ∧ mn (s.size : Int) 300 ≤ 300 := by
    unfold mn
    split <;> omega
  rw [if_pos h.1, if_pos h.2.1]
  refine ⟨_, rfl, ?_⟩
  simp only [ByteArray.size_extract]
  omega

theorem runes_range (s : ByteArray) : ∀ x ∈ runes s, 0 ≤ x ∧ x < 2097152 := by
  rw [← sigs_rr]
  intro x hx
  obtain ⟨y, _, rfl⟩ := List.mem_map.1 hx
  exact rr_range y

theorem runes_len (s : ByteArray) : (runes s).length ≤ s.size := by
  unfold runes runesAt
  rw [List.length_map]
  exact sigs_len s

theorem clean_both (s : ByteArray) (hs : s.size ≤ 1000) (k : Nat) (hk : 200000000 < k) : clerestoryref1_CharsClean.f k s = chars_Clean.f s := by
  have hl := runes_len s
  have hr := runes_range s
  unfold clerestoryref1_CharsClean.f chars_Clean.f
  have hq : 100 * s.size * s.size ≤ 100000000 := Nat.mul_le_mul (Nat.mul_le_mul (Nat.le_refl 100) hs) hs
  rw [ref_dec s (by omega) k (by omega), if_pos (by omega)]
  simp only [Option.bind_some]
  have hc := cleanR_len (runes s)
  refine ref_cleanL (runes s) (by omega) (runes s).length 0 [] _ 10000 (Nat.zero_le _) (by omega) (Nat.le_refl _) ?_ k (by omega)
  intro k hk
  rw [List.drop_zero, List.nil_append, clean_ref (runes s) 0, if_neg (by omega)]
  exact ref_enc _ (by omega) (fun x hx => cleanR_mem (fun x => -2147483648 ≤ x ∧ x ≤ 2147483647) (by decide) (by decide) (runes s) (fun y hy => by have := hr y hy; omega) x hx) k (by omega)

theorem CharsCleans : clerestorylaw1_CharsCleans.Pure := by
  intro s _
  refine ⟨200000001, ?_⟩
  obtain ⟨t, ht, hs⟩ := some_eq s
  unfold clerestorylaw1_CharsCleans.f
  rw [ht, begun _ (by decide)]
  simp only [Option.bind_some, if_true]
  rw [clean_both t (by omega) _ (by decide)]
  unfold chars_Clean.f
  rw [if_pos (by omega)]
  simp
end Go.Proofs.Ythecjfkafpndoaa.Pure
