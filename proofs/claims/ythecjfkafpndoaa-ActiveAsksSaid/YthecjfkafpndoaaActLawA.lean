/- Plain facts about the lists of formatting elements: what the program's functions and the reference's come to, each as one word over lists. No memory, no Go; conditions: the lists' sizes. -/
import Derived.Test.YthecjfkafpndoaaXAc3
import Derived.Test.YthecjfkafpndoaaXAc4
namespace Go.Proofs.Ythecjfkafpndoaa.Ac
open Go Go.RowKit Go.Proofs.Ythecjfkafpndoaa.XAc Go.Proofs.YthecjfkafpndoaaW.PrintWords Go.Proofs.YthecjfkafpndoaaW.PrintLast

theorem w64 (i : Int) (h0 : -4611686018427387904 ≤ i) (h1 : i ≤ 4611686018427387904) : wrap64 i = i := by unfold wrap64; omega
theorem drop_rd (l : List S25) (i : Nat) (h : i < l.length) : l.drop i = rd_T25 l (i : Int) :: l.drop (i + 1) := by
  rw [List.drop_eq_getElem_cons h]
  congr 1
  simp [rd_T25, List.getD, h]
theorem drop_rd99 (l : List S99) (i : Nat) (h : i < l.length) : l.drop i = rd_T99 l (i : Int) :: l.drop (i + 1) := by
  rw [List.drop_eq_getElem_cons h]
  congr 1
  simp [rd_T99, List.getD, h]
theorem rd_get (l : List S25) (i : Nat) (h : i < l.length) : rd_T25 l (i : Int) = l[i] := by simp [rd_T25, List.getD, h]

/-- Where the last ones begin. -/
def lastN (l : List S25) : Nat → Nat
  | 0 => 0
  | i + 1 => if (rd_T25 l (i : Int)).f0 = -1 then i + 1 else lastN l i
theorem lastN_le (l : List S25) : ∀ i, lastN l i ≤ i
  | 0 => Nat.le_refl _
  | i + 1 => by
    unfold lastN
    split
    · exact Nat.le_refl _
    · exact Nat.le_succ_of_le (lastN_le l i)
theorem last_l0 (l : List S25) (hl : l.length ≤ 1000000) : ∀ (i k : Nat), i ≤ l.length → i < k → active_Last.l0 k l (i : Int) = some ((lastN l i : Nat) : Int)
  | 0, k + 1, _, _ => by
    rw [active_Last.l0, if_neg (by omega)]
    rfl
  | i + 1, k + 1, h, hk => by
    rw [active_Last.l0, if_pos (by omega), show wrap64 (((i + 1 : Nat) : Int) - 1) = (i : Int) from by unfold wrap64; omega, if_pos (by omega), if_pos (by omega)]
    simp only [active_Marker.f, Option.bind_some]
    unfold lastN
    by_cases hm : (rd_T25 l (i : Int)).f0 = -1
    · rw [if_pos hm, if_pos (by simpa using hm)]
    · rw [if_neg hm, if_neg (by simpa using hm)]
      exact last_l0 l hl i k (by omega) (by omega)
theorem last_eq (l : List S25) (hl : l.length ≤ 1000000) (k : Nat) (hk : l.length < k) : active_Last.f k l = some ((lastN l l.length : Nat) : Int) := last_l0 l hl l.length k (Nat.le_refl _) hk
theorem parted_l0 (l : List S25) (hl : l.length ≤ 1000000) (d : Nat) : ∀ (i k : Nat), i + d = l.length → d < k → clerestoryref1_parted.l0 k l ((lastN l i : Nat) : Int) (i : Int) = some (l.take (lastN l l.length), l.drop (lastN l l.length)) := by
  induction d with
  | zero =>
    intro i k h hk
    obtain ⟨k, rfl⟩ : ∃ q, k = q + 1 := ⟨k - 1, by omega⟩
    obtain rfl : i = l.length := by omega
    have := lastN_le l l.length
    rw [clerestoryref1_parted.l0, if_neg (by omega), if_pos (by omega), if_pos (by omega)]
    rfl
  | succ d ih =>
    intro i k h hk
    obtain ⟨k, rfl⟩ : ∃ q, k = q + 1 := ⟨k - 1, by omega⟩
    rw [clerestoryref1_parted.l0, if_pos (by omega), if_pos (by omega), show wrap64 ((i : Int) + 1) = ((i + 1 : Nat) : Int) from by unfold wrap64; omega]
    have hs : lastN l (i + 1) = if (rd_T25 l (i : Int)).f0 = -1 then i + 1 else lastN l i := rfl
    by_cases hm : (rd_T25 l (i : Int)).f0 = -1
    · rw [if_pos hm]
      rw [if_pos hm] at hs
      rw [← ih (i + 1) k (by omega) (by omega), hs]
    · rw [if_neg hm]
      rw [if_neg hm] at hs
      rw [← ih (i + 1) k (by omega) (by omega), hs]
theorem parted_eq (l : List S25) (hl : l.length ≤ 1000000) (k : Nat) (hk : l.length < k) : clerestoryref1_parted.f k l = some (l.take (lastN l l.length), l.drop (lastN l l.length)) := parted_l0 l hl l.length 0 k (by omega) hk

/-- What is wrong with an item. -/
def badB (x : S25) : Bool := decide (x.f0 < -1) || (decide (x.f0 = -1) && (!decide (x.f1.toList = []) || decide (0 < x.f2.length)))
theorem check1_eq (x : S25) : active_Check_1.f x.f0 x.f1 x.f2 = some (badB x) := by
  unfold active_Check_1.f badB active_Marker.f
  simp only [Option.bind_some]
  by_cases h1 : x.f0 < -1
  · rw [if_pos h1]; simp [h1]
  · rw [if_neg h1]
    by_cases h2 : x.f0 = -1
    · rw [if_pos (by simpa using h2)]
      by_cases h3 : x.f1.toList = []
      · rw [if_pos h3]; simp [h2, h3]
      · rw [if_neg h3]; simp [h2, h3]
    · rw [if_neg (by simpa using h2)]; simp [h1, h2]
def chk (l : List S25) : Int := if 60 < l.length then 2 else if l.any badB = true then 3 else 0
theorem bad_eq (x : S25) : active_Check.bad x = badB x := by unfold active_Check.bad; rw [check1_eq]; rfl
theorem check_eq (l : List S25) (hl : l.length ≤ 1000000) : active_Check.f l = some (chk l) := by
  unfold active_Check.f
  rw [if_pos ⟨by omega, List.all_eq_true.2 fun x _ => by rw [check1_eq]; rfl⟩]
  unfold chk
  rw [show active_Check.bad = badB from funext bad_eq]
theorem refcheck_l0 (l : List S25) (hl : l.length ≤ 1000000) (d : Nat) : ∀ (i k : Nat), i + d = l.length → d < k → clerestoryref1_ActiveCheck.l0 k l (i : Int) = some (if (l.drop i).any badB = true then 3 else 0) := by
  induction d with
  | zero =>
    intro i k h hk
    obtain ⟨k, rfl⟩ : ∃ q, k = q + 1 := ⟨k - 1, by omega⟩
    rw [clerestoryref1_ActiveCheck.l0, if_neg (by omega), List.drop_eq_nil_of_le (by omega)]
    rfl
  | succ d ih =>
    intro i k h hk
    obtain ⟨k, rfl⟩ : ∃ q, k = q + 1 := ⟨k - 1, by omega⟩
    have hi := ih (i + 1) k (by omega) (by omega)
    rw [clerestoryref1_ActiveCheck.l0, if_pos (by omega), if_pos (by omega), show wrap64 ((i : Int) + 1) = ((i + 1 : Nat) : Int) from by unfold wrap64; omega, drop_rd l i (by omega), List.any_cons, hi]
    generalize rd_T25 l (i : Int) = x
    unfold badB
    by_cases h1 : x.f0 < -1
    · simp [h1]
    · rw [if_neg h1]
      by_cases h2 : x.f0 = -1
      · rw [if_pos h2]
        by_cases h3 : x.f1.toList = []
        · rw [if_pos h3]
          by_cases h4 : (x.f2.length : Int) > 0
          · have : 0 < x.f2.length := by omega
            rw [if_pos h4]; simp [h2, h3, this]
          · have : ¬ 0 < x.f2.length := by omega
            rw [if_neg h4]; simp [h2, h3, this]
        · rw [if_neg h3]; simp [h2, h3]
      · rw [if_neg h2]; simp [h1, h2]
theorem refcheck_eq (l : List S25) (hl : l.length ≤ 1000000) (k : Nat) (hk : l.length < k) : clerestoryref1_ActiveCheck.f k l = some (chk l) := by
  unfold clerestoryref1_ActiveCheck.f chk
  by_cases h : 60 < l.length
  · rw [if_pos (by omega), if_pos h]
  · rw [if_neg (by omega), if_neg h]
    exact refcheck_l0 l hl l.length 0 k (by omega) hk

end Go.Proofs.Ythecjfkafpndoaa.Ac
