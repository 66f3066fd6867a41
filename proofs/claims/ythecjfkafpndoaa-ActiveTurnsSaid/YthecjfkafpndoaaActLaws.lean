/- Plain facts about the lists of formatting elements: what the program's functions and the reference's come to, each as one word over lists. No memory, no Go; conditions: the lists' sizes. -/
import Derived.Test.YthecjfkafpndoaaXAc9
namespace Go.Proofs.Ythecjfkafpndoaa.Ac
open Go Go.RowKit Go.Proofs.Ythecjfkafpndoaa.XAc Go.Proofs.YthecjfkafpndoaaW.PrintWords Go.Proofs.YthecjfkafpndoaaW.PrintLast

theorem w64 (i : Int) (h0 : -4611686018427387904 ≤ i) (h1 : i ≤ 4611686018427387904) : wrap64 i = i := by unfold wrap64; omega
theorem drop_rd (l : List S25) (i : Nat) (h : i < l.length) : l.drop i = rd_T25 l (i : Int) :: l.drop (i + 1) := by
  rw [List.drop_eq_getElem_cons h]
  congr 1
  simp [rd_T25, List.getD, h]
theorem drop_rd99 (l : List S99) (i : Nat) (h : i < l.length) : l.drop i = rd_T99 l (i : Int) :: l.drop (i + 1) := by
  rw [List.drop_eq_getElem_cons h]
  congr 1
  simp [rd_T99, List.getD, h]
theorem rd_get (l : List S25) (i : Nat) (h : i < l.length) : rd_T25 l (i : Int) = l[i] := by simp [rd_T25, List.getD, h]

/-- Where the last ones begin. -/
def lastN (l : List S25) : Nat → Nat
  | 0 => 0
  | i + 1 => if (rd_T25 l (i : Int)).f0 = -1 then i + 1 else lastN l i
theorem lastN_le (l : List S25) : ∀ i, lastN l i ≤ i
  | 0 => Nat.le_refl _
  | i + 1 => by
    unfold lastN
    split
    · exact Nat.le_refl _
    · exact Nat.le_succ_of_le (lastN_le l i)
theorem last_l0 (l : List S25) (hl : l.length ≤ 1000000) : ∀ (i k : Nat), i ≤ l.length → i < k → active_Last.l0 k l (i : Int) = some ((lastN l i : Nat) : Int)
  | 0, k + 1, _, _ => by
    rw [active_Last.l0, if_neg (by omega)]
    rfl
  | i + 1, k + 1, h, hk => by
    rw [active_Last.l0, if_pos (by omega), show wrap64 (((i + 1 : Nat) : Int) - 1) = (i : Int) from by unfold wrap64; omega, if_pos (by omega), if_pos (by omega)]
    simp only [active_Marker.f, Option.bind_some]
    unfold lastN
    by_cases hm : (rd_T25 l (i : Int)).f0 = -1
    · rw [if_pos hm, if_pos (by simpa using hm)]
    · rw [if_neg hm, if_neg (by simpa using hm)]
      exact last_l0 l hl i k (by omega) (by omega)
theorem last_eq (l : List S25) (hl : l.length ≤ 1000000) (k : Nat) (hk : l.length < k) : active_Last.f k l = some ((lastN l l.length : Nat) : Int) := last_l0 l hl l.length k (Nat.le_refl _) hk
theorem parted_l0 (l : List S25) (hl : l.length ≤ 1000000) (d : Nat) : ∀ (i k : Nat), i + d = l.length → d < k → clerestoryref1_parted.l0 k l ((lastN l i : Nat) : Int) (i : Int) = some (l.take (lastN l l.length), l.drop (lastN l l.length)) := by
  induction d with
  | zero =>
    intro i k h hk
    obtain ⟨k, rfl⟩ : ∃ q, k = q + 1 := ⟨k - 1, by omega⟩
    obtain rfl : i = l.length := by omega
    have := lastN_le l l.length
    rw [clerestoryref1_parted.l0, if_neg (by omega), if_pos (by omega), if_pos (by omega)]
    rfl
  | succ d ih =>
    intro i k h hk
    obtain ⟨k, rfl⟩ : ∃ q, k = q + 1 := ⟨k - 1, by omega⟩
    rw [clerestoryref1_parted.l0, if_pos (by omega), if_pos (by omega), show wrap64 ((i : Int) + 1) = ((i + 1 : Nat) : Int) from by unfold wrap64; omega]
    have hs : lastN l (i + 1) = if (rd_T25 l (i : Int)).f0 = -1 then i + 1 else lastN l i := rfl
    by_cases hm : (rd_T25 l (i : Int)).f0 = -1
    · rw [if_pos hm]
      rw [if_pos hm] at hs
      rw [← ih (i + 1) k (by omega) (by omega), hs]
    · rw [if_neg hm]
      rw [if_neg hm] at hs
      rw [← ih (i + 1) k (by omega) (by omega), hs]
theorem parted_eq (l : List S25) (hl : l.length ≤ 1000000) (k : Nat) (hk : l.length < k) : clerestoryref1_parted.f k l = some (l.take (lastN l l.length), l.drop (lastN l l.length)) := parted_l0 l hl l.length 0 k (by omega) hk

/-- What is wrong with an item. -/
def badB (x : S25) : Bool := decide (x.f0 < -1) || (decide (x.f0 = -1) && (!decide (x.f1.toList = []) || decide (0 < x.f2.length)))
theorem check1_eq (x : S25) : active_Check_1.f x.f0 x.f1 x.f2 = some (badB x) := by
  unfold active_Check_1.f badB active_Marker.f
  simp only [Option.bind_some]
  by_cases h1 : x.f0 < -1
  · rw [if_pos h1]; simp [h1]
  · rw [if_neg h1]
    by_cases h2 : x.f0 = -1
    · rw [if_pos (by simpa using h2)]
      by_cases h3 : x.f1.toList = []
      · rw [if_pos h3]; simp [h2, h3]
      · rw [if_neg h3]; simp [h2, h3]
    · rw [if_neg (by simpa using h2)]; simp [h1, h2]
def chk (l : List S25) : Int := if 60 < l.length then 2 else if l.any badB = true then 3 else 0
theorem bad_eq (x : S25) : active_Check.bad x = badB x := by unfold active_Check.bad; rw [check1_eq]; rfl
theorem check_eq (l : List S25) (hl : l.length ≤ 1000000) : active_Check.f l = some (chk l) := by
  unfold active_Check.f
  rw [if_pos ⟨by omega, List.all_eq_true.2 fun x _ => by rw [check1_eq]; rfl⟩]
  unfold chk
  rw [show active_Check.bad = badB from funext bad_eq]
theorem refcheck_l0 (l : List S25) (hl : l.length ≤ 1000000) (d : Nat) : ∀ (i k : Nat), i + d = l.length → d < k → clerestoryref1_ActiveCheck.l0 k l (i : Int) = some (if (l.drop i).any badB = true then 3 else 0) := by
  induction d with
  | zero =>
    intro i k h hk
    obtain ⟨k, rfl⟩ : ∃ q, k = q + 1 := ⟨k - 1, by omega⟩
    rw [clerestoryref1_ActiveCheck.l0, if_neg (by omega), List.drop_eq_nil_of_le (by omega)]
    rfl
  | succ d ih =>
    intro i k h hk
    obtain ⟨k, rfl⟩ : ∃ q, k = q + 1 := ⟨k - 1, by omega⟩
    have hi := ih (i + 1) k (by omega) (by omega)
    rw [clerestoryref1_ActiveCheck.l0, if_pos (by omega), if_pos (by omega), show wrap64 ((i : Int) + 1) = ((i + 1 : Nat) : Int) from by unfold wrap64; omega, drop_rd l i (by omega), List.any_cons, hi]
    generalize rd_T25 l (i : Int) = x
    unfold badB
    by_cases h1 : x.f0 < -1
    · simp [h1]
    · rw [if_neg h1]
      by_cases h2 : x.f0 = -1
      · rw [if_pos h2]
        by_cases h3 : x.f1.toList = []
        · rw [if_pos h3]
          by_cases h4 : (x.f2.length : Int) > 0
          · have : 0 < x.f2.length := by omega
            rw [if_pos h4]; simp [h2, h3, this]
          · have : ¬ 0 < x.f2.length := by omega
            rw [if_neg h4]; simp [h2, h3, this]
        · rw [if_neg h3]; simp [h2, h3]
      · rw [if_neg h2]; simp [h1, h2]
theorem refcheck_eq (l : List S25) (hl : l.length ≤ 1000000) (k : Nat) (hk : l.length < k) : clerestoryref1_ActiveCheck.f k l = some (chk l) := by
  unfold clerestoryref1_ActiveCheck.f chk
  by_cases h : 60 < l.length
  · rw [if_pos (by omega), if_pos h]
  · rw [if_neg (by omega), if_neg h]
    exact refcheck_l0 l hl l.length 0 k (by omega) hk

/-- An own copy is the same list. -/
theorem own_l0 (l : List S25) (hl : l.length ≤ 1000000) (ha : ∀ x ∈ l, x.f2.length * 32 ≤ 140737488355328) (d : Nat) : ∀ (i k : Nat), i + d = l.length → d < k → active_own.l0 k l (l.length : Int) (i : Int) = some l := by
  induction d with
  | zero =>
    intro i k h hk
    obtain ⟨k, rfl⟩ : ∃ q, k = q + 1 := ⟨k - 1, by omega⟩
    rw [active_own.l0, if_neg (by omega)]
  | succ d ih =>
    intro i k h hk
    obtain ⟨k, rfl⟩ : ∃ q, k = q + 1 := ⟨k - 1, by omega⟩
    have hlt : i < l.length := by omega
    have hr := rd_get l i hlt
    have hb : api_Attr_85.f (rd_T25 l (i : Int)).f2 = some (rd_T25 l (i : Int)).f2 := by
      unfold api_Attr_85.f
      rw [if_pos (by rw [hr]; exact ha _ (List.getElem_mem hlt))]
    rw [active_own.l0, if_pos (by omega), if_pos (by omega), if_pos (by omega), hb, show wrap64 ((i : Int) + 1) = ((i + 1 : Nat) : Int) from by unfold wrap64; omega]
    simp only [Option.bind_some]
    rw [show l.set ((i : Int)).toNat (⟨(rd_T25 l (i : Int)).f0, (rd_T25 l (i : Int)).f1, (rd_T25 l (i : Int)).f2⟩ : S25) = l from by
      show l.set i (rd_T25 l (i : Int)) = l
      rw [hr]
      exact List.set_getElem_self hlt]
    exact ih (i + 1) k (by omega) (by omega)
theorem own_eq (l : List S25) (hl : l.length ≤ 1000000) (ha : ∀ x ∈ l, x.f2.length * 32 ≤ 140737488355328) (k : Nat) (hk : l.length < k) : active_own.f k l = some l := by
  unfold active_own.f api_HItem_49.f
  rw [if_pos (by omega)]
  exact own_l0 l hl ha l.length 0 k (by omega) hk

/-- Two attributes alike; does one stand in a list? -/
def eqA (x y : S99) : Bool := x.f0.toList == y.f0.toList && x.f1.toList == y.f1.toList
theorem eqA_comm (x y : S99) : eqA x y = eqA y x := by
  unfold eqA
  rw [Bool.eq_iff_iff]
  simp only [Bool.and_eq_true, beq_iff_eq]
  constructor <;> rintro ⟨a, b⟩ <;> exact ⟨a.symm, b.symm⟩
def stands (l : List S99) (a : S99) : Bool := l.any (fun y => eqA y a)
theorem stands_l0 (l : List S99) (hl : l.length ≤ 1000000000000000) (a : S99) (d : Nat) : ∀ (i k : Nat), i + d = l.length → d < k → clerestoryref1_standsIn.l0 k l (i : Int) a.f0 a.f1 = some ((l.drop i).any (fun y => eqA y a)) := by
  induction d with
  | zero =>
    intro i k h hk
    obtain ⟨k, rfl⟩ : ∃ q, k = q + 1 := ⟨k - 1, by omega⟩
    rw [clerestoryref1_standsIn.l0, if_neg (by omega), List.drop_eq_nil_of_le (by omega)]
    rfl
  | succ d ih =>
    intro i k h hk
    obtain ⟨k, rfl⟩ : ∃ q, k = q + 1 := ⟨k - 1, by omega⟩
    have hi := ih (i + 1) k (by omega) (by omega)
    rw [clerestoryref1_standsIn.l0, if_pos (by omega), if_pos (by omega), show wrap64 ((i : Int) + 1) = ((i + 1 : Nat) : Int) from by unfold wrap64; omega, drop_rd99 l i (by omega), List.any_cons, hi]
    show (if eqA (rd_T99 l (i : Int)) a = true then some true else _) = _
    cases eqA (rd_T99 l (i : Int)) a <;> simp
theorem stands_eq (l : List S99) (hl : l.length ≤ 1000000000000000) (a : S99) (k : Nat) (hk : l.length < k) : clerestoryref1_standsIn.f k l a.f0 a.f1 = some (stands l a) := stands_l0 l hl a l.length 0 k (by omega) hk
theorem index_l0 (l : List S99) (hl : l.length ≤ 1000000000000000) (a : S99) (d : Nat) : ∀ (i k : Nat), i + d = l.length → d < k → ∃ r, api_Attr_123.l0 k l (l.length : Int) (i : Int) a.f0 a.f1 = some r ∧ decide (r ≥ 0) = (l.drop i).any (fun y => eqA a y) := by
  induction d with
  | zero =>
    intro i k h hk
    obtain ⟨k, rfl⟩ : ∃ q, k = q + 1 := ⟨k - 1, by omega⟩
    rw [api_Attr_123.l0, if_neg (by omega), List.drop_eq_nil_of_le (by omega)]
    exact ⟨_, rfl, rfl⟩
  | succ d ih =>
    intro i k h hk
    obtain ⟨k, rfl⟩ : ∃ q, k = q + 1 := ⟨k - 1, by omega⟩
    obtain ⟨r, hi, hd⟩ := ih (i + 1) k (by omega) (by omega)
    rw [api_Attr_123.l0, if_pos (by omega), if_pos (by omega), if_pos (by omega), show wrap64 ((i : Int) + 1) = ((i + 1 : Nat) : Int) from by unfold wrap64; omega, drop_rd99 l i (by omega), List.any_cons, hi]
    show ∃ r', (if eqA a (rd_T99 l (i : Int)) = true then some (i : Int) else some r) = some r' ∧ _
    cases eqA a (rd_T99 l (i : Int)) with
    | true => exact ⟨_, rfl, by simp⟩
    | false => exact ⟨r, rfl, by simpa using hd⟩
theorem contains_eq (l : List S99) (hl : l.length ≤ 1000000000000000) (a : S99) (k : Nat) (hk : l.length < k) : api_Attr_120.f k l a.f0 a.f1 = some (stands l a) := by
  obtain ⟨r, h1, h2⟩ := index_l0 l hl a l.length 0 k (by omega) hk
  unfold api_Attr_120.f api_Attr_123.f
  rw [show api_Attr_123.l0 k l (l.length : Int) 0 a.f0 a.f1 = some r from h1]
  simp only [Option.bind_some]
  rw [h2, List.drop_zero]
  unfold stands
  congr 2
  funext y
  exact eqA_comm a y
theorem within_eq (l m : List S99) (hl : l.length * 32 ≤ 140737488355328) (hm : m.length * 32 ≤ 140737488355328) (k : Nat) (hk : m.length < k) : active_within.f k l m = some (l.all (stands m)) := by
  unfold active_within.f
  have he : ∀ x : S99, api_Attr_120.f k m x.f0 x.f1 = some (stands m x) := fun x => contains_eq m (by omega) x k hk
  rw [if_pos ⟨hl, List.all_eq_true.2 fun x _ => by rw [he]; rfl⟩]
  congr 1
  rw [Bool.eq_iff_iff]
  simp [he]
/-- Two items alike. -/
def alk (x y : S25) : Bool := decide (x.f1.toList = y.f1.toList) && (decide (x.f2.length = y.f2.length) && (x.f2.all (stands y.f2) && y.f2.all (stands x.f2)))
def small (x : S25) : Prop := x.f2.length * 32 ≤ 140737488355328
theorem alike_eq (x y : S25) (hx : small x) (hy : small y) (k : Nat) (h1 : x.f2.length < k) (h2 : y.f2.length < k) : active_alike.f k x.f0 x.f1 x.f2 y.f0 y.f1 y.f2 = some (alk x y) := by
  unfold active_alike.f alk
  rw [within_eq _ _ hx hy k h2, within_eq _ _ hy hx k h1]
  by_cases e1 : x.f1.toList = y.f1.toList
  · rw [if_pos e1]
    by_cases e2 : x.f2.length = y.f2.length
    · rw [if_pos (by omega)]
      simp only [Option.bind_some]
      cases x.f2.all (stands y.f2) <;> simp [e1, e2]
    · rw [if_neg (by omega)]; simp [e2]
  · rw [if_neg e1]; simp [e1]
theorem refalike_l0 (x y : S25) (hx : small x) (he : x.f2.length = y.f2.length) (d : Nat) : ∀ (i k : Nat), i + d = x.f2.length → d + x.f2.length < k → clerestoryref1_ItemsAlike.l0 k (i : Int) x.f0 x.f1 x.f2 y.f0 y.f1 y.f2 = some ((x.f2.drop i).all (stands y.f2) && (y.f2.drop i).all (stands x.f2)) := by
  unfold small at hx
  induction d with
  | zero =>
    intro i k h hk
    obtain ⟨k, rfl⟩ : ∃ q, k = q + 1 := ⟨k - 1, by omega⟩
    rw [clerestoryref1_ItemsAlike.l0, if_neg (by omega), List.drop_eq_nil_of_le (by omega), List.drop_eq_nil_of_le (by omega)]
    rfl
  | succ d ih =>
    intro i k h hk
    obtain ⟨k, rfl⟩ : ∃ q, k = q + 1 := ⟨k - 1, by omega⟩
    have hi := ih (i + 1) k (by omega) (by omega)
    rw [clerestoryref1_ItemsAlike.l0, if_pos (by omega), if_pos (by omega), stands_eq y.f2 (by omega) _ k (by omega), stands_eq x.f2 (by omega) _ k (by omega), show wrap64 ((i : Int) + 1) = ((i + 1 : Nat) : Int) from by unfold wrap64; omega, hi, drop_rd99 x.f2 i (by omega), drop_rd99 y.f2 i (by omega), List.all_cons, List.all_cons, if_pos (show (i : Int) < (y.f2.length : Int) by omega)]
    simp only [Option.bind_some]
    cases stands y.f2 (rd_T99 x.f2 (i : Int)) <;> cases stands x.f2 (rd_T99 y.f2 (i : Int)) <;> simp
theorem refalike_eq (x y : S25) (hx : small x) (k : Nat) (hk : x.f2.length + x.f2.length + 1 < k) : clerestoryref1_ItemsAlike.f k x.f0 x.f1 x.f2 y.f0 y.f1 y.f2 = some (alk x y) := by
  obtain ⟨k, rfl⟩ : ∃ q, k = q + 1 := ⟨k - 1, by omega⟩
  unfold clerestoryref1_ItemsAlike.f alk
  by_cases e1 : x.f1.toList = y.f1.toList
  · rw [if_pos e1]
    by_cases e2 : x.f2.length = y.f2.length
    · rw [show ((x.f2.length : Int) != (y.f2.length : Int)) = false by simp [e2], clerestoryref1_ItemsAlike.j0, if_neg (by decide)]
      have := refalike_l0 x y hx e2 x.f2.length 0 k (by omega) (by omega)
      rw [show ((0 : Nat) : Int) = 0 from rfl, List.drop_zero, List.drop_zero] at this
      rw [this]
      simp [e1, e2]
    · rw [show ((x.f2.length : Int) != (y.f2.length : Int)) = true by simp; omega, clerestoryref1_ItemsAlike.j0, if_pos rfl]
      simp [e2]
  · rw [if_neg e1, clerestoryref1_ItemsAlike.j0, if_pos rfl]
    simp [e1]
end Go.Proofs.Ythecjfkafpndoaa.Ac
