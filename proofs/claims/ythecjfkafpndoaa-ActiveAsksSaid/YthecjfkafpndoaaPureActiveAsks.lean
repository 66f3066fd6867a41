/- The plain law behind ActiveAsks: Find and Again come to what the reference's come to, for every list, name and open elements. -/
import Derived.Test.YthecjfkafpndoaaActLawA
import Derived.Test.YthecjfkafpndoaaQActiveAsks
namespace Go.Proofs.Ythecjfkafpndoaa.Pure
open Go Go.RowKit Go.Proofs.Ythecjfkafpndoaa.Ac Go.Proofs.Ythecjfkafpndoaa.XAc Go.Proofs.YthecjfkafpndoaaW.PrintWords Go.Proofs.YthecjfkafpndoaaW.PrintLast

theorem begunA12 : clerestorylaw1_activeBegun.f 12 = some true := by decide +kernel
theorem begunA_eq (k : Nat) (hk : 12 ≤ k) : clerestorylaw1_activeBegun.f k = some true := at_rounds (g := fun k => clerestorylaw1_activeBegun.f k) clerestorylaw1_activeBegun.mono hk begunA12

/-- The last place below j, from a on, of a name; -1: there is none. -/
def fndN (l : List S25) (nm : ByteArray) (a : Nat) : Nat → Int
  | 0 => -1
  | j + 1 => if a ≤ j then (if (rd_T25 l (j : Int)).f1.toList = nm.toList then (j : Int) else fndN l nm a j) else -1
theorem fndN_lt (l : List S25) (nm : ByteArray) (a : Nat) : ∀ j, j ≤ a → fndN l nm a j = -1
  | 0, _ => rfl
  | j + 1, h => by unfold fndN; rw [if_neg (by omega)]
theorem found_l0 (l : List S25) (nm : ByteArray) (hl : l.length ≤ 1000) : ∀ (j k : Nat), j ≤ l.length → j + l.length + 1 < k → active_Found.l0 k l nm ((j : Int) - 1) = some (fndN l nm (lastN l l.length) j)
  | 0, k, _, hk => by
    obtain ⟨k, rfl⟩ : ∃ q, k = q + 1 := ⟨k - 1, by omega⟩
    rw [active_Found.l0, last_eq l (by omega) k (by omega)]
    simp only [Option.bind_some]
    rw [if_neg (by omega)]
    rfl
  | j + 1, k, h, hk => by
    obtain ⟨k, rfl⟩ : ∃ q, k = q + 1 := ⟨k - 1, by omega⟩
    have e : (((j + 1 : Nat) : Int) - 1) = (j : Int) := by omega
    rw [e, active_Found.l0, last_eq l (by omega) k (by omega)]
    simp only [Option.bind_some]
    unfold fndN
    by_cases hc : lastN l l.length ≤ j
    · rw [if_pos (by omega), if_pos (by omega), if_pos (by omega), if_pos hc]
      by_cases hn : (rd_T25 l (j : Int)).f1.toList = nm.toList
      · rw [if_pos hn, if_pos hn]
      · rw [if_neg hn, if_neg hn, show wrap64 ((j : Int) - 1) = (j : Int) - 1 from by unfold wrap64; omega]
        exact found_l0 l nm hl j k (by omega) (by omega)
    · rw [if_neg (by omega), if_neg hc]
theorem found_eq (l : List S25) (nm : ByteArray) (hl : l.length ≤ 1000) (k : Nat) (hk : l.length + l.length + 1 < k) : active_Found.f k l nm = some (fndN l nm (lastN l l.length) l.length) := by
  unfold active_Found.f
  rw [show wrap64 ((l.length : Int) - 1) = (l.length : Int) - 1 from by unfold wrap64; omega]
  exact found_l0 l nm hl l.length k (Nat.le_refl _) hk
theorem rd_drop (l : List S25) (a i : Nat) (h : a + i < l.length) : rd_T25 (l.drop a) (i : Int) = rd_T25 l ((a + i : Nat) : Int) := by
  rw [rd_get _ _ (by rw [List.length_drop]; omega), rd_get _ _ h]
  simp
theorem reffind_l0 (l : List S25) (nm : ByteArray) (a : Nat) (hl : l.length ≤ 1000) (ha : a ≤ l.length) (d : Nat) : ∀ (i k : Nat), a + i + d = l.length → d < k →
    clerestoryref1_ActiveFind.l0 k nm (l.take a) (l.drop a) (fndN l nm a (a + i)) (i : Int) = some (fndN l nm a l.length) := by
  have h1 : (l.take a).length = a := by rw [List.length_take]; omega
  have h2 : (l.drop a).length = l.length - a := List.length_drop
  induction d with
  | zero =>
    intro i k h hk
    obtain ⟨k, rfl⟩ : ∃ q, k = q + 1 := ⟨k - 1, by omega⟩
    rw [clerestoryref1_ActiveFind.l0, if_neg (by omega), show a + i = l.length by omega]
  | succ d ih =>
    intro i k h hk
    obtain ⟨k, rfl⟩ : ∃ q, k = q + 1 := ⟨k - 1, by omega⟩
    have hs : fndN l nm a (a + (i + 1)) = if (rd_T25 l ((a + i : Nat) : Int)).f1.toList = nm.toList then ((a + i : Nat) : Int) else fndN l nm a (a + i) := by
      rw [show a + (i + 1) = (a + i) + 1 by omega]
      conv => lhs; unfold fndN
      rw [if_pos (by omega)]
    have hi := ih (i + 1) k (by omega) (by omega)
    rw [hs] at hi
    rw [clerestoryref1_ActiveFind.l0, if_pos (by omega), if_pos (by omega), rd_drop l a i (by omega), h1, show wrap64 ((a : Int) + (i : Int)) = ((a + i : Nat) : Int) from by unfold wrap64; omega, show wrap64 ((i : Int) + 1) = ((i + 1 : Nat) : Int) from by unfold wrap64; omega]
    by_cases hn : (rd_T25 l ((a + i : Nat) : Int)).f1.toList = nm.toList
    · rw [if_pos hn]; rw [if_pos hn] at hi; exact hi
    · rw [if_neg hn]; rw [if_neg hn] at hi; exact hi
theorem reffind_eq (l : List S25) (nm : ByteArray) (hl : l.length ≤ 1000) (k : Nat) (hk : l.length < k) : clerestoryref1_ActiveFind.f k l nm = some (fndN l nm (lastN l l.length) l.length) := by
  unfold clerestoryref1_ActiveFind.f
  have hle := lastN_le l l.length
  rw [parted_eq l (by omega) k hk]
  simp only [Option.bind_some]
  have := reffind_l0 l nm (lastN l l.length) hl hle (l.length - lastN l l.length) 0 k (by omega) (by omega)
  rw [Nat.add_zero, fndN_lt l nm _ _ (Nat.le_refl _)] at this
  exact this

/-- Does a number stand in a list? -/
def hasI (o : List Int) (x : Int) : Bool := o.any (fun y => decide (y = x))
theorem dropI (o : List Int) (i : Nat) (h : i < o.length) : o.drop i = rd o (i : Int) :: o.drop (i + 1) := by
  rw [List.drop_eq_getElem_cons h]
  congr 1
  simp [rd, List.getD, h]
theorem index_any (o : List Int) (x : Int) (ho : o.length ≤ 1000) (d : Nat) : ∀ (i k : Nat), i + d = o.length → d < k → ∃ r, slices_Index_int_int.l0 k o x (o.length : Int) (i : Int) = some r ∧ decide (r ≥ 0) = (o.drop i).any (fun y => decide (y = x)) := by
  induction d with
  | zero =>
    intro i k h hk
    obtain ⟨k, rfl⟩ : ∃ q, k = q + 1 := ⟨k - 1, by omega⟩
    rw [slices_Index_int_int.l0, if_neg (by omega), List.drop_eq_nil_of_le (by omega)]
    exact ⟨_, rfl, rfl⟩
  | succ d ih =>
    intro i k h hk
    obtain ⟨k, rfl⟩ : ∃ q, k = q + 1 := ⟨k - 1, by omega⟩
    obtain ⟨r, hi, hd⟩ := ih (i + 1) k (by omega) (by omega)
    rw [slices_Index_int_int.l0, if_pos (by omega), if_pos (by omega), if_pos (by omega), show wrap64 ((i : Int) + 1) = ((i + 1 : Nat) : Int) from by unfold wrap64; omega, hi, dropI o i (by omega), List.any_cons]
    by_cases hx : x = rd o (i : Int)
    · rw [if_pos hx]; exact ⟨_, rfl, by simp [hx.symm]⟩
    · rw [if_neg hx]; exact ⟨r, rfl, by simpa [Ne.symm hx] using hd⟩
theorem containsI_eq (o : List Int) (x : Int) (ho : o.length ≤ 1000) (k : Nat) (hk : o.length < k) : slices_Contains_int_int.f k o x = some (hasI o x) := by
  obtain ⟨r, h1, h2⟩ := index_any o x ho o.length 0 k (by omega) hk
  unfold slices_Contains_int_int.f slices_Index_int_int.f
  rw [show slices_Index_int_int.l0 k o x (o.length : Int) 0 = some r from h1]
  simp only [Option.bind_some]
  rw [h2, List.drop_zero]
  rfl
theorem place_any (o : List Int) (x : Int) (ho : o.length ≤ 1000) (d : Nat) : ∀ (i k : Nat), i + d = o.length → d < k → ∃ r, clerestoryref1_placeIn.l0 k o x (i : Int) = some r ∧ decide (r ≥ 0) = (o.drop i).any (fun y => decide (y = x)) := by
  induction d with
  | zero =>
    intro i k h hk
    obtain ⟨k, rfl⟩ : ∃ q, k = q + 1 := ⟨k - 1, by omega⟩
    rw [clerestoryref1_placeIn.l0, if_neg (by omega), List.drop_eq_nil_of_le (by omega)]
    exact ⟨_, rfl, rfl⟩
  | succ d ih =>
    intro i k h hk
    obtain ⟨k, rfl⟩ : ∃ q, k = q + 1 := ⟨k - 1, by omega⟩
    obtain ⟨r, hi, hd⟩ := ih (i + 1) k (by omega) (by omega)
    rw [clerestoryref1_placeIn.l0, if_pos (by omega), if_pos (by omega), show wrap64 ((i : Int) + 1) = ((i + 1 : Nat) : Int) from by unfold wrap64; omega, hi, dropI o i (by omega), List.any_cons]
    by_cases hx : rd o (i : Int) = x
    · rw [if_pos hx]; exact ⟨_, rfl, by simp [hx]⟩
    · rw [if_neg hx]; exact ⟨r, rfl, by simpa [hx] using hd⟩
theorem place_eq (o : List Int) (x : Int) (ho : o.length ≤ 1000) (k : Nat) (hk : o.length < k) : ∃ r, clerestoryref1_placeIn.f k o x = some r ∧ decide (r ≥ 0) = hasI o x := by
  obtain ⟨r, h1, h2⟩ := place_any o x ho o.length 0 k (by omega) hk
  exact ⟨r, h1, by rw [h2, List.drop_zero]; rfl⟩

/-- From where on items are missing. -/
def missN (l : List S25) (o : List Int) (a : Nat) : Nat → Nat
  | 0 => 0
  | j + 1 => if a ≤ j then (if hasI o (rd_T25 l (j : Int)).f0 = true then j + 1 else missN l o a j) else j + 1
theorem missN_at (l : List S25) (o : List Int) (a : Nat) : ∀ j, j ≤ a → missN l o a j = j
  | 0, _ => rfl
  | j + 1, h => by unfold missN; rw [if_neg (by omega)]
theorem missN_le (l : List S25) (o : List Int) (a : Nat) : ∀ j, missN l o a j ≤ j
  | 0 => Nat.le_refl _
  | j + 1 => by
    unfold missN
    split
    · split
      · exact Nat.le_refl _
      · exact Nat.le_succ_of_le (missN_le l o a j)
    · exact Nat.le_refl _
theorem missing_l0 (l : List S25) (o : List Int) (hl : l.length ≤ 1000) (ho : o.length ≤ 1000) : ∀ (j k : Nat), j ≤ l.length → j + l.length + o.length + 1 < k → active_Missing.l0 k l o (j : Int) = some ((missN l o (lastN l l.length) j : Nat) : Int)
  | 0, k, _, hk => by
    obtain ⟨k, rfl⟩ : ∃ q, k = q + 1 := ⟨k - 1, by omega⟩
    rw [active_Missing.l0, last_eq l (by omega) k (by omega)]
    simp only [Option.bind_some]
    rw [if_neg (by omega)]
    rfl
  | j + 1, k, h, hk => by
    obtain ⟨k, rfl⟩ : ∃ q, k = q + 1 := ⟨k - 1, by omega⟩
    rw [active_Missing.l0, last_eq l (by omega) k (by omega)]
    simp only [Option.bind_some]
    unfold missN
    rw [show wrap64 (((j + 1 : Nat) : Int) - 1) = (j : Int) from by unfold wrap64; omega]
    by_cases hc : lastN l l.length ≤ j
    · rw [if_pos (by omega), if_pos (by omega), if_pos (by omega), if_pos hc, containsI_eq o _ ho k (by omega)]
      simp only [Option.bind_some]
      cases hasI o (rd_T25 l (j : Int)).f0 with
      | true => rw [if_pos rfl, if_pos rfl]
      | false =>
        rw [if_neg (by decide), if_neg (by decide)]
        exact missing_l0 l o hl ho j k (by omega) (by omega)
    · rw [if_neg (by omega), if_neg hc]

/-- The numbers from p on, n of them. -/
def rng (p : Nat) : Nat → List Int
  | 0 => []
  | n + 1 => rng p n ++ [((p + n : Nat) : Int)]
theorem rng_len (p : Nat) : ∀ n, (rng p n).length = n
  | 0 => rfl
  | n + 1 => by simp [rng, rng_len p n]
theorem again_l0 (l : List S25) (hl : l.length ≤ 1000) (p : Nat) (d : Nat) : ∀ (n k : Nat), p + n + d = l.length → d < k → active_Again.l0 k l (rng p n) ((p + n : Nat) : Int) = some (rng p (l.length - p), 0) := by
  induction d with
  | zero =>
    intro n k h hk
    obtain ⟨k, rfl⟩ : ∃ q, k = q + 1 := ⟨k - 1, by omega⟩
    rw [active_Again.l0, if_neg (by omega), show l.length - p = n by omega]
  | succ d ih =>
    intro n k h hk
    obtain ⟨k, rfl⟩ : ∃ q, k = q + 1 := ⟨k - 1, by omega⟩
    rw [active_Again.l0, if_pos (by omega), if_pos (by rw [rng_len]; omega), show wrap64 (((p + n : Nat) : Int) + 1) = ((p + (n + 1) : Nat) : Int) from by unfold wrap64; omega]
    exact ih (n + 1) k (by omega) (by omega)
def againS (l : List S25) (o : List Int) : List Int := rng (missN l o (lastN l l.length) l.length) (l.length - missN l o (lastN l l.length) l.length)
theorem again_eq (l : List S25) (o : List Int) (hl : l.length ≤ 1000) (ho : o.length ≤ 1000) (k : Nat) (hk : l.length + l.length + o.length + 1 < k) : active_Again.f k l o = some (if chk l = 0 then againS l o else [], chk l) := by
  unfold active_Again.f active_Missing.f
  rw [check_eq l (by omega), missing_l0 l o hl ho l.length k (Nat.le_refl _) hk]
  simp only [Option.bind_some]
  by_cases h : chk l = 0
  · rw [if_pos h, if_pos h, h]
    have hm := missN_le l o (lastN l l.length) l.length
    exact again_l0 l hl (missN l o (lastN l l.length) l.length) (l.length - missN l o (lastN l l.length) l.length) 0 k (by omega) (by omega)
  · rw [if_neg h, if_neg h]
theorem refagain_l0 (l : List S25) (o : List Int) (a : Nat) (hl : l.length ≤ 1000) (ho : o.length ≤ 1000) (ha : a ≤ l.length) (d : Nat) : ∀ (i k : Nat), a + i + d = l.length → d + o.length < k →
    clerestoryref1_ActiveAgain.l0 k o (l.take a) (l.drop a) (rng (missN l o a (a + i)) (a + i - missN l o a (a + i))) (i : Int) = some (rng (missN l o a l.length) (l.length - missN l o a l.length)) := by
  have h1 : (l.take a).length = a := by rw [List.length_take]; omega
  have h2 : (l.drop a).length = l.length - a := List.length_drop
  induction d with
  | zero =>
    intro i k h hk
    obtain ⟨k, rfl⟩ : ∃ q, k = q + 1 := ⟨k - 1, by omega⟩
    rw [clerestoryref1_ActiveAgain.l0, if_neg (by omega), show a + i = l.length by omega]
  | succ d ih =>
    intro i k h hk
    obtain ⟨k, rfl⟩ : ∃ q, k = q + 1 := ⟨k - 1, by omega⟩
    have hs : missN l o a (a + (i + 1)) = if hasI o (rd_T25 l ((a + i : Nat) : Int)).f0 = true then a + i + 1 else missN l o a (a + i) := by
      rw [show a + (i + 1) = (a + i) + 1 by omega]
      conv => lhs; unfold missN
      rw [if_pos (by omega)]
    have hi := ih (i + 1) k (by omega) (by omega)
    rw [hs] at hi
    obtain ⟨r, hr1, hr2⟩ := place_eq o (rd_T25 l ((a + i : Nat) : Int)).f0 ho k (by omega)
    have hm := missN_le l o a (a + i)
    rw [clerestoryref1_ActiveAgain.l0, if_pos (by omega), if_pos (by omega), rd_drop l a i (by omega), hr1, h1, show wrap64 ((a : Int) + (i : Int)) = ((a + i : Nat) : Int) from by unfold wrap64; omega, show wrap64 ((i : Int) + 1) = ((i + 1 : Nat) : Int) from by unfold wrap64; omega]
    simp only [Option.bind_some]
    cases hh : hasI o (rd_T25 l ((a + i : Nat) : Int)).f0 with
    | true =>
      rw [hh] at hr2 hi
      rw [if_pos rfl] at hi
      rw [if_pos (of_decide_eq_true hr2)]
      rw [show a + (i + 1) - (a + i + 1) = 0 by omega] at hi
      exact hi
    | false =>
      rw [hh] at hr2 hi
      rw [if_neg (by decide)] at hi
      rw [if_neg (of_decide_eq_false hr2), if_pos (by rw [rng_len]; omega)]
      rw [show a + (i + 1) - missN l o a (a + i) = (a + i - missN l o a (a + i)) + 1 by omega] at hi
      rw [show rng (missN l o a (a + i)) ((a + i - missN l o a (a + i)) + 1) = rng (missN l o a (a + i)) (a + i - missN l o a (a + i)) ++ [((missN l o a (a + i) + (a + i - missN l o a (a + i)) : Nat) : Int)] from rfl, show missN l o a (a + i) + (a + i - missN l o a (a + i)) = a + i by omega] at hi
      exact hi
theorem refagain_eq (l : List S25) (o : List Int) (hl : l.length ≤ 1000) (ho : o.length ≤ 1000) (k : Nat) (hk : l.length + o.length < k) : clerestoryref1_ActiveAgain.f k l o = some (againS l o) := by
  unfold clerestoryref1_ActiveAgain.f
  have hle := lastN_le l l.length
  rw [parted_eq l (by omega) k (by omega)]
  simp only [Option.bind_some]
  have := refagain_l0 l o (lastN l l.length) hl ho hle (l.length - lastN l l.length) 0 k (by omega) (by omega)
  rw [Nat.add_zero, missN_at l o _ _ (Nat.le_refl _), Nat.sub_self] at this
  exact this
theorem sameInts_l0 (l : List Int) (hl : l.length ≤ 1000000) (d : Nat) : ∀ (i k : Nat), i + d = l.length → d < k → clerestoryref1_SameInts.l0 k l l (i : Int) = some true := by
  induction d with
  | zero =>
    intro i k h hk
    obtain ⟨k, rfl⟩ : ∃ q, k = q + 1 := ⟨k - 1, by omega⟩
    rw [clerestoryref1_SameInts.l0, if_neg (by omega)]
  | succ d ih =>
    intro i k h hk
    obtain ⟨k, rfl⟩ : ∃ q, k = q + 1 := ⟨k - 1, by omega⟩
    rw [clerestoryref1_SameInts.l0, if_pos (by omega), if_pos (by omega), if_pos (by omega), if_pos rfl, show wrap64 ((i : Int) + 1) = ((i + 1 : Nat) : Int) from by unfold wrap64; omega]
    exact ih (i + 1) k (by omega) (by omega)
theorem sameInts_eq (l : List Int) (hl : l.length ≤ 1000000) (k : Nat) (hk : l.length < k) : clerestoryref1_SameInts.f k l l = some true := by
  unfold clerestoryref1_SameInts.f
  rw [if_pos rfl]
  exact sameInts_l0 l hl l.length 0 k (by omega) hk

theorem find_eq (l : List S25) (nm : ByteArray) (hl : l.length ≤ 1000) (k : Nat) (hk : l.length + l.length + 1 < k) :
    active_Find.f k l nm = some (if chk l = 0 then (mx (fndN l nm (lastN l l.length) l.length) 0, decide (fndN l nm (lastN l l.length) l.length ≥ 0), 0) else (0, false, chk l)) := by
  unfold active_Find.f
  rw [check_eq l (by omega), found_eq l nm hl k hk]
  simp only [Option.bind_some]
  by_cases h : chk l = 0
  · rw [if_pos h, if_pos h]
  · rw [if_neg h, if_neg h]

theorem ActiveAsks : clerestorylaw1_ActiveAsks.Pure := by
  intro l0 nm l2 hl0 _ hl2
  have e : mn (l0.length : Int) 70 = ((min l0.length 70 : Nat) : Int) := by unfold mn; omega
  have e2 : mn (l2.length : Int) 70 = ((min l2.length 70 : Nat) : Int) := by unfold mn; omega
  refine ⟨5000, ?_⟩
  unfold clerestorylaw1_ActiveAsks.f
  rw [e, e2]
  simp only [Int.toNat_natCast, if_pos (show (0 : Int) ≤ ((min l0.length 70 : Nat) : Int) by omega), if_pos (show ((min l0.length 70 : Nat) : Int) ≤ (l0.length : Int) by omega), if_pos (show (0 : Int) ≤ ((min l2.length 70 : Nat) : Int) by omega), if_pos (show ((min l2.length 70 : Nat) : Int) ≤ (l2.length : Int) by omega), Option.bind_some]
  obtain ⟨l, hl⟩ : ∃ l, l0.take (min l0.length 70) = l := ⟨_, rfl⟩
  have hlen : l.length ≤ 70 := by rw [← hl, List.length_take]; omega
  obtain ⟨o, ho⟩ : ∃ o, l2.take (min l2.length 70) = o := ⟨_, rfl⟩
  have holen : o.length ≤ 70 := by rw [← ho, List.length_take]; omega
  rw [hl, ho]
  clear hl ho e e2 hl0 hl2
  have hag : (againS l o).length ≤ 70 := by unfold againS; rw [rng_len]; omega
  rw [find_eq l nm (by omega) 5000 (by omega), again_eq l o (by omega) (by omega) 5000 (by omega), refcheck_eq l (by omega) 5000 (by omega)]
  simp only [Option.bind_some]
  by_cases h : chk l = 0
  · simp only [if_pos h]
    rw [reffind_eq l nm (by omega) 5000 (by omega), refagain_eq l o (by omega) (by omega) 5000 (by omega), begunA_eq 5000 (by omega)]
    simp only [Option.bind_some]
    rw [sameInts_eq (againS l o) (by omega) 5000 (by omega)]
    simp [h]
  · simp only [if_neg h]
    rw [begunA_eq 5000 (by omega)]
    simp only [Option.bind_some]
    rw [sameInts_eq [] (by simp) 5000 (by simp)]
    simp [mx]
end Go.Proofs.Ythecjfkafpndoaa.Pure
