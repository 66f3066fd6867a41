/- The plain law behind ActiveTurns: Check, Push and Clear come to what the reference's come to, for every list and item. -/
import Derived.Test.YthecjfkafpndoaaActLaws
import Derived.Test.YthecjfkafpndoaaQActiveTurns
namespace Go.Proofs.Ythecjfkafpndoaa.Pure
open Go Go.RowKit Go.Proofs.Ythecjfkafpndoaa.Ac Go.Proofs.Ythecjfkafpndoaa.XAc Go.Proofs.YthecjfkafpndoaaW.PrintWords Go.Proofs.YthecjfkafpndoaaW.PrintLast

def idxF (p : S25 → Bool) : List S25 → Nat → List Int
  | [], _ => []
  | y :: t, i => if p y = true then (i : Int) :: idxF p t (i + 1) else idxF p t (i + 1)
theorem idxF_len (p : S25 → Bool) : ∀ (t : List S25) (i : Nat), (idxF p t i).length = (t.filter p).length
  | [], _ => rfl
  | y :: t, i => by
    unfold idxF
    cases h : p y with
    | true => rw [if_pos rfl, List.filter_cons_of_pos h, List.length_cons, List.length_cons, idxF_len p t (i + 1)]
    | false => rw [if_neg (by decide), List.filter_cons_of_neg (by simp [h]), idxF_len p t (i + 1)]
theorem idxF_hd (p : S25 → Bool) : ∀ (t : List S25) (i : Nat), 0 < (t.filter p).length → rd (idxF p t i) 0 = ((i + t.findIdx p : Nat) : Int) ∧ t.findIdx p < t.length
  | [], _, h => by simp at h
  | y :: t, i, h => by
    unfold idxF
    rw [List.findIdx_cons]
    cases hy : p y with
    | true => rw [if_pos rfl]; exact ⟨by simp [rd], by simp⟩
    | false =>
      rw [if_neg (by decide)]
      rw [List.filter_cons_of_neg (by simp [hy])] at h
      have := idxF_hd p t (i + 1) h
      refine ⟨?_, by simpa using this.2⟩
      rw [this.1]
      simp only [cond_false]
      omega

theorem sames_eq (l : List S25) (x : S25) (hl : l.length ≤ 1000000) (hs : ∀ y ∈ l, small y) (hx : small x) (k : Nat) (hk : ∀ y ∈ l, y.f2.length < k) (hkx : x.f2.length < k) (d : Nat) : ∀ (i q : Nat) (s : List Int), i + d = l.length → d < q →
    active_Pushed.sames k q l x.f0 x.f1 x.f2 (i : Int) s = some (s ++ idxF (fun y => alk y x) (l.drop i) i) := by
  induction d with
  | zero =>
    intro i q s h hq
    obtain ⟨q, rfl⟩ : ∃ z, q = z + 1 := ⟨q - 1, by omega⟩
    rw [active_Pushed.sames, if_neg (by omega), List.drop_eq_nil_of_le (by omega)]
    simp [idxF]
  | succ d ih =>
    intro i q s h hq
    obtain ⟨q, rfl⟩ : ∃ z, q = z + 1 := ⟨q - 1, by omega⟩
    have hlt : i < l.length := by omega
    have hm : rd_T25 l (i : Int) ∈ l := by rw [rd_get l i hlt]; exact List.getElem_mem hlt
    rw [active_Pushed.sames, if_pos (by omega), if_pos (by omega), alike_eq _ x (hs _ hm) hx k (hk _ hm) hkx, drop_rd l i hlt]
    simp only [Option.bind_some]
    rw [show ((i : Int) + 1) = ((i + 1 : Nat) : Int) from by omega, ih (i + 1) q _ (by omega) (by omega)]
    generalize rd_T25 l (i : Int) = y
    conv => rhs; unfold idxF
    cases alk y x <;> simp

/-- What a push comes to. -/
def pushS (l : List S25) (x : S25) : List S25 :=
  if x.f0 ≠ -1 ∧ 3 ≤ ((l.drop (lastN l l.length)).filter (fun y => alk y x)).length then l.take (lastN l l.length) ++ (l.drop (lastN l l.length)).eraseIdx ((l.drop (lastN l l.length)).findIdx (fun y => alk y x)) ++ [x] else l ++ [x]
theorem erase_split (l : List S25) (a f : Nat) (h : a ≤ l.length) : l.eraseIdx (a + f) = l.take a ++ (l.drop a).eraseIdx f := by
  have e := List.take_append_drop a l
  have hl : (l.take a).length = a := by rw [List.length_take]; omega
  generalize l.take a = p at e hl ⊢
  generalize l.drop a = q at e ⊢
  subst e
  rw [List.eraseIdx_append_of_length_le (by omega), hl, Nat.add_sub_cancel_left]
theorem pushed_eq (l : List S25) (x : S25) (hl : l.length ≤ 1000) (hs : ∀ y ∈ l, small y) (hx : small x) (k : Nat) (hkl : l.length < k) (hk : ∀ y ∈ l, y.f2.length < k) (hkx : x.f2.length < k) : active_Pushed.f k l x.f0 x.f1 x.f2 = some (pushS l x) := by
  unfold active_Pushed.f
  have hle := lastN_le l l.length
  rw [last_eq l (by omega) k hkl]
  simp only [Option.bind_some]
  rw [if_pos (by omega), sames_eq l x (by omega) hs hx k hk hkx (l.length - lastN l l.length) (lastN l l.length) k [] (by omega) (by omega)]
  simp only [Option.bind_some, List.nil_append]
  unfold active_Pushed.fin pushS
  rw [if_pos (by omega), idxF_len]
  by_cases hc : x.f0 ≠ -1 ∧ 3 ≤ ((l.drop (lastN l l.length)).filter (fun y => alk y x)).length
  · rw [if_pos hc, if_pos hc]
    have := idxF_hd (fun y => alk y x) (l.drop (lastN l l.length)) (lastN l l.length) (by omega)
    have hd : (l.drop (lastN l l.length)).length = l.length - lastN l l.length := by simp
    rw [this.1, if_pos (by omega)]
    rw [Int.toNat_natCast, erase_split l _ _ hle]
  · rw [if_neg hc, if_neg hc]

theorem rp_all (t : List S25) (x : S25) (many : Nat) (first : Int) (ht : t.length ≤ 1000) (hc : many < 3 ∨ x.f0 = -1) (d : Nat) : ∀ (i k : Nat) (out : List S25), i + d = t.length → d < k → out.length + d ≤ 100000 →
    clerestoryref1_ActivePush.l1 k t (many : Int) first out (i : Int) x.f0 x.f1 x.f2 = some (out ++ t.drop i ++ [x]) := by
  induction d with
  | zero =>
    intro i k out h hk ho
    obtain ⟨k, rfl⟩ : ∃ q, k = q + 1 := ⟨k - 1, by omega⟩
    rw [clerestoryref1_ActivePush.l1, if_neg (by omega), if_pos (by omega), List.drop_eq_nil_of_le (by omega), List.append_nil]
  | succ d ih =>
    intro i k out h hk ho
    obtain ⟨k, rfl⟩ : ∃ q, k = q + 1 := ⟨k - 1, by omega⟩
    have hi := ih (i + 1) k (out ++ [rd_T25 t (i : Int)]) (by omega) (by omega) (by simp; omega)
    rw [clerestoryref1_ActivePush.l1, if_pos (by omega), show wrap64 ((i : Int) + 1) = ((i + 1 : Nat) : Int) from by unfold wrap64; omega]
    have hq : (if 0 ≤ (i : Int) then (if out.length < 2932031007402 then (clerestoryref1_ActivePush.l1 k t (many : Int) first (out ++ [(⟨(rd_T25 t (i : Int)).f0, (rd_T25 t (i : Int)).f1, (rd_T25 t (i : Int)).f2⟩ : S25)]) ((i + 1 : Nat) : Int) x.f0 x.f1 x.f2) else none) else none) = some (out ++ t.drop i ++ [x]) := by
      rw [if_pos (by omega), if_pos (by omega), show (⟨(rd_T25 t (i : Int)).f0, (rd_T25 t (i : Int)).f1, (rd_T25 t (i : Int)).f2⟩ : S25) = rd_T25 t (i : Int) from rfl, hi, drop_rd t i (by omega)]
      simp
    by_cases h3 : many < 3
    · rw [if_pos (by omega)]; exact hq
    · rw [if_neg (by omega)]
      by_cases h4 : (i : Int) = first
      · rw [if_pos h4, if_pos (hc.resolve_left h3)]; exact hq
      · rw [if_neg h4]; exact hq
theorem rp_but (t : List S25) (x : S25) (many f : Nat) (ht : t.length ≤ 1000) (h3 : 3 ≤ many) (hx : x.f0 ≠ -1) (d : Nat) : ∀ (i k : Nat) (out : List S25), i + d = t.length → d < k → out.length + d ≤ 100000 →
    clerestoryref1_ActivePush.l1 k t (many : Int) (f : Int) out (i : Int) x.f0 x.f1 x.f2 = some (out ++ (if f < i then t.drop i else (t.drop i).eraseIdx (f - i)) ++ [x]) := by
  induction d with
  | zero =>
    intro i k out h hk ho
    obtain ⟨k, rfl⟩ : ∃ q, k = q + 1 := ⟨k - 1, by omega⟩
    rw [clerestoryref1_ActivePush.l1, if_neg (by omega), if_pos (by omega), List.drop_eq_nil_of_le (by omega)]
    simp
  | succ d ih =>
    intro i k out h hk ho
    obtain ⟨k, rfl⟩ : ∃ q, k = q + 1 := ⟨k - 1, by omega⟩
    rw [clerestoryref1_ActivePush.l1, if_pos (by omega), show wrap64 ((i : Int) + 1) = ((i + 1 : Nat) : Int) from by unfold wrap64; omega, if_neg (by omega)]
    by_cases h4 : i = f
    · rw [if_pos (by omega), if_neg hx, ih (i + 1) k out (by omega) (by omega) (by omega), if_pos (by omega), if_neg (by omega), drop_rd t i (by omega), h4, Nat.sub_self]
      rfl
    · rw [if_neg (by omega), if_pos (by omega), if_pos (by omega), show (⟨(rd_T25 t (i : Int)).f0, (rd_T25 t (i : Int)).f1, (rd_T25 t (i : Int)).f2⟩ : S25) = rd_T25 t (i : Int) from rfl, ih (i + 1) k _ (by omega) (by omega) (by simp; omega), drop_rd t i (by omega)]
      by_cases h5 : f < i
      · rw [if_pos (by omega), if_pos h5]; simp
      · rw [if_neg (by omega), if_neg h5, show f - i = (f - (i + 1)) + 1 by omega]; simp
theorem rp_l0 (h t : List S25) (x : S25) (ht : t.length ≤ 1000) (hh : h.length ≤ 1000) (hs : ∀ y ∈ t, small y) (B : Nat) (hB : ∀ y ∈ t, y.f2.length + y.f2.length + 1 < B) (M : Nat) (F : Int) (R : List S25)
    (H : ∀ k, B ≤ k → clerestoryref1_ActivePush.l1 k t (M : Int) F h 0 x.f0 x.f1 x.f2 = some R) (d : Nat) : ∀ (i k many : Nat) (first : Int), i + d = t.length → d + B < k → many ≤ i →
    M = many + ((t.drop i).filter (fun y => alk y x)).length → F = (if first < 0 then (if ((t.drop i).filter (fun y => alk y x)).length = 0 then first else ((i + (t.drop i).findIdx (fun y => alk y x) : Nat) : Int)) else first) →
    clerestoryref1_ActivePush.l0 k h t (many : Int) first (i : Int) x.f0 x.f1 x.f2 = some R := by
  induction d with
  | zero =>
    intro i k many first hi hk hm hM hF
    obtain ⟨k, rfl⟩ : ∃ q, k = q + 1 := ⟨k - 1, by omega⟩
    rw [List.drop_eq_nil_of_le (by omega)] at hM hF
    simp only [List.filter_nil, List.length_nil, Nat.add_zero, if_true, ite_self] at hM hF
    subst hM
    subst hF
    rw [clerestoryref1_ActivePush.l0, if_neg (by omega)]
    simp only [Option.bind_some, List.length_nil, List.nil_append, Nat.zero_add]
    rw [if_pos (by omega)]
    exact H k (by omega)
  | succ d ih =>
    intro i k many first hi hk hm hM hF
    obtain ⟨k, rfl⟩ : ∃ q, k = q + 1 := ⟨k - 1, by omega⟩
    have hlt : i < t.length := by omega
    have hmem : rd_T25 t (i : Int) ∈ t := by rw [rd_get t i hlt]; exact List.getElem_mem hlt
    rw [clerestoryref1_ActivePush.l0, if_pos (by omega), if_pos (by omega), refalike_eq _ x (hs _ hmem) k (by have := hB _ hmem; omega), show wrap64 ((i : Int) + 1) = ((i + 1 : Nat) : Int) from by unfold wrap64; omega, show wrap64 ((many : Int) + 1) = ((many + 1 : Nat) : Int) from by unfold wrap64; omega]
    simp only [Option.bind_some]
    rw [drop_rd t i hlt] at hM hF
    cases ha : alk (rd_T25 t (i : Int)) x with
    | true =>
      rw [List.filter_cons_of_pos (by simpa using ha), List.length_cons] at hM hF
      rw [List.findIdx_cons, ha] at hF
      simp only [cond_true, Nat.add_zero] at hF
      rw [if_pos rfl]
      by_cases hf : first < 0
      · rw [if_pos hf, if_neg (by omega)] at hF
        rw [if_pos hf]
        exact ih (i + 1) k (many + 1) (i : Int) (by omega) (by omega) (by omega) (by omega) (by rw [if_neg (by omega)]; exact hF)
      · rw [if_neg hf] at hF ⊢
        exact ih (i + 1) k (many + 1) first (by omega) (by omega) (by omega) (by omega) (by rw [if_neg hf]; exact hF)
    | false =>
      rw [List.filter_cons_of_neg (by simp [ha]), List.findIdx_cons, ha] at hF
      rw [List.filter_cons_of_neg (by simp [ha])] at hM
      simp only [cond_false] at hF
      rw [if_neg (by decide)]
      exact ih (i + 1) k many first (by omega) (by omega) (by omega) hM (by rw [hF]; congr 3; omega)
theorem refpush_eq (l : List S25) (x : S25) (hl : l.length ≤ 100) (hs : ∀ y ∈ l, small y) (B : Nat) (hB : ∀ y ∈ l, y.f2.length + y.f2.length + 1 < B) (hB1 : 1000 < B) (k : Nat) (hk : 1000 + B < k) : clerestoryref1_ActivePush.f k l x.f0 x.f1 x.f2 = some (pushS l x) := by
  unfold clerestoryref1_ActivePush.f
  have hle := lastN_le l l.length
  rw [parted_eq l (by omega) k (by omega)]
  simp only [Option.bind_some]
  have hsub : ∀ y ∈ l.drop (lastN l l.length), y ∈ l := fun y hy => List.mem_of_mem_drop hy
  have hd : (l.drop (lastN l l.length)).length = l.length - lastN l l.length := by simp
  have htk : (l.take (lastN l l.length)).length = lastN l l.length := by rw [List.length_take]; omega
  have key := rp_l0 (l.take (lastN l l.length)) (l.drop (lastN l l.length)) x (by omega) (by omega) (fun y hy => hs y (hsub y hy)) B (fun y hy => hB y (hsub y hy)) (((l.drop (lastN l l.length)).filter (fun y => alk y x)).length)
    (if ((l.drop (lastN l l.length)).filter (fun y => alk y x)).length = 0 then -1 else (((l.drop (lastN l l.length)).findIdx (fun y => alk y x) : Nat) : Int)) (pushS l x) ?_ (l.length - lastN l l.length) 0 k 0 (-1) (by omega) (by omega) (by omega) (by simp) (by simp)
  · exact key
  · intro k hk
    unfold pushS
    by_cases hc : x.f0 ≠ -1 ∧ 3 ≤ ((l.drop (lastN l l.length)).filter (fun y => alk y x)).length
    · rw [if_pos hc, if_neg (by omega)]
      have := rp_but (l.drop (lastN l l.length)) x _ ((l.drop (lastN l l.length)).findIdx (fun y => alk y x)) (by omega) hc.2 hc.1 (l.length - lastN l l.length) 0 k (l.take (lastN l l.length)) (by omega) (by omega) (by omega)
      rw [if_neg (by omega), List.drop_zero, Nat.sub_zero] at this
      exact this
    · rw [if_neg hc]
      have := rp_all (l.drop (lastN l l.length)) x (((l.drop (lastN l l.length)).filter (fun y => alk y x)).length) (if ((l.drop (lastN l l.length)).filter (fun y => alk y x)).length = 0 then -1 else (((l.drop (lastN l l.length)).findIdx (fun y => alk y x) : Nat) : Int)) (by omega) (by omega) (l.length - lastN l l.length) 0 k (l.take (lastN l l.length)) (by omega) (by omega) (by omega)
      rw [List.drop_zero, List.take_append_drop] at this
      exact this

theorem push_eq (l : List S25) (x : S25) (hl : l.length ≤ 100) (hs : ∀ y ∈ l, small y) (hx : small x) (k : Nat) (hk1 : 1000 < k) (hk : ∀ y ∈ l, y.f2.length < k) (hkx : x.f2.length < k) :
    active_Push.f k l x.f0 x.f1 x.f2 = some (if chk (l ++ [x]) = 0 then pushS l x else [], chk (l ++ [x])) := by
  unfold active_Push.f
  have ha : ∀ y ∈ l ++ [x], y.f2.length * 32 ≤ 140737488355328 := by
    intro y hy
    rcases List.mem_append.1 hy with hy | hy
    · exact hs y hy
    · rw [List.mem_singleton.1 hy]; exact hx
  rw [if_pos (by omega), show ([(⟨x.f0, x.f1, x.f2⟩ : S25)]) = [x] from rfl, own_eq (l ++ [x]) (by simp; omega) ha k (by simp; omega)]
  simp only [Option.bind_some]
  rw [if_pos (by simp), check_eq _ (by simp; omega)]
  simp only [Option.bind_some]
  have e : rd_T25 (l ++ [x]) (l.length : Int) = x := by rw [rd_get _ _ (by simp)]; simp
  rw [e, List.take_left, pushed_eq l x (by omega) hs hx k (by omega) hk hkx]
  by_cases h : chk (l ++ [x]) = 0
  · rw [if_pos h, if_pos h, h]; rfl
  · rw [if_neg h, if_neg h]

/-- What a clear comes to. -/
def clearS (l : List S25) : List S25 := l.take (lastN l l.length - 1)
theorem clear_eq (l : List S25) (hl : l.length ≤ 1000) (hs : ∀ y ∈ l, small y) (k : Nat) (hk : l.length < k) : active_Clear.f k l = some (if chk l = 0 then clearS l else [], chk l) := by
  have hle := lastN_le l l.length
  have hc : active_Cleared.f k l = some (clearS l) := by
    unfold active_Cleared.f
    rw [last_eq l (by omega) k hk]
    simp only [Option.bind_some]
    have e : mx (wrap64 (((lastN l l.length : Nat) : Int) - 1)) 0 = ((lastN l l.length - 1 : Nat) : Int) := by unfold mx wrap64; omega
    have e2 : ((lastN l l.length - 1 : Nat) : Int) ≤ (l.length : Int) := by omega
    rw [e, if_pos (by omega), if_pos e2]
    rfl
  unfold active_Clear.f
  rw [check_eq l (by omega), own_eq l (by omega) hs k hk]
  simp only [Option.bind_some]
  rw [hc]
  by_cases h : chk l = 0
  · rw [if_pos h, if_pos h, h]; rfl
  · rw [if_neg h, if_neg h]
theorem refclear_eq (l : List S25) (hl : l.length ≤ 1000) (k : Nat) (hk : l.length < k) : clerestoryref1_ActiveClear.f k l = some (clearS l) := by
  unfold clerestoryref1_ActiveClear.f clearS
  have hle := lastN_le l l.length
  rw [parted_eq l (by omega) k hk]
  simp only [Option.bind_some, List.length_take, Nat.min_eq_left hle]
  by_cases h : lastN l l.length = 0
  · rw [if_pos (by omega), h]; rfl
  · rw [if_neg (by omega), show wrap64 (((lastN l l.length : Nat) : Int) - 1) = ((lastN l l.length - 1 : Nat) : Int) from by unfold wrap64; omega, if_pos (by omega), if_pos (by omega)]
    simp only [Int.toNat_natCast, List.take_take, Nat.min_eq_left (Nat.sub_le _ _), List.nil_append, List.length_nil]
    rw [if_pos (by omega)]

theorem sameAttrs_l0 (l : List S99) (hl : l.length ≤ 1000000000000000) (d : Nat) : ∀ (i k : Nat), i + d = l.length → d < k → clerestoryref1_SameAttrs.l0 k l l (i : Int) = some true := by
  induction d with
  | zero =>
    intro i k h hk
    obtain ⟨k, rfl⟩ : ∃ q, k = q + 1 := ⟨k - 1, by omega⟩
    rw [clerestoryref1_SameAttrs.l0, if_neg (by omega)]
  | succ d ih =>
    intro i k h hk
    obtain ⟨k, rfl⟩ : ∃ q, k = q + 1 := ⟨k - 1, by omega⟩
    rw [clerestoryref1_SameAttrs.l0, if_pos (by omega), if_pos (by omega), if_pos (by omega), if_neg (by simp), show wrap64 ((i : Int) + 1) = ((i + 1 : Nat) : Int) from by unfold wrap64; omega]
    exact ih (i + 1) k (by omega) (by omega)
theorem sameItems_l0 (l : List S25) (hl : l.length ≤ 1000000) (hs : ∀ y ∈ l, small y) (B : Nat) (hB : ∀ y ∈ l, y.f2.length < B) (d : Nat) : ∀ (i k : Nat), i + d = l.length → d + B < k → clerestoryref1_SameItems.l0 k l l (i : Int) = some true := by
  induction d with
  | zero =>
    intro i k h hk
    obtain ⟨k, rfl⟩ : ∃ q, k = q + 1 := ⟨k - 1, by omega⟩
    rw [clerestoryref1_SameItems.l0, if_neg (by omega)]
  | succ d ih =>
    intro i k h hk
    obtain ⟨k, rfl⟩ : ∃ q, k = q + 1 := ⟨k - 1, by omega⟩
    have hlt : i < l.length := by omega
    have hmem : rd_T25 l (i : Int) ∈ l := by rw [rd_get l i hlt]; exact List.getElem_mem hlt
    have h1 : clerestoryref1_SameAttrs.f k (rd_T25 l (i : Int)).f2 (rd_T25 l (i : Int)).f2 = some true := by
      have h2 := hs _ hmem
      have h3 := hB _ hmem
      unfold small at h2
      unfold clerestoryref1_SameAttrs.f
      rw [if_pos rfl]
      exact sameAttrs_l0 _ (by omega) (rd_T25 l (i : Int)).f2.length 0 k (by omega) (by omega)
    rw [clerestoryref1_SameItems.l0, if_pos (by omega), if_pos (by omega), if_pos (by omega), if_pos rfl, if_pos rfl, h1, show wrap64 ((i : Int) + 1) = ((i + 1 : Nat) : Int) from by unfold wrap64; omega]
    simp only [Option.bind_some, if_true]
    exact ih (i + 1) k (by omega) (by omega)
theorem sameItems_eq (l : List S25) (hl : l.length ≤ 1000000) (hs : ∀ y ∈ l, small y) (B : Nat) (hB : ∀ y ∈ l, y.f2.length < B) (k : Nat) (hk : l.length + B < k) : clerestoryref1_SameItems.f k l l = some true := by
  unfold clerestoryref1_SameItems.f
  rw [if_pos rfl]
  exact sameItems_l0 l hl hs B hB l.length 0 k (by omega) hk
theorem pushS_mem (l : List S25) (x y : S25) (h : y ∈ pushS l x) : y ∈ l ∨ y = x := by
  unfold pushS at h
  split at h
  · rcases List.mem_append.1 h with h | h
    · rcases List.mem_append.1 h with h | h
      · exact .inl (List.mem_of_mem_take h)
      · exact .inl (List.mem_of_mem_drop (List.mem_of_mem_eraseIdx h))
    · exact .inr (List.mem_singleton.1 h)
  · rcases List.mem_append.1 h with h | h
    · exact .inl h
    · exact .inr (List.mem_singleton.1 h)
theorem pushS_len (l : List S25) (x : S25) : (pushS l x).length ≤ l.length + 1 := by
  unfold pushS
  have hle := lastN_le l l.length
  split
  · simp only [List.length_append, List.length_take, List.length_singleton, List.length_eraseIdx, List.length_drop]
    split <;> omega
  · simp
theorem begun12 : clerestorylaw1_activeBegun.f 12 = some true := by decide +kernel
theorem begun_eq (k : Nat) (hk : 12 ≤ k) : clerestorylaw1_activeBegun.f k = some true := at_rounds (g := fun k => clerestorylaw1_activeBegun.f k) clerestorylaw1_activeBegun.mono hk begun12

theorem bounded (l : List S25) : ∃ B, ∀ y ∈ l, y.f2.length < B := by
  induction l with
  | nil => exact ⟨0, fun y hy => by cases hy⟩
  | cons x t ih =>
    obtain ⟨B, h⟩ := ih
    refine ⟨B + x.f2.length + 1, fun y hy => ?_⟩
    rcases List.mem_cons.1 hy with rfl | hy
    · omega
    · have := h y hy; omega

theorem j1_ok (l p c : List S25) (e f : Int) (q : Nat) (h1 : clerestoryref1_SameItems.f q p p = some true) (h2 : clerestoryref1_SameItems.f q c c = some true) (hq : 12 ≤ q) (hl : l.length ≤ 1000000) (hf : f = chk l) : clerestorylaw1_ActiveTurns.j1 (q + 1) l p e c f f e p c = some true := by
  rw [clerestorylaw1_ActiveTurns.j1, begun_eq q hq]
  simp only [Option.bind_some, if_true]
  rw [check_eq l hl]
  simp only [Option.bind_some]
  rw [if_pos hf.symm, h1]
  simp only [Option.bind_some, if_true]
  rw [h2]
  simp

theorem ActiveTurns : clerestorylaw1_ActiveTurns.Pure := by
  intro l0 a0 a1 a2 hl0 _ _ ha2
  have e : mn (l0.length : Int) 70 = ((min l0.length 70 : Nat) : Int) := by unfold mn; omega
  unfold clerestorylaw1_ActiveTurns.f
  rw [e]
  simp only [Int.toNat_natCast, if_pos (show (0 : Int) ≤ ((min l0.length 70 : Nat) : Int) by omega), if_pos (show ((min l0.length 70 : Nat) : Int) ≤ (l0.length : Int) by omega), Option.bind_some]
  obtain ⟨l, hl⟩ : ∃ l, l0.take (min l0.length 70) = l := ⟨_, rfl⟩
  have hlen : l.length ≤ 70 := by rw [← hl, List.length_take]; omega
  have hs : ∀ y ∈ l, small y := by
    intro y hy
    rw [← hl] at hy
    have := (hl0.2.2 y (List.mem_of_mem_take hy)).2.2.1
    exact Nat.le_trans this (by decide)
  obtain ⟨x, hx⟩ : ∃ x : S25, x = ⟨a0, a1, a2⟩ := ⟨_, rfl⟩
  have hxs : small x := by rw [hx]; exact Nat.le_trans ha2.1 (by decide)
  obtain ⟨B, hB⟩ := bounded (x :: l)
  have hBl : ∀ y ∈ l, y.f2.length < B := fun y hy => hB y (List.mem_cons_of_mem _ hy)
  have hBx : x.f2.length < B := hB x (by simp)
  rw [hl]
  clear hl hl0 ha2 e
  have hpush := fun k (h : 2000 + 4 * B < k) => push_eq l x (by omega) hs hxs k (by omega) (fun y hy => Nat.lt_trans (hBl y hy) (by omega)) (Nat.lt_trans hBx (by omega))
  have hclear := fun k (h : 2000 + 4 * B < k) => clear_eq l (by omega) hs k (by omega)
  have hrc := fun k (h : 2000 + 4 * B < k) => refcheck_eq l (by omega) k (by omega)
  have hrcx := fun k (h : 2000 + 4 * B < k) => refcheck_eq (l ++ [x]) (by simp; omega) k (by simp; omega)
  have hrp := fun k (h : 5000 + 4 * B < k) => refpush_eq l x (by omega) hs (2 * B + 1001) (fun y hy => by have := hBl y hy; omega) (by omega) k (by omega)
  have hrl := fun k (h : 2000 + 4 * B < k) => refclear_eq l (by omega) k (by omega)
  rw [hx] at hpush hrp
  have hsp := fun k (h : 2000 + 4 * B < k) => sameItems_eq (pushS l x) (by have := pushS_len l x; omega) (fun y hy => by rcases pushS_mem l x y hy with h | h; exact hs y h; rw [h]; exact hxs) B (fun y hy => by rcases pushS_mem l x y hy with h | h; exact hBl y h; rw [h]; exact hBx) k (by have := pushS_len l x; omega)
  have hsc := fun k (h : 2000 + 4 * B < k) => sameItems_eq (clearS l) (by unfold clearS; rw [List.length_take]; omega) (fun y hy => hs y (List.mem_of_mem_take hy)) B (fun y hy => hBl y (List.mem_of_mem_take hy)) k (by unfold clearS; rw [List.length_take]; omega)
  have hsn := fun k (h : 2000 + 4 * B < k) => sameItems_eq [] (by simp) (fun y hy => by cases hy) 0 (fun y hy => by cases hy) k (by simp; omega)
  have hbg := fun k (h : 2000 + 4 * B < k) => begun_eq k (by omega)
  refine ⟨10000 + 4 * B + 2, ?_⟩
  rw [hpush _ (by omega), hclear _ (by omega), hrc _ (by omega)]
  simp only [Option.bind_some, List.length_nil, List.nil_append]
  rw [if_pos (by omega), if_pos (by simp; omega), ← hx, hrcx (10000 + 4 * B + 2) (by omega)]
  simp only [Option.bind_some]
  have hrp' : clerestoryref1_ActivePush.f (10000 + 4 * B + 2) l a0 a1 a2 = some (pushS l x) := by
    rw [hx]
    exact hrp _ (by omega)
  have hfin : ∀ push : List S25, push = (if chk (l ++ [x]) = 0 then pushS l x else []) → clerestorylaw1_ActiveTurns.j0 (10000 + 4 * B + 2) l (if chk (l ++ [x]) = 0 then pushS l x else []) (chk (l ++ [x])) (if chk l = 0 then clearS l else []) (chk l) (chk l) (chk (l ++ [x])) push [] = some true := by
    intro push hp
    rw [← hp]
    have h1 : clerestoryref1_SameItems.f (10000 + 4 * B) push push = some true := by
      rw [hp]
      split
      · exact hsp _ (by omega)
      · exact hsn _ (by omega)
    rw [clerestorylaw1_ActiveTurns.j0]
    by_cases h : chk l = 0
    · rw [if_pos h, if_pos h, hrl _ (by omega)]
      simp only [Option.bind_some]
      exact j1_ok l push (clearS l) _ _ (10000 + 4 * B) h1 (hsc _ (by omega)) (by omega) (by omega) rfl
    · rw [if_neg h, if_neg h]
      exact j1_ok l push [] _ _ (10000 + 4 * B) h1 (hsn _ (by omega)) (by omega) (by omega) rfl
  by_cases h : chk (l ++ [x]) = 0
  · rw [if_pos h, hrp']
    simp only [Option.bind_some]
    exact hfin _ (by rw [if_pos h])
  · rw [if_neg h]
    exact hfin _ (by rw [if_neg h])
end Go.Proofs.Ythecjfkafpndoaa.Pure
