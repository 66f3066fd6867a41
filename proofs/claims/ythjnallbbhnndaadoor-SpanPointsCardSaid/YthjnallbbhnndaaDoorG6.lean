/- Points that may be, the list of all points, and what is wrong with points and ranges: the program's and the reference's answers, in plain words. No memory, no Go. -/
import Derived.Test.YthjnallbbhnndaaDoorG5
import Derived.Test.YthjnallbbhnndaaDoorRows
import Derived.Test.YthjnallbbhnndaaDoorChecked
import Derived.Lib.LaidIn
import Derived.Lib.LaidU8T
import Derived.Deep.DeepHandedRow
import Derived.Deep.DeepWitnessRowRef
namespace Go.Proofs.YthjnallbbhnndaaDoor.Dm
open Go Go.RowKit Go.Proofs.YthjnallbbhnndaaDoor.XSp Go.Proofs.YthjnallbbhnndaaDoorW.PrintWords Go.Proofs.YthjnallbbhnndaaDoorW.PrintLast
theorem nodeE_leaf {x : S43} (h : nodeE x = 0) : x.f3.size ≤ 400 ∧ ((x.f0 = 3 ∨ x.f0 = 4) ∧ x.f5 = [] ∨ (x.f0 ≠ 3 ∧ x.f0 ≠ 4) ∧ x.f3.size = 0) := by
  unfold nodeE at h
  by_cases c : x.f0 < 1 ∨ 5 < x.f0 ∨ bareB x = false
  · rw [if_pos c] at h; cases h
  · rw [if_neg c] at h
    by_cases c2 : x.f0 = 2 ∧ nameB x.f1 true = false
    · rw [if_pos c2] at h; cases h
    · rw [if_neg c2] at h
      by_cases c3 : 12 < x.f2.length
      · rw [if_pos c3] at h; cases h
      · rw [if_neg c3] at h
        by_cases c4 : errA x.f2 x.f2.length 0 ≠ 0
        · rw [if_pos c4] at h; exact absurd h c4
        · rw [if_neg c4] at h
          by_cases c5 : 400 < x.f3.size ∨ 400 < x.f1.size
          · rw [if_pos c5] at h; cases h
          · refine ⟨by omega, ?_⟩
            have hb : bareB x = true := by
              cases hb : bareB x
              · exact absurd (.inr (.inr hb)) c
              · rfl
            unfold bareB at hb
            rw [Bool.and_eq_true, Bool.and_eq_true, Bool.and_eq_true] at hb
            have h3 := hb.2.2.1
            have h4 := hb.2.2.2
            rw [Bool.or_eq_true, Bool.or_eq_true, decide_eq_true_eq, decide_eq_true_eq, decide_eq_true_eq] at h3 h4
            by_cases k : x.f0 = 3 ∨ x.f0 = 4
            · exact .inl ⟨k, List.eq_nil_of_length_eq_zero (h4.resolve_left (by omega))⟩
            · have ht := h3.resolve_left k
              rw [Lib.toList_data] at ht
              exact .inr ⟨⟨fun e => k (.inl e), fun e => k (.inr e)⟩, by
                have hd : x.f3.data = #[] := by simpa using congrArg List.toArray ht
                show x.f3.data.size = 0
                rw [hd]
                rfl⟩
def roomN (ns : List S43) (n : Int) : Int := if q1y ns n = 3 ∨ q1y ns n = 4 then (tl ns n : Int) else ((kidL ns n).length : Int)
section
variable {ns : List S43} (hD : DocOk ns)
include hD
theorem leaf_at {i : Int} (h0 : 0 ≤ i) (h1 : i < ns.length) : tl ns i ≤ 400 ∧ ((q1y ns i = 3 ∨ q1y ns i = 4) ∧ kidL ns i = [] ∨ (q1y ns i ≠ 3 ∧ q1y ns i ≠ 4) ∧ tl ns i = 0) := nodeE_leaf (hD.node i h0 h1)
theorem leafy_of : Leafy ns := fun i h0 h1 => by
  rcases (leaf_at hD h0 h1).2 with h | h
  · exact .inr h.2
  · exact .inl h.2
theorem room_pt {n a : Int} (h0 : 0 ≤ n) (h1 : n < ns.length) : 0 ≤ a ∧ a ≤ roomN ns n ↔ 0 ≤ a ∧ (a ≤ (kidL ns n).length ∨ a ≤ tl ns n) := by
  unfold roomN
  rcases (leaf_at hD h0 h1).2 with h | h
  · rw [if_pos h.1, h.2]
    simp only [List.length_nil]
    omega
  · rw [if_neg (by omega), h.2]
    omega
theorem room_small {n : Int} (h0 : 0 ≤ n) (h1 : n < ns.length) : roomN ns n ≤ 400 := by
  have := kids_few hD.tree h0 h1
  have := hD.many
  have := (leaf_at hD h0 h1).1
  unfold roomN
  split <;> omega
theorem mk_room (m : Int × Int) : m ∈ mk ns 0 ↔ m.1 ∈ sub ns 0 ∧ 0 ≤ m.2 ∧ m.2 ≤ roomN ns m.1 := by
  have hz : (0 : Int) < ns.length := by have := hD.some_; omega
  rw [mem_mk hD.tree (Int.le_refl 0) hz]
  constructor
  · rintro ⟨a, b⟩
    obtain ⟨x0, x1, _⟩ := q1i hD.tree (Int.le_refl 0) hz a
    exact ⟨a, (room_pt hD x0 x1).2 b⟩
  · rintro ⟨a, b⟩
    obtain ⟨x0, x1, _⟩ := q1i hD.tree (Int.le_refl 0) hz a
    exact ⟨a, (room_pt hD x0 x1).1 b⟩
end
theorem room_eq (ns : List S43) (q : Bool) {n : Int} (h0 : 0 ≤ n) (h1 : n < ns.length) : span_ranger_room.f ns q n = some (roomN ns n) := by
  unfold span_ranger_room.f roomN
  rw [if_pos h0, if_pos h1]
  show (if q1y ns n = 3 then some (tl ns n : Int) else if q1y ns n = 4 then some (tl ns n : Int) else some ((kidL ns n).length : Int)) = _
  by_cases c3 : q1y ns n = 3
  · rw [if_pos c3, if_pos (.inl c3)]
  · rw [if_neg c3]
    by_cases c4 : q1y ns n = 4
    · rw [if_pos c4, if_pos (.inr c4)]
    · rw [if_neg c4, if_neg (by omega)]
def ptI (ns : List S43) (n a : Int) : Int := if n < 0 ∨ (ns.length : Int) ≤ n ∨ a < 0 ∨ roomN ns n < a then 1 else if n ∈ sub ns 0 then 0 else 5
theorem ptI_zero {ns : List S43} {n a : Int} (h : ptI ns n a = 0) : 0 ≤ n ∧ n < ns.length ∧ 0 ≤ a ∧ a ≤ roomN ns n ∧ n ∈ sub ns 0 := by
  unfold ptI at h
  by_cases c : n < 0 ∨ (ns.length : Int) ≤ n ∨ a < 0 ∨ roomN ns n < a
  · rw [if_pos c] at h; cases h
  · rw [if_neg c] at h
    by_cases c2 : n ∈ sub ns 0
    · exact ⟨by omega, by omega, by omega, by omega, c2⟩
    · rw [if_neg c2] at h; cases h
section
variable {ns : List S43} (hD : DocOk ns) (q : Bool)
include hD
theorem point_j0 {n a : Int} (h0 : 0 ≤ n) (h1 : n < ns.length) (ha : 0 ≤ a ∧ a ≤ roomN ns n) (k : Nat) (hk : 501 < k) : span_ranger_point.j0 k false ns q n a = some (if n ∈ sub ns 0 then 0 else 5) := by
  obtain ⟨k, rfl⟩ : ∃ z, k = z + 1 := ⟨k - 1, by omega⟩
  have hr := room_small hD h0 h1
  rw [span_ranger_point.j0, if_neg Bool.false_ne_true, path_eqs hD.tree q h0 h1 ⟨ha.1, by omega⟩ k (by omega), Option.bind_some]
  by_cases c : n ∈ sub ns 0
  · have hw := wayP_len (ns := ns) (x := n) (a := a)
    rw [if_pos c, if_pos c, if_neg (by omega)]
  · rw [if_neg c, if_neg c]
    rfl
theorem point_eqs (n a : Int) (k : Nat) (hk : 501 < k) : span_ranger_point.f k ns q n a = some (ptI ns n a) := by
  have hj : ∀ k, 0 < k → span_ranger_point.j0 k true ns q n a = some 1 := fun k hk => by
    obtain ⟨k, rfl⟩ : ∃ z, k = z + 1 := ⟨k - 1, by omega⟩
    rw [span_ranger_point.j0, if_pos rfl]
  unfold span_ranger_point.f ptI
  by_cases c1 : n < 0
  · rw [if_pos c1, hj k (by omega), if_pos (.inl c1)]
  · rw [if_neg c1]
    by_cases c2 : n ≥ (ns.length : Int)
    · rw [if_pos c2, hj k (by omega), if_pos (.inr (.inl c2))]
    · rw [if_neg c2]
      by_cases c3 : a < 0
      · rw [if_pos c3, hj k (by omega), if_pos (.inr (.inr (.inl c3)))]
      · rw [if_neg c3, room_eq ns q (by omega) (by omega), Option.bind_some]
        by_cases c4 : roomN ns n < a
        · rw [decide_eq_true (show a > roomN ns n from c4), hj k (by omega), if_pos (.inr (.inr (.inr c4)))]
        · rw [decide_eq_false (show ¬ a > roomN ns n from c4), point_j0 hD q (by omega) (by omega) ⟨by omega, by omega⟩ k hk, if_neg (show ¬ (n < 0 ∨ (ns.length : Int) ≤ n ∨ a < 0 ∨ roomN ns n < a) by omega)]
omit hD in
theorem between_eq (a b c : Int) : clerestoryref1_between.f a b c = some (decide (b ≤ a ∧ a ≤ c)) := by
  unfold clerestoryref1_between.f
  by_cases h : a ≥ b
  · rw [if_pos h]
    congr 1
    exact decide_eq_decide.2 ⟨fun e => ⟨h, e⟩, fun e => e.2⟩
  · rw [if_neg h, decide_eq_false (fun e => h e.1)]
theorem pointErr_j1 {n a x : Int} (h0 : 0 ≤ n) (h1 : n < ns.length) (k : Nat) (hk : 52 < k) : clerestoryref1_PointErr.j1 k x ns q n a = some (if 0 ≤ a ∧ a ≤ x then (if n ∈ sub ns 0 then 0 else 5) else 1) := by
  obtain ⟨k, rfl⟩ : ∃ z, k = z + 1 := ⟨k - 1, by omega⟩
  have hz : (0 : Int) < ns.length := by have := hD.some_; omega
  rw [clerestoryref1_PointErr.j1, between_eq, Option.bind_some]
  by_cases c : 0 ≤ a ∧ a ≤ x
  · rw [decide_eq_true c, if_pos rfl, if_pos c, under_sub hD.tree q (Int.le_refl 0) hz h0 h1 k (by omega), Option.bind_some]
    by_cases c2 : n ∈ sub ns 0
    · rw [decide_eq_true c2, if_pos rfl, if_pos c2]
    · rw [decide_eq_false c2, if_neg Bool.false_ne_true, if_neg c2]
  · rw [decide_eq_false c, if_neg Bool.false_ne_true, if_neg c]
theorem pointErr_eq (n a : Int) (k : Nat) (hk : 60 < k) : clerestoryref1_PointErr.f k ns q n a = some (ptI ns n a) := by
  have hm := hD.many
  have hs := hD.some_
  unfold clerestoryref1_PointErr.f ptI
  rw [show wrap64 ((ns.length : Int) - 1) = (ns.length : Int) - 1 by unfold wrap64; omega, between_eq, Option.bind_some]
  by_cases c : 0 ≤ n ∧ n ≤ (ns.length : Int) - 1
  · obtain ⟨k, rfl⟩ : ∃ z, k = z + 1 := ⟨k - 1, by omega⟩
    have fin : ∀ x : Int, x = roomN ns n → clerestoryref1_PointErr.j1 k x ns q n a = some (if n < 0 ∨ (ns.length : Int) ≤ n ∨ a < 0 ∨ roomN ns n < a then 1 else if n ∈ sub ns 0 then 0 else 5) := fun x hx => by
      subst hx
      rw [pointErr_j1 hD q (by omega) (by omega) k (by omega)]
      by_cases e : 0 ≤ a ∧ a ≤ roomN ns n
      · rw [if_pos e, if_neg (show ¬ (n < 0 ∨ (ns.length : Int) ≤ n ∨ a < 0 ∨ roomN ns n < a) by omega)]
      · rw [if_neg e, if_pos (show (n < 0 ∨ (ns.length : Int) ≤ n ∨ a < 0 ∨ roomN ns n < a) by omega)]
    rw [decide_eq_true c, if_pos rfl, if_pos c.1, if_pos (by omega)]
    show (if q1y ns n = 3 then clerestoryref1_PointErr.j0 (k + 1) ((kidL ns n).length : Int) true ns q n a _ _ _ (q00 ns n).f3 _ _ else clerestoryref1_PointErr.j0 (k + 1) ((kidL ns n).length : Int) (q1y ns n == 4) ns q n a _ _ _ (q00 ns n).f3 _ _) = _
    by_cases c3 : q1y ns n = 3
    · rw [if_pos c3, clerestoryref1_PointErr.j0, if_pos rfl]
      exact fin _ (by unfold roomN; rw [if_pos (.inl c3)]; rfl)
    · rw [if_neg c3]
      by_cases c4 : q1y ns n = 4
      · rw [beq_iff_eq.2 c4, clerestoryref1_PointErr.j0, if_pos rfl]
        exact fin _ (by unfold roomN; rw [if_pos (.inr c4)]; rfl)
      · rw [beq_eq_false_iff_ne.2 c4, clerestoryref1_PointErr.j0, if_neg Bool.false_ne_true]
        exact fin _ (by unfold roomN; rw [if_neg (by omega)])
  · rw [decide_eq_false c, if_neg Bool.false_ne_true, if_pos (by omega)]
def asP (m : Int × Int) : S50 := ⟨m.1, m.2⟩
theorem mk_few : ∀ (d : Nat) (i : Int), 41 - q0x ns i ≤ d → 0 ≤ i → i < ns.length → (mk ns i).length ≤ 700 * (sub ns i).length
  | 0, i, hd, h0, h1 => by
    have := (hD.deep i h0 h1).1
    omega
  | d + 1, i, hd, h0, h1 => by
    have hdi := (hD.deep i h0 h1).1
    have hk := kids_few hD.tree h0 h1
    have hm := hD.many
    have ht := (leaf_at hD h0 h1).1
    have step : ∀ (l : List Int) (j : Nat), (∀ c ∈ l, c ∈ kidL ns i) → (q1j (mk ns) i j l).length ≤ l.length + 700 * (l.flatMap (sub ns)).length := by
      intro l
      induction l with
      | nil => intro j _; simp [q1j]
      | cons c t ih =>
        intro j hc
        have h1' := ih (j + 1) fun c hc' => hc c (by simp [hc'])
        obtain ⟨c0, c1, _⟩ := hD.kid i c h0 h1 (hc c (by simp))
        have := mk_few d c (by have := q17 hD.tree h0 h1 (hc c (by simp)); omega) c0 c1
        rw [q1j, List.length_append, List.length_cons, List.flatMap_cons, List.length_append, List.length_cons]
        omega
    have := step (kidL ns i) 0 fun c hc => hc
    rw [mk_eq hD.tree h0 h1, sub_eq hD.tree h0 h1, List.length_cons, List.length_append, List.length_cons]
    unfold txtM
    rw [List.length_map, List.length_range]
    omega
omit hD in
theorem marks_l1 (i : Int) (y0 : Int) (y1 : ByteArray) (y2 : List S122) (y3 : ByteArray) (y4 : Int) (y5 : List Int) (h5 : y0 ≠ 5 ∨ y3.size = 0) (hs : y3.size ≤ 400) (d : Nat) : ∀ (j k : Nat) (o : List S50), j + d = y3.size → d < k → o.length + d ≤ 1000000 →
    clerestoryref1_marks.l1 k i o ((j : Int) + 1) y0 y1 y2 y3 y4 y5 = some (o ++ (List.range d).map fun t => asP (i, ((j + t : Nat) : Int) + 1)) := by
  induction d with
  | zero =>
    intro j k o h hk ho
    obtain ⟨k, rfl⟩ : ∃ z, k = z + 1 := ⟨k - 1, by omega⟩
    rw [clerestoryref1_marks.l1, if_neg (by omega)]
    simp
  | succ d ih =>
    intro j k o h hk ho
    obtain ⟨k, rfl⟩ : ∃ z, k = z + 1 := ⟨k - 1, by omega⟩
    rw [clerestoryref1_marks.l1, if_pos (by omega), if_neg (h5.resolve_right (by omega)), if_pos (by omega), show wrap64 ((j : Int) + 1 + 1) = ((j + 1 : Nat) : Int) + 1 by unfold wrap64; omega, ih (j + 1) k _ (by omega) (by omega) (by rw [List.length_append]; simp only [List.length_cons, List.length_nil]; omega), List.append_assoc, List.range_succ_eq_map, List.map_cons, List.map_map]
    congr 2
    show [_] ++ _ = _ :: _
    rw [List.singleton_append]
    congr 1
    refine List.map_congr_left fun t _ => ?_
    show asP (i, _) = asP (i, _)
    congr 2
    simp only [Nat.succ_eq_add_one]
    omega
theorem marks_l0 {i : Int} (h0 : 0 ≤ i) (h1 : i < ns.length) (B : Nat) (H : ∀ c ∈ kidL ns i, ∀ k, B < k → clerestoryref1_marks.f k ns q c = some ((mk ns c).map asP)) (d : Nat) : ∀ (j k : Nat) (o : List S50), j + d = (kidL ns i).length → B + 402 + d < k → o.length + (q1j (mk ns) i j ((kidL ns i).drop j)).length + tl ns i ≤ 1000000 →
    clerestoryref1_marks.l0 k i o (j : Int) ns q (q00 ns i).f0 (q00 ns i).f1 (q00 ns i).f2 (q00 ns i).f3 (q00 ns i).f4 (kidL ns i) = some (o ++ (q1j (mk ns) i j ((kidL ns i).drop j) ++ txtM i (tl ns i)).map asP) := by
  have ht := (leaf_at hD h0 h1).1
  induction d with
  | zero =>
    intro j k o h hk ho
    obtain ⟨k, rfl⟩ : ∃ z, k = z + 1 := ⟨k - 1, by omega⟩
    have hn : (kidL ns i).drop j = [] := List.drop_eq_nil_of_le (by omega)
    rw [hn] at ho ⊢
    simp only [q1j, List.length_nil] at ho
    rw [clerestoryref1_marks.l0, if_neg (by omega)]
    have := marks_l1 i (q00 ns i).f0 (q00 ns i).f1 (q00 ns i).f2 (q00 ns i).f3 (q00 ns i).f4 (kidL ns i)
      (by
        rcases (leaf_at hD h0 h1).2 with e | e
        · exact .inl (by rcases e.1 with e | e <;> (unfold q1y at e; omega))
        · exact .inr e.2) ht (tl ns i) 0 k o (by unfold tl; omega) (by omega) (by omega)
    rw [show ((0 : Nat) : Int) + 1 = 1 from rfl] at this
    rw [this]
    simp only [q1j, List.nil_append, txtM, List.map_map]
    congr 2
    refine List.map_congr_left fun t _ => ?_
    show asP (i, _) = asP (i, _)
    rw [Nat.zero_add]
  | succ d ih =>
    intro j k o h hk ho
    obtain ⟨k, rfl⟩ : ∃ z, k = z + 1 := ⟨k - 1, by omega⟩
    have hj : j < (kidL ns i).length := by omega
    have hm : rd (kidL ns i) (j : Int) ∈ kidL ns i := by
      have := dropK (kidL ns i) j hj
      exact List.mem_of_mem_drop (i := j) (by rw [this]; simp)
    have hk2 := kids_few hD.tree h0 h1
    have hm2 := hD.many
    rw [dropK _ _ hj] at ho ⊢
    rw [q1j, List.length_append, List.length_cons] at ho
    rw [clerestoryref1_marks.l0, if_pos (by omega), if_pos (by omega), H _ hm k (by omega), Option.bind_some, List.length_map, if_pos (by omega), Option.bind_some, List.length_append, List.length_map, if_pos (by omega), w1 j (by omega)]
    rw [ih (j + 1) k _ (by omega) (by omega) (by rw [List.length_append, List.length_append, List.length_map]; simp only [List.length_cons, List.length_nil]; omega)]
    congr 1
    rw [q1j, show (⟨i, ((j + 1 : Nat) : Int)⟩ : S50) = asP (i, (j : Int) + 1) by unfold asP; congr 1]
    simp [List.append_assoc]
set_option maxRecDepth 10000 in
theorem marks_eq : ∀ (d : Nat) (i : Int), 41 - q0x ns i ≤ d → 0 ≤ i → i < ns.length → ∀ k, 700 * d < k → clerestoryref1_marks.f k ns q i = some ((mk ns i).map asP)
  | 0, i, hd, h0, h1, k, hk => by
    have := (hD.deep i h0 h1).1
    omega
  | d + 1, i, hd, h0, h1, k, hk => by
    have hdi := (hD.deep i h0 h1).1
    obtain ⟨k, rfl⟩ : ∃ z, k = z + 1 := ⟨k - 1, by omega⟩
    have hk2 := kids_few hD.tree h0 h1
    have hm2 := hD.many
    have hf := mk_few hD _ i (Nat.le_refl _) h0 h1
    have hsf := sub_few hD.tree h0 h1
    have hme := mk_eq hD.tree h0 h1
    have hle : (mk ns i).length = (q1j (mk ns) i 0 (kidL ns i) ++ txtM i (tl ns i)).length + 1 := by rw [hme]; rfl
    have htl : (txtM i (tl ns i)).length = tl ns i := by unfold txtM; rw [List.length_map, List.length_range]
    rw [List.length_append, htl] at hle
    rw [clerestoryref1_marks.f, if_pos h0, if_pos h1]
    have := marks_l0 hD q h0 h1 (700 * d) (fun c hc k hk => marks_eq d c (by have := q17 hD.tree h0 h1 hc; omega) (hD.kid i c h0 h1 hc).1 (hD.kid i c h0 h1 hc).2.1 k hk) (kidL ns i).length 0 k [asP (i, 0)] (by omega) (by omega) (by rw [List.drop_zero]; simp only [List.length_cons, List.length_nil]; omega)
    rw [List.drop_zero] at this
    refine Eq.trans this ?_
    rw [hme]
    rfl
theorem marks_all (k : Nat) (hk : 28700 < k) : clerestoryref1_marks.f k ns q 0 = some ((mk ns 0).map asP) := by
  have hz : (0 : Int) < ns.length := by have := hD.some_; omega
  exact marks_eq hD q 41 0 (by omega) (Int.le_refl 0) hz k (by omega)
omit hD in
theorem markOf_l0 (L : List (Int × Int)) (n a : Int) (hl : L.length ≤ 1000000) (d : Nat) : ∀ (i k : Nat), i + d = L.length → d < k → (∀ m ∈ L.take i, m ≠ (n, a)) →
    clerestoryref1_markOf.l0 k (L.map asP) (i : Int) n a = some (if (n, a) ∈ L then (L.idxOf (n, a) : Int) else -1) := by
  induction d with
  | zero =>
    intro i k h hk hn
    obtain ⟨k, rfl⟩ : ∃ z, k = z + 1 := ⟨k - 1, by omega⟩
    rw [clerestoryref1_markOf.l0, if_neg (by rw [List.length_map]; omega), if_neg]
    intro hm
    rw [List.take_of_length_le (by omega)] at hn
    exact hn _ hm rfl
  | succ d ih =>
    intro i k h hk hn
    obtain ⟨k, rfl⟩ : ∃ z, k = z + 1 := ⟨k - 1, by omega⟩
    have hlt : i < L.length := by omega
    have hr : q08 (L.map asP) (i : Int) = asP L[i] := by
      unfold q08
      rw [List.getD_eq_getElem?_getD, Int.toNat_natCast, List.getElem?_map, List.getElem?_eq_getElem hlt]
      rfl
    rw [clerestoryref1_markOf.l0, if_pos (by rw [List.length_map]; omega), if_pos (by omega), hr, w1 i (by omega)]
    by_cases c : L[i] = (n, a)
    · rw [if_pos (by rw [c]; simp [asP]), if_pos (c ▸ List.getElem_mem hlt)]
      congr 2
      have hsplit : L = L.take i ++ L.drop i := (List.take_append_drop i L).symm
      have hno : (n, a) ∉ L.take i := fun hm => hn _ hm rfl
      rw [hsplit, List.idxOf_append, if_neg hno, List.drop_eq_getElem_cons hlt, List.idxOf_cons, c]
      simp only [BEq.rfl, cond_true, List.length_take]
      omega
    · rw [if_neg (by
        intro e
        rw [Bool.and_eq_true, beq_iff_eq, beq_iff_eq] at e
        exact c (Prod.ext e.1 e.2))]
      refine ih (i + 1) k (by omega) (by omega) fun m hm => ?_
      rw [List.take_add_one, List.getElem?_eq_getElem hlt] at hm
      rcases List.mem_append.1 hm with hm | hm
      · exact hn m hm
      · simp only [Option.toList_some, List.mem_singleton] at hm
        exact hm ▸ c
def mkI (ns : List S43) (n a : Int) : Int := if (n, a) ∈ mk ns 0 then ((mk ns 0).idxOf (n, a) : Int) else -1
theorem mk_many : (mk ns 0).length ≤ 140000 := by
  have hz : (0 : Int) < ns.length := by have := hD.some_; omega
  have h1 := mk_few hD _ 0 (Nat.le_refl _) (Int.le_refl 0) hz
  have h2 := sub_few hD.tree (Int.le_refl 0) hz
  have h3 := hD.many
  omega
theorem markOf_eq (n a : Int) (k : Nat) (hk : 200000 < k) : clerestoryref1_markOf.f k ns q n a = some (mkI ns n a) := by
  have hm := mk_many hD
  unfold clerestoryref1_markOf.f
  rw [marks_all hD q k (by omega), Option.bind_some]
  exact markOf_l0 _ n a (by omega) _ 0 k (Nat.zero_add _) (by omega) fun m hm => by simp at hm
theorem mkI_lt {n a m b : Int} (hn : ptI ns n a = 0) (hm : ptI ns m b = 0) : mkI ns n a < mkI ns m b ↔ cmpL (wayP ns (n, a)) (wayP ns (m, b)) = -1 := by
  have hz : (0 : Int) < ns.length := by have := hD.some_; omega
  obtain ⟨_, _, a0, a1, an⟩ := ptI_zero hn
  obtain ⟨_, _, b0, b1, bn⟩ := ptI_zero hm
  have ha := (mk_room hD (n, a)).2 ⟨an, a0, a1⟩
  have hb := (mk_room hD (m, b)).2 ⟨bn, b0, b1⟩
  unfold mkI
  rw [if_pos ha, if_pos hb, ← sorted_lt (mk_sorted hD.tree (leafy_of hD) _ 0 (Nat.le_refl _) (Int.le_refl 0) hz) ha hb]
  omega
theorem ptL_two {n a m b : Int} (k : Nat) (hk : 600 < k) : ptL k ns q [⟨n, a⟩, ⟨m, b⟩] 0 = some (if ptI ns n a ≠ 0 then ptI ns n a else ptI ns m b) := by
  obtain ⟨k, rfl⟩ : ∃ z, k = z + 3 := ⟨k - 3, by omega⟩
  have hl : (([⟨n, a⟩, ⟨m, b⟩] : List S50).length : Int) = 2 := rfl
  have e0 : q08 [⟨n, a⟩, ⟨m, b⟩] 0 = ⟨n, a⟩ := rfl
  have e1 : q08 [⟨n, a⟩, ⟨m, b⟩] 1 = ⟨m, b⟩ := rfl
  have w0 : wrap64 (0 + 1) = 1 := by unfold wrap64; omega
  have w2 : wrap64 (1 + 1) = 2 := by unfold wrap64; omega
  rw [ptL, hl, if_pos (by decide), if_pos (by decide), e0, w0, point_eqs hD q n a _ (by omega), Option.bind_some]
  by_cases c : ptI ns n a ≠ 0
  · rw [if_pos c, if_pos c]
  · rw [if_neg c, if_neg c, ptL, hl, if_pos (by decide), if_pos (by decide), e1, w2, point_eqs hD q m b _ (by omega), Option.bind_some]
    by_cases c2 : ptI ns m b ≠ 0
    · rw [if_pos c2]
    · rw [if_neg c2, ptL, hl, if_neg (by decide)]
      congr 1
      omega
end
def twoE (ns : List S43) (n a m b : Int) : Int := if docE ns ≠ 0 then docE ns else if ptI ns n a ≠ 0 then ptI ns n a else ptI ns m b
def spanE (ns : List S43) (n a m b : Int) : Int := if twoE ns n a m b ≠ 0 then twoE ns n a m b else if cmpL (wayP ns (n, a)) (wayP ns (m, b)) = 1 then 9 else 0
theorem twoE_zero {ns : List S43} {n a m b : Int} (h : twoE ns n a m b = 0) : DocOk ns ∧ ptI ns n a = 0 ∧ ptI ns m b = 0 := by
  unfold twoE at h
  by_cases c : docE ns ≠ 0
  · rw [if_pos c] at h; exact absurd h c
  · rw [if_neg c] at h
    by_cases c2 : ptI ns n a ≠ 0
    · rw [if_pos c2] at h; exact absurd h c2
    · rw [if_neg c2] at h
      exact ⟨(docE_iff ns).1 (Classical.not_not.1 c), Classical.not_not.1 c2, h⟩
theorem ptE_eq (ns : List S43) (q : Bool) (n a m b : Int) (k : Nat) (hk : 600 < k) (hc : dom_Check.f k ns q = some (docE ns)) : ptE k ns q [⟨n, a⟩, ⟨m, b⟩] = some (twoE ns n a m b) := by
  unfold ptE twoE
  rw [hc, Option.bind_some]
  by_cases c : docE ns ≠ 0
  · rw [if_pos c, if_pos c]
  · rw [if_neg c, if_neg c, ptL_two ((docE_iff ns).1 (Classical.not_not.1 c)) q k hk]
theorem cmpL_val : ∀ a b : List Int, cmpL a b = -1 ∨ cmpL a b = 0 ∨ cmpL a b = 1
  | [], [] => .inr (.inl rfl)
  | [], _ :: _ => .inl rfl
  | _ :: _, [] => .inr (.inr rfl)
  | x :: a, y :: b => by
    rw [cmpL]
    by_cases c : x < y
    · rw [if_pos c]; exact .inl rfl
    · rw [if_neg c]
      by_cases c2 : y < x
      · rw [if_pos c2]; exact .inr (.inr rfl)
      · rw [if_neg c2]; exact cmpL_val a b
theorem order_two {ns : List S43} (q : Bool) {n a m b : Int} (h : twoE ns n a m b = 0) (k : Nat) (hk : 600 < k) : span_ranger_order.f k ns q n a m b = some (cmpL (wayP ns (n, a)) (wayP ns (m, b))) := by
  obtain ⟨hD, h1, h2⟩ := twoE_zero h
  obtain ⟨n0, n1, a0, a1, an⟩ := ptI_zero h1
  obtain ⟨m0, m1, b0, b1, bm⟩ := ptI_zero h2
  have r1 := room_small hD n0 n1
  have r2 := room_small hD m0 m1
  exact order_eqs hD.tree q n0 n1 ⟨a0, by omega⟩ an m0 m1 ⟨b0, by omega⟩ bm k (by omega)
theorem spE_eq (ns : List S43) (q : Bool) (n a m b : Int) (k : Nat) (hk : 600 < k) (hc : dom_Check.f k ns q = some (docE ns)) : spE k ns q n a m b = some (spanE ns n a m b) := by
  unfold spE spanE
  rw [ptE_eq ns q n a m b k hk hc, Option.bind_some]
  by_cases c : twoE ns n a m b ≠ 0
  · rw [if_pos c, if_pos c]
  · rw [if_neg c, if_neg c, order_two q (Classical.not_not.1 c) k hk, Option.bind_some]
    rcases cmpL_val (wayP ns (n, a)) (wayP ns (m, b)) with e | e | e <;> rw [e] <;> rfl
theorem spanErr_eq (ns : List S43) (q : Bool) (n a m b : Int) (k : Nat) (hk : 200010 < k) (hc : clerestoryref1_DocErr.f k ns q = some (docE ns)) : clerestoryref1_SpanErr.f k ns q n a m b = some (spanE ns n a m b) := by
  obtain ⟨k, rfl⟩ : ∃ z, k = z + 2 := ⟨k - 2, by omega⟩
  unfold clerestoryref1_SpanErr.f spanE twoE
  rw [hc, Option.bind_some]
  by_cases c : docE ns = 0
  · have hD := (docE_iff ns).1 c
    rw [if_pos c, pointErr_eq hD q n a _ (by omega), Option.bind_some, clerestoryref1_SpanErr.j0]
    simp only [c, ne_eq, not_true_eq_false, if_false]
    by_cases c1 : ptI ns n a = 0
    · rw [if_pos c1, pointErr_eq hD q m b _ (by omega), Option.bind_some, clerestoryref1_SpanErr.j1]
      simp only [c1, not_true_eq_false, if_false]
      by_cases c2 : ptI ns m b = 0
      · rw [if_pos c2, markOf_eq hD q m b _ (by omega), Option.bind_some, markOf_eq hD q n a _ (by omega), Option.bind_some]
        simp only [c2, not_true_eq_false, if_false]
        have hl := mkI_lt hD c2 c1
        by_cases c3 : mkI ns m b < mkI ns n a
        · have := hl.1 c3
          rw [if_pos c3, if_pos (by rw [cmpL_swap, this]; rfl)]
        · rw [if_neg c3, if_neg]
          intro e
          exact c3 (hl.2 (by rw [cmpL_swap, e]))
      · simp only [c2, not_false_eq_true, if_true, if_false]
    · rw [if_neg c1, clerestoryref1_SpanErr.j1, if_neg c1]
      simp only [c1, not_false_eq_true, if_true]
  · rw [if_neg c, clerestoryref1_SpanErr.j0, if_neg c, clerestoryref1_SpanErr.j1, if_neg c]
    simp only [c, ne_eq, not_false_eq_true, if_true]
end Go.Proofs.YthjnallbbhnndaaDoor.Dm
namespace Go.Proofs.YthjnallbbhnndaaDoor.Dm
open Go Go.RowKit Go.Proofs.YthjnallbbhnndaaDoor.XSp Go.Proofs.YthjnallbbhnndaaDoorW.PrintWords Go.Proofs.YthjnallbbhnndaaDoorW.PrintLast
theorem kid_few {ns : List S43} (h : Tree ns) {i : Int} (h0 : 0 ≤ i) (h1 : i < ns.length) : (kidL ns i).length ≤ ns.length := few_of ns.length (kidL ns i) (h.once i h0 h1) fun x hx => ⟨(h.kid i x h0 h1 hx).1, (h.kid i x h0 h1 hx).2.1⟩
theorem drop_mem {l : List Int} {j : Nat} (hlt : j < l.length) : rd l (j : Int) ∈ l := by
  have : rd l (j : Int) ∈ l.drop j := by rw [dropK l j hlt]; simp
  exact List.mem_of_mem_drop this
theorem walk_l0 {ns : List S43} (h : Tree ns) (q : Bool) (i : Int) (h0 : 0 ≤ i) (h1 : i < ns.length) (B : Nat) (H : ∀ c ∈ kidL ns i, ∀ k o, B < k → o.length + (sub ns c).length ≤ 100000 → dom_walk.f k ns q c o = some (o ++ sub ns c)) (d : Nat) : ∀ (j k : Nat) (o : List Int), j + d = (kidL ns i).length →
    o.length + ((kidL ns i).drop j |>.flatMap (sub ns)).length ≤ 100000 → B + d + 1 < k → dom_walk.l0 k o (kidL ns i) ((kidL ns i).length : Int) (j : Int) ns q = some (o ++ ((kidL ns i).drop j).flatMap (sub ns)) := by
  induction d with
  | zero =>
    intro j k o hj ho hk
    obtain ⟨k, rfl⟩ : ∃ z, k = z + 1 := ⟨k - 1, by omega⟩
    rw [dom_walk.l0, if_neg (by omega), List.drop_eq_nil_of_le (by omega)]
    simp
  | succ d ih =>
    intro j k o hj ho hk
    obtain ⟨k, rfl⟩ : ∃ z, k = z + 1 := ⟨k - 1, by omega⟩
    have hlt : j < (kidL ns i).length := by omega
    have hjn : j ≤ 4611686018427387904 := by
      have := kid_few h h0 h1
      have := h.many
      omega
    have hd := dropK (kidL ns i) j hlt
    rw [hd, List.flatMap_cons, List.length_append] at ho
    rw [dom_walk.l0, if_pos (by omega), if_pos (by omega), if_pos (by omega), H _ (drop_mem hlt) k o (by omega) (by omega), Option.bind_some, w1 j hjn, ih (j + 1) k _ (by omega) (by rw [List.length_append]; omega) (by omega), hd, List.flatMap_cons, List.append_assoc]
theorem walk_eq {ns : List S43} (h : Tree ns) (q : Bool) : ∀ (d : Nat) (i : Int), 41 - q0x ns i ≤ d → 0 ≤ i → i < ns.length → ∀ k o, 210 * d < k → o.length + (sub ns i).length ≤ 100000 → dom_walk.f k ns q i o = some (o ++ sub ns i)
  | 0, i, hd, h0, h1, k, o, hk, ho => by
    have := (h.deep i h0 h1).1
    omega
  | d + 1, i, hd, h0, h1, k, o, hk, ho => by
    obtain ⟨k, rfl⟩ : ∃ z, k = z + 1 := ⟨k - 1, by omega⟩
    have hn := kid_few h h0 h1
    have hm := h.many
    rw [sub_eq h h0 h1, List.length_cons] at ho
    rw [dom_walk.f, sub_eq h h0 h1, if_pos (by omega), if_pos h0, if_pos h1]
    have := walk_l0 h q i h0 h1 (210 * d) (fun c hc k o hk ho => by
      obtain ⟨c0, c1, _⟩ := h.kid i c h0 h1 hc
      have hdk := q17 h h0 h1 hc
      have hdi := (h.deep i h0 h1).1
      exact walk_eq h q d c (by omega) c0 c1 k o hk ho) (kidL ns i).length 0 k (o ++ [i]) (by omega) (by rw [List.drop_zero, List.length_append]; simp only [List.length_cons, List.length_nil]; omega) (by omega)
    rw [List.drop_zero, List.append_assoc] at this
    exact this
theorem walk_all {ns : List S43} (h : Tree ns) (q : Bool) (i : Int) (h0 : 0 ≤ i) (h1 : i < ns.length) (k : Nat) (hk : 8610 < k) : dom_walk.f k ns q i [] = some (sub ns i) :=
  walk_eq h q 41 i (by omega) h0 h1 k [] (by omega) (by have := sub_few h h0 h1; have := h.many; simp only [List.length_nil]; omega)
theorem order_eq (ns : List S43) (q : Bool) (k : Nat) (hk : 8610 < k) (hc : dom_Check.f k ns q = some (docE ns)) : dom_Order.f k ns q = some (if docE ns = 0 then (sub ns 0, 0) else ([], docE ns)) := by
  unfold dom_Order.f
  rw [hc, Option.bind_some]
  by_cases c : docE ns = 0
  · have h := tree_of c
    rw [if_pos c, if_pos c, walk_all h q 0 (by omega) (by have := h.some_; omega) k hk, Option.bind_some]
  · rw [if_neg c, if_neg c]
theorem idxOf_at {L : List (Int × Int)} (hn : L.Nodup) {i : Nat} (h : i < L.length) : L.idxOf L[i] = i := by
  have hm := List.getElem_mem h
  have hj := List.idxOf_lt_length_iff.2 hm
  have he : L[L.idxOf L[i]] = L[i] := List.getElem_idxOf hj
  have hp := List.pairwise_iff_getElem.1 hn
  rcases Nat.lt_trichotomy (L.idxOf L[i]) i with c | c | c
  · exact absurd he (hp _ _ hj h c)
  · exact c
  · exact absurd he.symm (hp _ _ h hj c)
theorem extract_list (b : ByteArray) (i j : Nat) : (b.extract i j).data.toList = (b.data.toList.drop i).take (j - i) := by
  rw [ByteArray.data_extract, Array.toList_extract]
theorem range_cmp {ns : List S43} {f fa t ta : Int} (h : spanE ns f fa t ta = 0) : twoE ns f fa t ta = 0 ∧ cmpL (wayP ns (f, fa)) (wayP ns (t, ta)) ≠ 1 := by
  unfold spanE at h
  by_cases c : twoE ns f fa t ta ≠ 0
  · rw [if_pos c] at h; exact absurd h c
  · rw [if_neg c] at h
    by_cases c2 : cmpL (wayP ns (f, fa)) (wayP ns (t, ta)) = 1
    · rw [if_pos c2] at h; cases h
    · exact ⟨Classical.not_not.1 c, c2⟩
section
variable {ns : List S43} (hD : DocOk ns)
include hD
theorem mk0_nodup : (mk ns 0).Nodup := by
  have hz : (0 : Int) < ns.length := by have := hD.some_; omega
  exact sorted_nodup (mk_sorted hD.tree (leafy_of hD) _ 0 (Nat.le_refl _) (Int.le_refl 0) hz)
theorem block {n : Int} (hn : n ∈ sub ns 0) (hk : kidL ns n = []) : ∃ s : Nat, s + tl ns n < (mk ns 0).length ∧ ∀ j : Nat, j ≤ tl ns n → (mk ns 0)[s + j]? = some (n, (j : Int)) := by
  have hz : (0 : Int) < ns.length := by have := hD.some_; omega
  obtain ⟨x0, x1, _⟩ := q1i hD.tree (Int.le_refl 0) hz hn
  obtain ⟨P, Q, e⟩ := mk_in hD.tree _ 0 (Nat.le_refl _) (Int.le_refl 0) hz n hn
  have hm := mk_eq hD.tree x0 x1
  rw [hk] at hm
  simp only [q1j, List.nil_append] at hm
  have hlen : (mk ns n).length = tl ns n + 1 := by
    rw [hm, List.length_cons]
    unfold txtM
    rw [List.length_map, List.length_range]
  refine ⟨P.length, by rw [e, List.length_append, List.length_append, hlen]; omega, fun j hj => ?_⟩
  rw [e, List.append_assoc, List.getElem?_append_right (by omega), show P.length + j - P.length = j by omega, List.getElem?_append_left (by omega), hm]
  cases j with
  | zero => rfl
  | succ j =>
    rw [List.getElem?_cons_succ]
    unfold txtM
    rw [List.getElem?_map, List.getElem?_range (by omega)]
    rfl
theorem block_idx {n : Int} (hn : n ∈ sub ns 0) (hk : kidL ns n = []) : ∃ s : Nat, (mk ns 0).idxOf (n, 0) = s ∧ (∀ j : Nat, j ≤ tl ns n → (mk ns 0).idxOf (n, (j : Int)) = s + j) ∧ ∀ m ∈ mk ns 0, m.1 ≠ n → (mk ns 0).idxOf m < s ∨ s + tl ns n < (mk ns 0).idxOf m := by
  obtain ⟨s, hs, hb⟩ := block hD hn hk
  have hnd := mk0_nodup hD
  have hat : ∀ j : Nat, j ≤ tl ns n → (mk ns 0).idxOf (n, (j : Int)) = s + j := fun j hj => by
    have hlt : s + j < (mk ns 0).length := by omega
    have := hb j hj
    rw [List.getElem?_eq_getElem hlt] at this
    have h2 := idxOf_at hnd hlt
    rwa [Option.some.inj this] at h2
  refine ⟨s, by simpa using hat 0 (Nat.zero_le _), hat, fun m hm hne => ?_⟩
  have hlt := List.idxOf_lt_length_iff.2 hm
  by_cases c : (mk ns 0).idxOf m < s
  · exact .inl c
  · by_cases c2 : s + tl ns n < (mk ns 0).idxOf m
    · exact .inr c2
    · have := hb ((mk ns 0).idxOf m - s) (by omega)
      rw [show s + ((mk ns 0).idxOf m - s) = (mk ns 0).idxOf m by omega, List.getElem?_eq_getElem hlt, List.getElem_idxOf hlt] at this
      have := Option.some.inj this
      exact absurd (by rw [this]) hne
variable (q : Bool)
theorem part_j0 {f fa t ta : Int} (h : spanE ns f fa t ta = 0) {n : Int} (hn : n ∈ sub ns 0) (hk3 : q1y ns n = 3) (lo : Int) (hlo : 0 ≤ lo ∧ lo ≤ (tl ns n : Int)) (hle : t = n → lo ≤ ta) (k : Nat) (hk : 601 < k) :
    ∃ b, span_ranger_part.j0 k n (q00 ns n).f3 lo (((q00 ns n).f3).size : Int) ns q f fa t ta = some b ∧ b.data.toList = ((textL ns n).take ((mk ns 0).idxOf (t, ta) - (mk ns 0).idxOf (n, 0))).drop lo.toNat := by
  obtain ⟨k, rfl⟩ : ∃ z, k = z + 1 := ⟨k - 1, by omega⟩
  have hz : (0 : Int) < ns.length := by have := hD.some_; omega
  obtain ⟨h2, _⟩ := range_cmp h
  obtain ⟨_, _, p2⟩ := twoE_zero h2
  obtain ⟨t0, t1, ta0, ta1, tn⟩ := ptI_zero p2
  obtain ⟨n0, n1, _⟩ := q1i hD.tree (Int.le_refl 0) hz hn
  have hkn : kidL ns n = [] := by
    rcases (leaf_at hD n0 n1).2 with e | e
    · exact e.2
    · exact absurd hk3 e.1.1
  have hT := (mk_room hD (t, ta)).2 ⟨tn, ta0, ta1⟩
  have hN := (mk_room hD (n, 0)).2 ⟨hn, Int.le_refl 0, by unfold roomN; rw [if_pos (.inl hk3)]; simp only; omega⟩
  obtain ⟨s, hs, hb, ho⟩ := block_idx hD hn hkn
  have hsz : ((q00 ns n).f3).size = tl ns n := rfl
  have hlen := textL_len ns n
  rw [span_ranger_part.j0, hs]
  by_cases c : t = n
  · subst c
    have hta : ta ≤ (tl ns t : Int) := by
      unfold roomN at ta1
      rwa [if_pos (.inl hk3)] at ta1
    have hle := hle rfl
    have hi := hb ta.toNat (by omega)
    rw [show ((ta.toNat : Nat) : Int) = ta by omega] at hi
    rw [if_pos rfl, if_pos hlo.1, if_pos hle, if_pos (by rw [hsz]; exact hta), hi, show s + ta.toNat - s = ta.toNat by omega]
    exact ⟨_, rfl, by rw [extract_list, List.drop_take]; rfl⟩
  · have hord := order_eqs hD.tree q n0 n1 (a := 0) ⟨by omega, by omega⟩ hn t0 t1 (b := ta) ⟨ta0, by have := room_small hD t0 t1; omega⟩ tn k (by omega)
    have hlt := sorted_lt (mk_sorted hD.tree (leafy_of hD) _ 0 (Nat.le_refl _) (Int.le_refl 0) hz) hT hN
    rw [hs] at hlt
    rw [if_neg c, hord, Option.bind_some]
    by_cases c2 : cmpL (wayP ns (n, 0)) (wayP ns (t, ta)) > 0
    · have : cmpL (wayP ns (t, ta)) (wayP ns (n, 0)) = -1 := by
        rw [cmpL_swap]
        rcases cmpL_val (wayP ns (n, 0)) (wayP ns (t, ta)) with e | e | e <;> omega
      have := hlt.2 this
      rw [if_pos c2]
      refine ⟨_, rfl, ?_⟩
      rw [show (mk ns 0).idxOf (t, ta) - s = 0 by omega]
      simp
    · have hnl : ¬ (mk ns 0).idxOf (t, ta) < s := fun e => by
        have := hlt.1 e
        rw [cmpL_swap] at this
        omega
      have := (ho (t, ta) hT c).resolve_left hnl
      rw [if_neg c2, if_pos hlo.1, if_pos (by rw [hsz]; exact hlo.2), if_pos (Int.le_refl _)]
      refine ⟨_, rfl, ?_⟩
      rw [extract_list, List.take_of_length_le (l := textL ns n) (by rw [hlen]; omega)]
      show ((textL ns n).drop lo.toNat).take _ = _
      rw [List.take_of_length_le (by rw [List.length_drop, hlen, hsz]; simp only [Int.toNat_natCast]; omega)]
theorem part_eq {f fa t ta : Int} (h : spanE ns f fa t ta = 0) {n : Int} (hn : n ∈ sub ns 0) (hk3 : q1y ns n = 3) (k : Nat) (hk : 601 < k) :
    ∃ b, span_ranger_part.f k ns q n f fa t ta = some b ∧ b.data.toList = bytN ns ((mk ns 0).idxOf (f, fa)) ((mk ns 0).idxOf (t, ta)) n ((mk ns 0).idxOf (n, 0)) := by
  have hz : (0 : Int) < ns.length := by have := hD.some_; omega
  obtain ⟨h2, hc⟩ := range_cmp h
  obtain ⟨_, p1, p2⟩ := twoE_zero h2
  obtain ⟨f0, f1, fa0, fa1, fn⟩ := ptI_zero p1
  obtain ⟨n0, n1, _⟩ := q1i hD.tree (Int.le_refl 0) hz hn
  have hkn : kidL ns n = [] := by
    rcases (leaf_at hD n0 n1).2 with e | e
    · exact e.2
    · exact absurd hk3 e.1.1
  have hF := (mk_room hD (f, fa)).2 ⟨fn, fa0, fa1⟩
  have hN := (mk_room hD (n, 0)).2 ⟨hn, Int.le_refl 0, by unfold roomN; rw [if_pos (.inl hk3)]; simp only; omega⟩
  obtain ⟨s, hs, hb, ho⟩ := block_idx hD hn hkn
  have hlen := textL_len ns n
  unfold span_ranger_part.f bytN
  rw [if_pos n0, if_pos n1, if_pos hk3]
  by_cases c : f = n
  · subst c
    have hfa : fa ≤ (tl ns f : Int) := by
      unfold roomN at fa1
      rwa [if_pos (.inl hk3)] at fa1
    have hi := hb fa.toNat (by omega)
    rw [show ((fa.toNat : Nat) : Int) = fa by omega] at hi
    rw [if_pos rfl]
    obtain ⟨b, hb1, hb2⟩ := part_j0 hD q h hn hk3 fa ⟨fa0, hfa⟩ (fun e => by
      subst e
      unfold wayP at hc
      rw [cmpL_app, cmpL] at hc
      by_cases e1 : 2 * fa < 2 * ta
      · omega
      · rw [if_neg (show ¬ 2 * (t, fa).2 < 2 * (t, ta).2 from e1)] at hc
        by_cases e2 : 2 * ta < 2 * fa
        · rw [if_pos (show 2 * (t, ta).2 < 2 * (t, fa).2 from e2)] at hc
          exact absurd rfl hc
        · omega) k hk
    exact ⟨b, hb1, by rw [hb2, hi, hs, show s + fa.toNat - s = fa.toNat by omega]⟩
  · have hord := order_eqs hD.tree q n0 n1 (a := 0) ⟨by omega, by omega⟩ hn f0 f1 (b := fa) ⟨fa0, by have := room_small hD f0 f1; omega⟩ fn k (by omega)
    have hlt := sorted_lt (mk_sorted hD.tree (leafy_of hD) _ 0 (Nat.le_refl _) (Int.le_refl 0) hz) hN hF
    rw [hs] at hlt
    rw [if_neg c, hord, Option.bind_some]
    by_cases c2 : cmpL (wayP ns (n, 0)) (wayP ns (f, fa)) < 0
    · have : cmpL (wayP ns (n, 0)) (wayP ns (f, fa)) = -1 := by
        rcases cmpL_val (wayP ns (n, 0)) (wayP ns (f, fa)) with e | e | e <;> omega
      have := hlt.2 this
      have := (ho (f, fa) hF c).resolve_left (by omega)
      rw [if_pos c2]
      refine ⟨_, rfl, ?_⟩
      rw [hs, List.drop_eq_nil_of_le (by rw [List.length_take, hlen]; omega)]
    · have hnl : ¬ s < (mk ns 0).idxOf (f, fa) := fun e => by
        have := hlt.1 e
        omega
      rw [if_neg c2]
      obtain ⟨b, hb1, hb2⟩ := part_j0 hD q h hn hk3 0 ⟨Int.le_refl 0, by omega⟩ (fun e => by
        obtain ⟨_, _, ta0, _, _⟩ := ptI_zero p2
        exact ta0) k hk
      refine ⟨b, hb1, ?_⟩
      rw [hb2, hs, show (mk ns 0).idxOf (f, fa) - s = 0 by omega]
      rfl
theorem ptext_l0 {f fa t ta : Int} (h : spanE ns f fa t ta = 0) (l : List Int) (hl : l.length ≤ 200) (hr : ∀ x ∈ l, x ∈ sub ns 0) (d : Nat) : ∀ (j k : Nat) (o : ByteArray), j + d = l.length → o.size + 400 * d ≤ 1000000 → d + 602 < k →
    ∃ r, span_Text.l0 k o l (l.length : Int) (j : Int) ns q f fa t ta ns q = some (r, 0) ∧ r.data.toList = o.data.toList ++ (l.drop j).flatMap fun n => bytN ns ((mk ns 0).idxOf (f, fa)) ((mk ns 0).idxOf (t, ta)) n ((mk ns 0).idxOf (n, 0)) := by
  have hz : (0 : Int) < ns.length := by have := hD.some_; omega
  induction d with
  | zero =>
    intro j k o hj ho hk
    obtain ⟨k, rfl⟩ : ∃ z, k = z + 1 := ⟨k - 1, by omega⟩
    refine ⟨o, by rw [span_Text.l0, if_neg (by omega)], ?_⟩
    rw [List.drop_eq_nil_of_le (by omega)]
    simp
  | succ d ih =>
    intro j k o hj ho hk
    obtain ⟨k, rfl⟩ : ∃ z, k = z + 1 := ⟨k - 1, by omega⟩
    have hlt : j < l.length := by omega
    have hd := dropK l j hlt
    have hx := hr (rd l (j : Int)) (List.mem_of_mem_drop (i := j) (by rw [hd]; simp))
    obtain ⟨x0, x1, _⟩ := q1i hD.tree (Int.le_refl 0) hz hx
    rw [span_Text.l0, if_pos (by omega), if_pos (by omega), if_pos (by omega), if_pos x0, if_pos x1, hd, List.flatMap_cons, w1 j (by omega)]
    show ∃ r, (if q1y ns (rd l (j : Int)) = 3 then _ else _) = some (r, 0) ∧ _
    by_cases c : q1y ns (rd l (j : Int)) = 3
    · obtain ⟨b, hb1, hb2⟩ := part_eq hD q h hx c k (by omega)
      have hbs : b.size ≤ 400 := by
        have h1 : b.data.toList.length ≤ tl ns (rd l (j : Int)) := by
          rw [hb2]
          unfold bytN
          rw [if_pos c, List.length_drop, List.length_take, textL_len]
          omega
        have h2 := (leaf_at hD x0 x1).1
        have h3 : b.size = b.data.toList.length := rfl
        omega
      rw [if_pos c, hb1, Option.bind_some, if_pos (by omega)]
      obtain ⟨r, hr1, hr2⟩ := ih (j + 1) k (o ++ b) (by omega) (by rw [ByteArray.size_append]; omega) (by omega)
      refine ⟨r, hr1, ?_⟩
      rw [hr2, ByteArray.data_append, Array.toList_append, hb2, List.append_assoc]
    · rw [if_neg c]
      obtain ⟨r, hr1, hr2⟩ := ih (j + 1) k o (by omega) (by omega) (by omega)
      refine ⟨r, hr1, ?_⟩
      rw [hr2, show bytN ns ((mk ns 0).idxOf (f, fa)) ((mk ns 0).idxOf (t, ta)) (rd l (j : Int)) ((mk ns 0).idxOf (rd l (j : Int), 0)) = [] from if_neg c, List.nil_append]
omit hD in
theorem segs_past (f t : Nat) : ∀ (l : List (Int × Int)) (off : Nat), t ≤ off → segsL ns f t off l = []
  | [], _, _ => rfl
  | [_], _, _ => rfl
  | a :: b :: r, off, h => by rw [q1q, if_neg (by omega), segs_past f t (b :: r) (off + 1) (by omega)]; rfl
omit hD in
theorem segs_skip (f t : Nat) (L : List (Int × Int)) : ∀ (i : Nat), i ≤ f → f < L.length → segsL ns f t 0 L = segsL ns f t i (L.drop i)
  | 0, _, _ => rfl
  | i + 1, h, hl => by
    rw [segs_skip f t L i (by omega) hl, List.drop_eq_getElem_cons (show i < L.length by omega), List.drop_eq_getElem_cons (show i + 1 < L.length by omega), q1q, if_neg (by omega), List.nil_append]
theorem rtext_l0 (f t : Nat) (ht : t < (mk ns 0).length) (d : Nat) : ∀ (i k : Nat) (o : ByteArray), i + d = t → f ≤ i → d < k → o.size + 400 * d ≤ 100000000 →
    ∃ r, clerestoryref1_SpanText.l0 k ((mk ns 0).map asP) (t : Int) o (i : Int) ns q = some r ∧ r.data.toList = o.data.toList ++ segsL ns f t i ((mk ns 0).drop i) := by
  have hz : (0 : Int) < ns.length := by have := hD.some_; omega
  have hmm := mk_many hD
  induction d with
  | zero =>
    intro i k o hi hf hk ho
    obtain ⟨k, rfl⟩ : ∃ z, k = z + 1 := ⟨k - 1, by omega⟩
    refine ⟨o, by rw [clerestoryref1_SpanText.l0, if_neg (by omega)], ?_⟩
    rw [segs_past f t _ i (by omega), List.append_nil]
  | succ d ih =>
    intro i k o hi hf hk ho
    obtain ⟨k, rfl⟩ : ∃ z, k = z + 1 := ⟨k - 1, by omega⟩
    have h1 : i < (mk ns 0).length := by omega
    have h2 : i + 1 < (mk ns 0).length := by omega
    have hr : ∀ j : Nat, (h : j < (mk ns 0).length) → q08 ((mk ns 0).map asP) (j : Int) = asP (mk ns 0)[j] := fun j h => by
      unfold q08
      rw [List.getD_eq_getElem?_getD, Int.toNat_natCast, List.getElem?_map, List.getElem?_eq_getElem h]
      rfl
    rw [clerestoryref1_SpanText.l0, if_pos (by omega), if_pos (by omega), if_pos (by rw [List.length_map]; omega), w1 i (by omega), if_pos (by omega), if_pos (by rw [List.length_map]; omega), hr i h1, hr (i + 1) h2]
    have hseg : segsL ns f t i ((mk ns 0).drop i) = segP ns (mk ns 0)[i] (mk ns 0)[i + 1] ++ segsL ns f t (i + 1) ((mk ns 0).drop (i + 1)) := by
      rw [List.drop_eq_getElem_cons h1, List.drop_eq_getElem_cons h2, q1q, if_pos (by omega)]
    rw [hseg]
    have m1 := (mk_room hD _).1 (List.getElem_mem h1)
    have m2 := (mk_room hD _).1 (List.getElem_mem h2)
    have hp := List.pairwise_iff_getElem.1 (mk_sorted hD.tree (leafy_of hD) _ 0 (Nat.le_refl _) (Int.le_refl 0) hz) i (i + 1) h1 h2 (by omega)
    generalize (mk ns 0)[i] = a at m1 hp ⊢
    generalize (mk ns 0)[i + 1] = b at m2 hp ⊢
    obtain ⟨x0, x1, _⟩ := q1i hD.tree (Int.le_refl 0) hz m1.1
    show ∃ r, (if a.1 = b.1 then (if 0 ≤ a.1 then (if a.1 < (ns.length : Int) then (if q1y ns a.1 = 3 then (if 0 ≤ a.2 then (if a.2 ≤ b.2 then (if b.2 ≤ (((q00 ns a.1).f3).size : Int) then (if o.size + (((q00 ns a.1).f3).extract a.2.toNat b.2.toNat).size ≤ 9223372036854775807 then clerestoryref1_SpanText.l0 k ((mk ns 0).map asP) (t : Int) (o ++ ((q00 ns a.1).f3).extract a.2.toNat b.2.toNat) ((i + 1 : Nat) : Int) ns q else none) else none) else none) else none) else clerestoryref1_SpanText.l0 k ((mk ns 0).map asP) (t : Int) o ((i + 1 : Nat) : Int) ns q) else none) else none) else clerestoryref1_SpanText.l0 k ((mk ns 0).map asP) (t : Int) o ((i + 1 : Nat) : Int) ns q) = some r ∧ _
    have rest : ∀ o2 : ByteArray, o2.size ≤ o.size + 400 → ∃ r, clerestoryref1_SpanText.l0 k ((mk ns 0).map asP) (t : Int) o2 ((i + 1 : Nat) : Int) ns q = some r ∧ r.data.toList = o2.data.toList ++ segsL ns f t (i + 1) ((mk ns 0).drop (i + 1)) := fun o2 h2 => ih (i + 1) k o2 (by omega) (by omega) (by omega) (by omega)
    unfold segP
    by_cases c : a.1 = b.1
    · rw [if_pos c, if_pos x0, if_pos x1]
      by_cases c3 : q1y ns a.1 = 3
      · have hle : a.2 < b.2 := by
          unfold wayP at hp
          rw [c, cmpL_app, cmpL] at hp
          by_cases e1 : 2 * a.2 < 2 * b.2
          · omega
          · rw [if_neg e1] at hp
            by_cases e2 : 2 * b.2 < 2 * a.2
            · rw [if_pos e2] at hp; cases hp
            · rw [if_neg e2] at hp; cases hp
        have hb : b.2 ≤ (((q00 ns a.1).f3).size : Int) := by
          have := m2.2.2
          rw [← c] at this
          unfold roomN at this
          rwa [if_pos (.inl c3)] at this
        have ht4 := (leaf_at hD x0 x1).1
        have hes : (((q00 ns a.1).f3).extract a.2.toNat b.2.toNat).size ≤ 400 := by
          rw [ByteArray.size_extract]
          have : ((q00 ns a.1).f3).size = tl ns a.1 := rfl
          omega
        rw [if_pos c3, if_pos m1.2.1, if_pos (by omega), if_pos hb, if_pos (by omega), if_pos ⟨c, c3⟩]
        obtain ⟨r, hr1, hr2⟩ := rest (o ++ ((q00 ns a.1).f3).extract a.2.toNat b.2.toNat) (by rw [ByteArray.size_append]; omega)
        refine ⟨r, hr1, ?_⟩
        rw [hr2, ByteArray.data_append, Array.toList_append, extract_list, List.append_assoc, List.drop_take]
        rfl
      · rw [if_neg c3, if_neg (fun e => c3 e.2), List.nil_append]
        exact rest o (by omega)
    · rw [if_neg c, if_neg (fun e => c e.1), List.nil_append]
      exact rest o (by omega)
theorem text_both {f fa t ta : Int} (h : spanE ns f fa t ta = 0) (k : Nat) (hk : 300000 < k) (hc : dom_Check.f k ns q = some (docE ns)) :
    ∃ r r', span_Text.f k ns q f fa t ta = some (r, 0) ∧ clerestoryref1_SpanText.f k ns q f fa t ta = some r' ∧ r.toList = r'.toList := by
  have hz : (0 : Int) < ns.length := by have := hD.some_; omega
  have hmm := mk_many hD
  obtain ⟨h2, hcm⟩ := range_cmp h
  obtain ⟨_, p1, p2⟩ := twoE_zero h2
  obtain ⟨f0, f1, fa0, fa1, fn⟩ := ptI_zero p1
  obtain ⟨t0, t1, ta0, ta1, tn⟩ := ptI_zero p2
  have hF := (mk_room hD (f, fa)).2 ⟨fn, fa0, fa1⟩
  have hT := (mk_room hD (t, ta)).2 ⟨tn, ta0, ta1⟩
  have lF := List.idxOf_lt_length_iff.2 hF
  have lT := List.idxOf_lt_length_iff.2 hT
  have hle : (mk ns 0).idxOf (f, fa) ≤ (mk ns 0).idxOf (t, ta) := by
    have := sorted_lt (mk_sorted hD.tree (leafy_of hD) _ 0 (Nat.le_refl _) (Int.le_refl 0) hz) hT hF
    refine Nat.not_lt.1 fun e => hcm ?_
    have := this.1 e
    rw [cmpL_swap, this]
    rfl
  have hord := order_eq ns q k (by omega) hc
  rw [if_pos ((docE_iff ns).2 hD)] at hord
  have hsub := sub_few hD.tree (Int.le_refl 0) hz
  have hm2 := hD.many
  obtain ⟨r, hr1, hr2⟩ := ptext_l0 hD q h (sub ns 0) (by omega) (fun x hx => hx) (sub ns 0).length 0 k ⟨#[]⟩ (by omega) (by simp only [show (⟨#[]⟩ : ByteArray).size = 0 from rfl]; omega) (by omega)
  obtain ⟨r', hr1', hr2'⟩ := rtext_l0 hD q ((mk ns 0).idxOf (f, fa)) ((mk ns 0).idxOf (t, ta)) lT ((mk ns 0).idxOf (t, ta) - (mk ns 0).idxOf (f, fa)) ((mk ns 0).idxOf (f, fa)) k ⟨#[]⟩ (by omega) (Nat.le_refl _) (by omega) (by simp only [show (⟨#[]⟩ : ByteArray).size = 0 from rfl]; omega)
  refine ⟨r, r', ?_, ?_, ?_⟩
  · unfold span_Text.f span_span.f
    rw [spE_eq ns q f fa t ta k (by omega) hc, h, Option.bind_some, Option.bind_some]
    show ((dom_Order.f k ns q).bind fun b => span_Text.l0 k ⟨#[]⟩ b.1 (b.1.length : Int) 0 ns q f fa t ta ns q) = _
    rw [hord, Option.bind_some]
    exact hr1
  · unfold clerestoryref1_SpanText.f
    rw [marks_all hD q k (by omega), Option.bind_some, markOf_eq hD q f fa k (by omega), Option.bind_some, markOf_eq hD q t ta k (by omega), Option.bind_some]
    unfold mkI
    rw [if_pos hF, if_pos hT]
    exact hr1'
  · rw [Lib.toList_data, Lib.toList_data, hr2, hr2', ← segs_skip _ _ _ _ (Nat.le_refl _) lF, segs_mk hD.tree (leafy_of hD) _ _ _ 0 (Nat.le_refl _) (Int.le_refl 0) hz]
    simp only [List.drop_zero, Nat.zero_add]
end
end Go.Proofs.YthjnallbbhnndaaDoor.Dm
namespace Go.Proofs.YthjnallbbhnndaaDoor.Pure
open Go Go.RowKit Go.Proofs.YthjnallbbhnndaaDoor.XSp Go.Proofs.YthjnallbbhnndaaDoor.Dm Go.Proofs.YthjnallbbhnndaaDoorW.PrintWords Go.Proofs.YthjnallbbhnndaaDoorW.PrintLast Go.Proofs.YthjnallbbhnndaaDoorW.PrintMore
set_option maxRecDepth 100000
theorem begunS : clerestorylaw1_spanBegun.f 2000 = some true := by decide +kernel
theorem begunSK (k : Nat) (hk : 2000 ≤ k) : clerestorylaw1_spanBegun.f k = some true := by
  have := more_rounds (g := fun k => clerestorylaw1_spanBegun.f k) clerestorylaw1_spanBegun.mono 2000 (k - 2000) _ begunS
  rw [show 2000 + (k - 2000) = k by omega] at this
  exact this
theorem less_eq (ns : List S43) (q : Bool) (n a m b : Int) (k : Nat) (hk : 600 < k) (hc : dom_Check.f k ns q = some (docE ns)) : span_Less.f k ns q n a m b = some (if twoE ns n a m b = 0 then decide (cmpL (wayP ns (n, a)) (wayP ns (m, b)) < 0) else false, twoE ns n a m b) := by
  unfold span_Less.f span_points.f
  rw [ptE_eq ns q n a m b k hk hc, Option.bind_some, Option.bind_some]
  show (if twoE ns n a m b = 0 then (span_ranger_order.f k ns q n a m b).bind fun o => some (decide (o < 0), 0) else some (false, twoE ns n a m b)) = _
  by_cases c : twoE ns n a m b = 0
  · rw [if_pos c, order_two q c k hk, Option.bind_some, if_pos c, c]
  · rw [if_neg c, if_neg c]
theorem text_eq (ns : List S43) (q : Bool) (n a m b : Int) (k : Nat) (hk : 300000 < k) (hc : dom_Check.f k ns q = some (docE ns)) :
    ∃ r, span_Text.f k ns q n a m b = some (r, spanE ns n a m b) ∧ (spanE ns n a m b = 0 → ∃ r', clerestoryref1_SpanText.f k ns q n a m b = some r' ∧ r.toList = r'.toList) ∧ (spanE ns n a m b ≠ 0 → r = ⟨#[]⟩) := by
  by_cases c : spanE ns n a m b = 0
  · obtain ⟨r, r', h1, h2, h3⟩ := text_both (twoE_zero (range_cmp c).1).1 q c k hk hc
    exact ⟨r, by rw [h1, c], fun _ => ⟨r', h2, h3⟩, fun e => absurd c e⟩
  · refine ⟨⟨#[]⟩, ?_, fun e => absurd e c, fun _ => rfl⟩
    unfold span_Text.f span_span.f
    rw [spE_eq ns q n a m b k (by omega) hc, Option.bind_some, Option.bind_some]
    exact if_neg c
theorem check_eqS (ns : List S43) (q : Bool) (n a m b : Int) (k : Nat) (hk : 600 < k) (hc : dom_Check.f k ns q = some (docE ns)) : span_Check.f k ns q n a m b = some (spanE ns n a m b) := by
  unfold span_Check.f span_span.f
  rw [spE_eq ns q n a m b k hk hc, Option.bind_some, Option.bind_some]
theorem two_swap {ns : List S43} {n a m b : Int} (h : twoE ns n a m b = 0) : twoE ns m b n a = 0 := by
  obtain ⟨hD, h1, h2⟩ := twoE_zero h
  unfold twoE
  rw [if_neg (by rw [(docE_iff ns).2 hD]; decide), if_neg (by rw [h2]; decide), h1]
theorem less_ref {ns : List S43} {n a m b : Int} (h : twoE ns n a m b = 0) : decide (cmpL (wayP ns (n, a)) (wayP ns (m, b)) < 0) = (spanE ns m b n a == 9) := by
  unfold spanE
  rw [if_neg (by rw [two_swap h]; decide), cmpL_swap (wayP ns (n, a)) (wayP ns (m, b))]
  rcases cmpL_val (wayP ns (n, a)) (wayP ns (m, b)) with e | e | e <;> rw [e] <;> rfl
theorem lpW_eq (ns : List S43) (q : Bool) (n a m b : Int) (k : Nat) (hk : 60 < k) (hd : clerestoryref1_DocErr.f k ns q = some (docE ns)) : lpW k ns q n a m b = some (twoE ns n a m b) := by
  unfold lpW twoE
  rw [hd, Option.bind_some]
  by_cases c : docE ns = 0
  · have hD := (docE_iff ns).1 c
    rw [if_pos c, if_neg (fun e => e c), pointErr_eq hD q n a k hk, Option.bind_some]
    by_cases c1 : ptI ns n a = 0
    · rw [if_pos c1, if_neg (fun e => e c1), pointErr_eq hD q m b k hk]
    · rw [if_neg c1, if_pos c1]
  · rw [if_neg c, if_pos c]
theorem SpanPoints : clerestorylaw1_SpanPoints.Pure := by
  intro l0 q n a m b hl _ _ _ _ _
  obtain ⟨ns, hb, _, hS, hK⟩ := brief_of_form l0 q hl
  obtain ⟨K, hKk⟩ := both_check ns q hS hK
  refine ⟨K + 400000, ?_⟩
  obtain ⟨hc, hd⟩ := hKk (K + 400000) (by omega)
  obtain ⟨r, hr1, hr2, hr3⟩ := text_eq ns q n a m b (K + 400000) (by omega) hc
  have hs : (if twoE ns n a m b = 0 then (clerestoryref1_SpanErr.f (K + 400000) ns q m b n a).bind fun z => some (z == 9) else some false) = some (if twoE ns n a m b = 0 then decide (cmpL (wayP ns (n, a)) (wayP ns (m, b)) < 0) else false) := by
    by_cases c : twoE ns n a m b = 0
    · rw [if_pos c, spanErr_eq ns q m b n a _ (by omega) hd, Option.bind_some, if_pos c, less_ref c]
    · rw [if_neg c, if_neg c]
  obtain ⟨t, ht, hrt⟩ : ∃ t, (if spanE ns n a m b = 0 then clerestoryref1_SpanText.f (K + 400000) ns q n a m b else some ⟨#[]⟩) = some t ∧ r.toList = t.toList := by
    by_cases c : spanE ns n a m b = 0
    · obtain ⟨r', h1, h2⟩ := hr2 c
      exact ⟨r', by rw [if_pos c, h1], h2⟩
    · exact ⟨_, by rw [if_neg c], by rw [hr3 c]⟩
  unfold clerestorylaw1_SpanPoints.f
  rw [hb _ (by omega), Option.bind_some, less_eq ns q n a m b _ (by omega) hc, Option.bind_some, hr1, Option.bind_some, lpW_eq ns q n a m b _ (by omega) hd, Option.bind_some, spanErr_eq ns q n a m b _ (by omega) hd, Option.bind_some]
  simp only
  rw [hs, Option.bind_some, ht, Option.bind_some, begunSK _ (by omega), Option.bind_some, check_eqS ns q n a m b _ (by omega) hc, Option.bind_some]
  refine if_pos ⟨?_, ?_, ?_, ?_, hrt, ?_⟩ <;> first | rfl | trivial
end Go.Proofs.YthjnallbbhnndaaDoor.Pure
namespace Go.Proofs.YthjnallbbhnndaaDoor
open Go Go.Shelf Go.ChangeShapes Go.WideShapes Go.ChangeAt Go.RowKit Go.Lib
def lay2 : List (String × DataW Unit) := [("unicode/utf8.acceptRanges", Rows.laid_unicode_utf8_acceptRanges), ("unicode/utf8.first", Rows.laid_unicode_utf8_first)]
noncomputable def laidWorld (os : Os) : World :=
  let w0 := World.holding Tryd.prog os ⟨#[], #[], []⟩
  let put (h : Array Obj) (g : Nat) (cs : Array Value) : Array Obj := h.modify g fun
    | .cells _ t frozen => .cells cs t frozen
    | o => o
  let h1 := put w0.heap 1 (Lib.firstTab.map fun z => Value.int .u8 z).toArray
  let h2 := put h1 2 ((List.range 16).flatMap fun i => [Value.int .u8 (Lib.accLo i), Value.int .u8 (Lib.accHi i)]).toArray
  { w0 with heap := h2 }
theorem laid_met (os : Os) (args : Array Value) : laidMet Tryd.prog lay2 ((laidWorld os).forCall (fun _ _ => 0) ⟨#[], args, []⟩).memory :=
  (LaidIn.of_run (l := lay2) [2, 1] 8 (by kernel_rfl) (by kernel_rfl) (by kernel_rfl) (by kernel_rfl)).met
theorem own_ : ownKnob Tryd.prog.godebug = none := by kernel_rfl
theorem laidOut_ : laidOutB Tryd.prog = true := by kernel_rfl
end Go.Proofs.YthjnallbbhnndaaDoor
