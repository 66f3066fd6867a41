/- Attributes set and dropped: the program's way (one place) and the reference's (the list gone through) come to one list; what is right of it. No memory, no Go. -/
import Derived.Test.YthjnallbbhnndaaDoorG5
import Derived.ProofKit
import Derived.SizedLaws
import Derived.Deep.Slices
namespace Go.Proofs.YthjnallbbhnndaaDoor.Dm
open Go Go.RowKit Go.Proofs.YthjnallbbhnndaaDoor.XDe Go.Proofs.YthjnallbbhnndaaDoorW.PrintWords Go.Proofs.YthjnallbbhnndaaDoorW.PrintLast
def setA (nm u : ByteArray) (l : List S122) : List S122 := l.map fun a => if a.f0.toList = nm.toList then ⟨a.f0, u⟩ else a
def dropN (nm : ByteArray) (l : List S122) : List S122 := l.filter fun a => !(a.f0.toList == nm.toList)
theorem edl0_eq (nm u : ByteArray) (d : Int) (xs : List S122) (hx : xs.length ≤ 1000) (m : Nat) : ∀ (i k : Nat) (o : List S122) (st : Bool), i + m = xs.length → m < k → o.length + m ≤ 4000000 →
    edl0 nm u d k (i : Int) xs o st = some (o ++ (if d = 1 then setA nm u (xs.drop i) else if d = 2 then dropN nm (xs.drop i) else xs.drop i), st || (decide (d = 1) && hasA (xs.drop i) nm)) := by
  induction m with
  | zero =>
    intro i k o st hi hk _
    obtain ⟨k, rfl⟩ : ∃ z, k = z + 1 := ⟨k - 1, by omega⟩
    rw [edl0, if_neg (by omega), List.drop_eq_nil_of_le (by omega)]
    simp [setA, dropN, hasA]
  | succ m ih =>
    intro i k o st hi hk ho
    obtain ⟨k, rfl⟩ : ∃ z, k = z + 1 := ⟨k - 1, by omega⟩
    have e : wrap64 ((i : Int) + 1) = ((i + 1 : Nat) : Int) := by unfold wrap64; omega
    rw [edl0, if_pos (by omega), if_pos (by omega), e, dropA xs i (by omega)]
    by_cases c : (q06 xs (i : Int)).f0.toList = nm.toList
    · rw [if_pos c]
      by_cases d1 : d = 1
      · subst d1
        rw [if_pos rfl, if_pos (by omega), ih (i + 1) k _ _ (by omega) (by omega) (by rw [List.length_append]; simp only [List.length_cons, List.length_nil]; omega)]
        simp [setA, hasA, c]
      · rw [if_neg d1]
        by_cases d2 : d = 2
        · subst d2
          rw [if_pos rfl, ih (i + 1) k _ _ (by omega) (by omega) (by omega)]
          simp [dropN, c]
        · rw [if_neg d2, if_pos (by omega), ih (i + 1) k _ _ (by omega) (by omega) (by rw [List.length_append]; simp only [List.length_cons, List.length_nil]; omega)]
          simp [d1, d2]
    · rw [if_neg c, if_pos (by omega), ih (i + 1) k _ _ (by omega) (by omega) (by rw [List.length_append]; simp only [List.length_cons, List.length_nil]; omega)]
      have cb : ((q06 xs (i : Int)).f0.toList == nm.toList) = false := beq_eq_false_iff_ne.2 c
      by_cases d1 : d = 1 <;> by_cases d2 : d = 2 <;> simp [setA, dropN, hasA, c, cb, d1, d2]
theorem edl0_all (nm u : ByteArray) (d : Int) (xs : List S122) (hx : xs.length ≤ 1000) (k : Nat) (hk : xs.length < k) :
    edl0 nm u d k 0 xs [] false = some (if d = 1 then setA nm u xs else if d = 2 then dropN nm xs else xs, decide (d = 1) && hasA xs nm) := by
  have := edl0_eq nm u d xs hx xs.length 0 k [] false (by omega) hk (by simp; omega)
  simpa using this
theorem findA (l : List S122) (nm : ByteArray) (hn : (l.map fun x => x.f0.toList).Nodup) (hh : hasA l nm = true) : ∃ j : Nat, ∃ hj : j < l.length, l[j].f0.toList = nm.toList ∧ Cl.idxOf (fun x => x.f0.toList == nm.toList) l = (j : Int) ∧ ∀ i : Nat, ∀ hi : i < l.length, i ≠ j → l[i].f0.toList ≠ nm.toList := by
  unfold hasA at hh
  rw [List.any_eq_true] at hh
  obtain ⟨x, hx, e⟩ := hh
  obtain ⟨j, hj, rfl⟩ := List.mem_iff_getElem.1 hx
  have e : l[j].f0.toList = nm.toList := by simpa using e
  have ne : ∀ i : Nat, ∀ hi : i < l.length, i ≠ j → l[i].f0.toList ≠ nm.toList := fun i hi hne h2 => by
    rw [List.Nodup, List.pairwise_iff_getElem] at hn
    rcases Nat.lt_or_gt_of_ne hne with h | h
    · have := hn i j (by rw [List.length_map]; omega) (by rw [List.length_map]; omega) h
      rw [List.getElem_map, List.getElem_map] at this
      exact this (h2.trans e.symm)
    · have := hn j i (by rw [List.length_map]; omega) (by rw [List.length_map]; omega) h
      rw [List.getElem_map, List.getElem_map] at this
      exact this (e.trans h2.symm)
  refine ⟨j, hj, e, Cl.idxOf_hit _ z122 l j hj (by rw [Cl.getD_lt l j z122 hj]; simpa using e) (fun i hi => ?_), ne⟩
  rw [Cl.getD_lt l i z122 (by omega)]
  have := ne i (by omega) (by omega)
  simpa using this
theorem missA (l : List S122) (nm : ByteArray) (hh : hasA l nm = false) : Cl.idxOf (fun x => x.f0.toList == nm.toList) l = -1 := by
  refine Cl.idxOf_miss _ z122 l fun j hj => ?_
  rw [Cl.getD_lt l j z122 hj]
  have := (hasA_false l nm).1 hh _ (List.getElem_mem hj)
  simpa using this
theorem setA_at (nm u : ByteArray) (l : List S122) (j : Nat) (hj : j < l.length) (e : l[j].f0.toList = nm.toList) (ne : ∀ i : Nat, ∀ hi : i < l.length, i ≠ j → l[i].f0.toList ≠ nm.toList) : setA nm u l = l.set j { l.getD j z122 with f1 := u } := by
  unfold setA
  apply List.ext_getElem
  · simp
  · intro i h1 h2
    rw [List.length_map] at h1
    rw [List.getElem_map, List.getElem_set]
    by_cases c : j = i
    · subst c
      rw [if_pos rfl, if_pos e, Cl.getD_lt l j z122 hj]
    · rw [if_neg c, if_neg (ne i h1 (fun h => c h.symm))]
theorem setA_none (nm u : ByteArray) (l : List S122) (hh : hasA l nm = false) : setA nm u l = l := by
  unfold setA
  have := (hasA_false l nm).1 hh
  rw [List.map_congr_left (g := id) (fun a ha => by rw [if_neg (this a ha)]; rfl), List.map_id]
theorem dropN_at (nm : ByteArray) (l : List S122) (j : Nat) (hj : j < l.length) (e : l[j].f0.toList = nm.toList) (ne : ∀ i : Nat, ∀ hi : i < l.length, i ≠ j → l[i].f0.toList ≠ nm.toList) : dropN nm l = l.eraseIdx j := by
  unfold dropN
  rw [List.eraseIdx_eq_take_drop_succ]
  conv => lhs; rw [← List.take_append_drop j l, List.drop_eq_getElem_cons hj]
  rw [List.filter_append, List.filter_cons_of_neg (by simp [e]), List.filter_eq_self.2, List.filter_eq_self.2]
  · intro a ha
    obtain ⟨i, hi, rfl⟩ := List.mem_iff_getElem.1 ha
    rw [List.length_drop] at hi
    rw [List.getElem_drop]
    have := ne (j + 1 + i) (by omega) (by omega)
    simpa using this
  · intro a ha
    obtain ⟨i, hi, rfl⟩ := List.mem_iff_getElem.1 ha
    rw [List.length_take] at hi
    rw [List.getElem_take]
    have := ne i (by omega) (by omega)
    simpa using this
theorem attrs_set {l : List S122} (h : attrsOk l) (nm u : ByteArray) (hh : hasA l nm = true) : attrsOk (setA nm u l) ↔ u.size ≤ 400 := by
  have hm : (setA nm u l).map (fun x => x.f0.toList) = l.map fun x => x.f0.toList := by
    unfold setA
    rw [List.map_map]
    refine List.map_congr_left fun a _ => ?_
    show (if a.f0.toList = nm.toList then (⟨a.f0, u⟩ : S122) else a).f0.toList = a.f0.toList
    split <;> rfl
  constructor
  · intro h2
    unfold hasA at hh
    rw [List.any_eq_true] at hh
    obtain ⟨x, hx, e⟩ := hh
    have := (h2.1 (if x.f0.toList = nm.toList then ⟨x.f0, u⟩ else x) (List.mem_map.2 ⟨x, hx, rfl⟩)).2
    rw [if_pos (by simpa using e)] at this
    exact this
  · intro hu
    refine ⟨fun x hx => ?_, by rw [hm]; exact h.2⟩
    obtain ⟨a, ha, rfl⟩ := List.mem_map.1 hx
    have := h.1 a ha
    by_cases c : a.f0.toList = nm.toList
    · rw [if_pos c]; exact ⟨this.1, hu⟩
    · rw [if_neg c]; exact this
theorem attrs_more {l : List S122} (h : attrsOk l) (nm u : ByteArray) (hh : hasA l nm = false) : attrsOk (l ++ [⟨nm, u⟩]) ↔ nameB nm false = true ∧ u.size ≤ 400 := by
  constructor
  · intro h2
    exact h2.1 ⟨nm, u⟩ (by simp)
  · intro hu
    refine ⟨fun x hx => ?_, ?_⟩
    · rcases List.mem_append.1 hx with hx | hx
      · exact h.1 x hx
      · rw [List.mem_singleton] at hx; subst hx; exact hu
    · rw [List.map_append, List.nodup_append]
      refine ⟨h.2, by simp, fun a ha b hb => ?_⟩
      obtain ⟨x, hx, rfl⟩ := List.mem_map.1 ha
      have hb : b = nm.toList := by simpa using hb
      rw [hb]
      exact (hasA_false l nm).1 hh x hx
theorem attrs_less {l : List S122} (h : attrsOk l) (nm : ByteArray) : attrsOk (dropN nm l) := by
  unfold dropN
  exact ⟨fun x hx => h.1 x (List.mem_filter.1 hx).1, List.Nodup.sublist (List.Sublist.map _ List.filter_sublist) h.2⟩
theorem node_attrs {x : S43} (hx : q1x x = 0) (h2 : x.f0 = 2) (l : List S122) : q1x { x with f2 := l } = 0 ↔ l.length ≤ 12 ∧ attrsOk l := by
  rw [q1w] at hx ⊢
  have hb : bareB { x with f2 := l } = bareB x := by unfold bareB; simp [h2]
  rw [hb]
  obtain ⟨a1, a2, a3, a4, a5, a6, a7, a8⟩ := hx
  exact ⟨fun h => ⟨h.2.2.2.2.1, h.2.2.2.2.2.1⟩, fun h => ⟨a1, a2, a3, a4, h.1, h.2, a7, a8⟩⟩
theorem node_text {x : S43} (hx : q1x x = 0) (h2 : x.f0 = 3 ∨ x.f0 = 4) (u : ByteArray) : q1x { x with f3 := u } = 0 ↔ u.size ≤ 400 := by
  rw [q1w] at hx ⊢
  have hb : bareB { x with f3 := u } = bareB x := by unfold bareB; rcases h2 with h2 | h2 <;> simp [h2]
  rw [hb]
  obtain ⟨a1, a2, a3, a4, a5, a6, a7, a8⟩ := hx
  exact ⟨fun h => h.2.2.2.2.2.2.1, fun h => ⟨a1, a2, a3, a4, a5, a6, h, a8⟩⟩
theorem node_kids {x : S43} (hx : q1x x = 0) (h2 : x.f0 = 1 ∨ x.f0 = 2) (l : List Int) : q1x { x with f5 := l } = 0 := by
  rw [q1w] at hx ⊢
  have hb : bareB { x with f5 := l } = bareB x := by unfold bareB; rcases h2 with h2 | h2 <;> simp [h2]
  rw [hb]
  exact hx
theorem node_par {x : S43} (hx : q1x x = 0) (p : Int) : q1x { x with f4 := p } = 0 := by
  rw [q1w] at hx ⊢
  exact hx
theorem node_kind {x : S43} (hx : q1x x = 0) (hk : x.f5 ≠ []) : x.f0 = 1 ∨ x.f0 = 2 := by
  rw [q1w] at hx
  obtain ⟨a1, a2, a3, -⟩ := hx
  unfold bareB at a3
  rw [Bool.and_eq_true, Bool.and_eq_true, Bool.and_eq_true] at a3
  have := a3.2.2.2
  have hl : ¬ x.f5.length = 0 := fun e => hk (List.length_eq_zero_iff.1 e)
  simp only [Bool.or_eq_true, decide_eq_true_eq] at this
  omega
end Go.Proofs.YthjnallbbhnndaaDoor.Dm
namespace Go.Proofs.YthjnallbbhnndaaDoor.Dm
open Go Go.RowKit Go.Proofs.YthjnallbbhnndaaDoor.XDe Go.Proofs.YthjnallbbhnndaaDoorW.PrintWords Go.Proofs.YthjnallbbhnndaaDoorW.PrintLast
set_option maxRecDepth 10000
def idx : List Int → Int → Nat
  | [], _ => 0
  | y :: t, x => if y = x then 0 else idx t x + 1
def idxI (l : List Int) (x : Int) : Int := if hasK l x = true then (idx l x : Int) else -1
theorem hasK_cons (y : Int) (t : List Int) (x : Int) : hasK (y :: t) x = (decide (y = x) || hasK t x) := rfl
theorem index_l0 (o : List Int) (x : Int) (ho : o.length ≤ 4611686018427387900) (d : Nat) : ∀ (i k : Nat), i + d = o.length → d < k →
    slices_Index_int_int.l0 k o x (o.length : Int) (i : Int) = some (if hasK (o.drop i) x = true then ((i + idx (o.drop i) x : Nat) : Int) else -1) := by
  induction d with
  | zero =>
    intro i k h hk
    obtain ⟨k, rfl⟩ : ∃ z, k = z + 1 := ⟨k - 1, by omega⟩
    rw [slices_Index_int_int.l0, if_neg (by omega), List.drop_eq_nil_of_le (by omega)]
    rfl
  | succ d ih =>
    intro i k h hk
    obtain ⟨k, rfl⟩ : ∃ z, k = z + 1 := ⟨k - 1, by omega⟩
    rw [slices_Index_int_int.l0, if_pos (by omega), if_pos (by omega), if_pos (by omega), w1 i (by omega), ih (i + 1) k (by omega) (by omega), dropK o i (by omega), hasK_cons, idx]
    by_cases c : x = rd o (i : Int)
    · rw [if_pos c, decide_eq_true c.symm, Bool.true_or, if_pos rfl, if_pos c.symm]
      rfl
    · rw [if_neg c, decide_eq_false (p := rd o (i : Int) = x) (fun e => c e.symm), Bool.false_or, if_neg (c := rd o (i : Int) = x) (fun e => c e.symm)]
      split
      · congr 1
        omega
      · rfl
theorem index_eq (o : List Int) (x : Int) (ho : o.length ≤ 4611686018427387900) (k : Nat) (hk : o.length < k) : slices_Index_int_int.f k o x = some (idxI o x) := by
  unfold slices_Index_int_int.f
  have := index_l0 o x ho o.length 0 k (by omega) hk
  rw [List.drop_zero, show ((0 : Nat) : Int) = 0 from rfl, Nat.zero_add] at this
  exact this
theorem place_l0' (o : List Int) (x : Int) (ho : o.length ≤ 4611686018427387900) (d : Nat) : ∀ (i k : Nat), i + d = o.length → d < k →
    clerestoryref1_placeIn.l0 k o x (i : Int) = some (if hasK (o.drop i) x = true then ((i + idx (o.drop i) x : Nat) : Int) else -1) := by
  induction d with
  | zero =>
    intro i k h hk
    obtain ⟨k, rfl⟩ : ∃ z, k = z + 1 := ⟨k - 1, by omega⟩
    rw [clerestoryref1_placeIn.l0, if_neg (by omega), List.drop_eq_nil_of_le (by omega)]
    rfl
  | succ d ih =>
    intro i k h hk
    obtain ⟨k, rfl⟩ : ∃ z, k = z + 1 := ⟨k - 1, by omega⟩
    rw [clerestoryref1_placeIn.l0, if_pos (by omega), if_pos (by omega), w1 i (by omega), ih (i + 1) k (by omega) (by omega), dropK o i (by omega), hasK_cons, idx]
    by_cases c : rd o (i : Int) = x
    · rw [if_pos c, decide_eq_true c, Bool.true_or, if_pos rfl, if_pos c]
      rfl
    · rw [if_neg c, decide_eq_false c, Bool.false_or, if_neg c]
      split
      · congr 1
        omega
      · rfl
theorem place_eq (o : List Int) (x : Int) (ho : o.length ≤ 4611686018427387900) (k : Nat) (hk : o.length < k) : clerestoryref1_placeIn.f k o x = some (idxI o x) := by
  unfold clerestoryref1_placeIn.f
  have := place_l0' o x ho o.length 0 k (by omega) hk
  rw [List.drop_zero, show ((0 : Nat) : Int) = 0 from rfl, Nat.zero_add] at this
  exact this
theorem idxI_mem {l : List Int} {x : Int} (h : x ∈ l) : idxI l x = (idx l x : Int) := if_pos ((mem_hasK l x).2 h)
theorem idx_lt : ∀ {l : List Int} {x : Int}, x ∈ l → idx l x < l.length
  | y :: t, x, h => by
    unfold idx
    by_cases c : y = x
    · rw [if_pos c]; simp
    · rw [if_neg c]
      have := idx_lt (l := t) (x := x) (by
        rcases List.mem_cons.1 h with e | e
        · exact absurd e.symm c
        · exact e)
      simp only [List.length_cons]
      omega
def relP (ns : List S43) : Nat → Int → List Int
  | 0, x => [x]
  | d + 1, x => upN ns (d + 1) x :: relP ns d x
theorem relP_len (ns : List S43) : ∀ (d : Nat) (x : Int), (relP ns d x).length = d + 1
  | 0, _ => rfl
  | d + 1, x => by simp [relP, relP_len ns d]
section
variable {ns : List S43} (h : Tree ns)
include h
theorem kid_len {i : Int} (h0 : 0 ≤ i) (h1 : i < ns.length) : (kidL ns i).length ≤ 200 := by
  have := few_of ns.length (kidL ns i) (h.once i h0 h1) fun x hx => ⟨(h.kid i x h0 h1 hx).1, (h.kid i x h0 h1 hx).2.1⟩
  have := h.many
  omega
theorem under_rel (q : Bool) {t : Int} (ht : 0 ≤ t) : ∀ (d : Nat) (x : Int), q0n ns x = d → 0 ≤ x → x < ns.length → ∀ k, d + 1 < k → clerestoryref1_Under.l0 k x t ns q = some (decide (t ∈ relP ns d x))
  | d, x, hd, h0, h1, k, hk => by
    obtain ⟨k, rfl⟩ : ∃ z, k = z + 1 := ⟨k - 1, by omega⟩
    rw [clerestoryref1_Under.l0]
    have hm : ∀ e y, y ∈ relP ns e y := fun e y => by induction e <;> simp [relP, *]
    by_cases c0 : x = t
    · subst c0
      rw [if_pos rfl, decide_eq_true (hm _ _)]
      simp
    · rw [if_neg c0, if_pos h0, if_pos h0, if_pos h1]
      show clerestoryref1_Under.l0 k (par ns x) t ns q = _
      by_cases c : par ns x < 0
      · have hd0 := deep_root h c
        obtain rfl : d = 0 := by omega
        obtain ⟨k, rfl⟩ : ∃ z, k = z + 1 := ⟨k - 1, by omega⟩
        rw [clerestoryref1_Under.l0, if_neg (by omega), if_neg (by omega)]
        have e1 : (par ns x == t) = false := beq_eq_false_iff_ne.2 (by omega)
        rw [e1, decide_eq_false (by simp [relP]; omega)]
      · rcases h.up x h0 h1 with hr | ⟨p0, p1, hx⟩
        · omega
        have hu := deep_up h h0 h1 p0
        obtain ⟨d', rfl⟩ : ∃ d', d = d' + 1 := ⟨d - 1, by omega⟩
        rw [under_rel q ht d' (par ns x) (by omega) p0 p1 k (by omega)]
        congr 1
        have e : ∀ e, t ∈ relP ns (e + 1) x ↔ t ∈ relP ns e (par ns x) := fun e => by
          induction e with
          | zero => simp [relP, upN]; intro hh; exact absurd hh.symm c0
          | succ e ih =>
            show t ∈ upN ns (e + 2) x :: relP ns (e + 1) x ↔ t ∈ upN ns (e + 1) (par ns x) :: relP ns e (par ns x)
            rw [List.mem_cons, List.mem_cons, ih]
            rfl
        exact decide_eq_decide.2 (e d').symm
theorem under_all (q : Bool) {x t : Int} (h0 : 0 ≤ x) (h1 : x < ns.length) (ht : 0 ≤ t) (k : Nat) (hk : 50 < k) : clerestoryref1_Under.f k ns q x t = some (decide (t ∈ relP ns (q0n ns x) x)) := by
  have hd := (h.deep x h0 h1).1
  exact under_rel h q ht _ x rfl h0 h1 k (by omega)
end
theorem mem_relP (ns : List S43) (t : Int) : ∀ (d : Nat) (x : Int), t ∈ relP ns d x ↔ ∃ m : Nat, m ≤ d ∧ upN ns m x = t
  | 0, x => by
    refine ⟨fun h => ⟨0, Nat.le_refl _, by rw [relP, List.mem_singleton] at h; exact h.symm⟩, fun ⟨m, h1, h2⟩ => ?_⟩
    obtain rfl : m = 0 := by omega
    rw [relP, List.mem_singleton]
    exact h2.symm
  | d + 1, x => by
    rw [relP, List.mem_cons, mem_relP ns t d x]
    constructor
    · rintro (e | ⟨m, h1, h2⟩)
      · exact ⟨d + 1, Nat.le_refl _, e.symm⟩
      · exact ⟨m, by omega, h2⟩
    · rintro ⟨m, h1, h2⟩
      by_cases e : m = d + 1
      · subst e; exact .inl h2.symm
      · exact .inr ⟨m, by omega, h2⟩
section
variable {ns : List S43} (h : Tree ns)
include h
theorem edBelow_rel {t : Int} (ht : 0 ≤ t) : ∀ (d : Nat) (x : Int), q0n ns x = d → 0 ≤ x → x < ns.length → ∀ k, d + 1 < k → edBelow ns t k x = some (decide (t ∈ relP ns d x))
  | d, x, hd, h0, h1, k, hk => by
    obtain ⟨k, rfl⟩ : ∃ z, k = z + 1 := ⟨k - 1, by omega⟩
    rw [edBelow, if_pos h0]
    by_cases c0 : x = t
    · rw [if_pos c0, decide_eq_true ((mem_relP ns t d x).2 ⟨0, Nat.zero_le _, c0⟩)]
    · rw [if_neg c0, if_pos h1]
      show edBelow ns t k (par ns x) = _
      by_cases c : par ns x < 0
      · have hd0 := deep_root h c
        obtain rfl : d = 0 := by omega
        obtain ⟨k, rfl⟩ : ∃ z, k = z + 1 := ⟨k - 1, by omega⟩
        rw [edBelow, if_neg (by omega)]
        have e1 : (par ns x == t) = false := beq_eq_false_iff_ne.2 (by omega)
        rw [e1, decide_eq_false (by simp [relP]; omega)]
      · rcases h.up x h0 h1 with hr | ⟨p0, p1, hx⟩
        · omega
        have hu := deep_up h h0 h1 p0
        obtain ⟨d', rfl⟩ : ∃ d', d = d' + 1 := ⟨d - 1, by omega⟩
        rw [edBelow_rel ht d' (par ns x) (by omega) p0 p1 k (by omega)]
        congr 1
        refine decide_eq_decide.2 ?_
        rw [mem_relP, mem_relP]
        constructor
        · rintro ⟨m, m1, m2⟩
          exact ⟨m + 1, by omega, m2⟩
        · rintro ⟨m, m1, m2⟩
          cases m with
          | zero => exact absurd m2 c0
          | succ m => exact ⟨m, by omega, m2⟩
end
theorem erase_eq {α : Type} (l : List α) (i : Nat) : l.eraseIdx i = l.take i ++ l.drop (i + 1) := List.eraseIdx_eq_take_drop_succ l i
theorem idx_split : ∀ {l : List Int} {x : Int}, x ∈ l → l = l.take (idx l x) ++ x :: l.drop (idx l x + 1)
  | y :: t, x, h => by
    unfold idx
    by_cases c : y = x
    · rw [if_pos c, c]; rfl
    · rw [if_neg c]
      have := idx_split (l := t) (x := x) (by
        rcases List.mem_cons.1 h with e | e
        · exact absurd e.symm c
        · exact e)
      show y :: t = y :: (t.take (idx t x) ++ x :: t.drop (idx t x + 1))
      rw [← this]
end Go.Proofs.YthjnallbbhnndaaDoor.Dm
namespace Go.Proofs.YthjnallbbhnndaaDoor.Dm
open Go Go.RowKit Go.Proofs.YthjnallbbhnndaaDoor.XDe Go.Proofs.YthjnallbbhnndaaDoorW.PrintWords Go.Proofs.YthjnallbbhnndaaDoorW.PrintLast
set_option maxRecDepth 10000
theorem un_self {ns : List S43} {n : Int} : n ∈ relP ns (q0n ns n) n := (mem_relP ns n _ n).2 ⟨0, Nat.zero_le _, rfl⟩
section
variable {ns : List S43} (h : Tree ns)
include h
theorem deep_upN : ∀ (m : Nat) (x : Int), m ≤ q0n ns x → 0 ≤ x → x < ns.length → 0 ≤ upN ns m x ∧ upN ns m x < ns.length ∧ q0n ns (upN ns m x) + m = q0n ns x
  | 0, x, _, h0, h1 => ⟨h0, h1, rfl⟩
  | m + 1, x, hm, h0, h1 => by
    rcases h.rank x h0 h1 with ⟨a, b⟩ | ⟨a, b, c⟩
    · omega
    · have := deep_upN m (par ns x) (by omega) a b
      refine ⟨this.1, this.2.1, ?_⟩
      have e : upN ns (m + 1) x = upN ns m (par ns x) := rfl
      rw [e]
      omega
theorem un_root {n i : Int} (hp : par ns i < 0) (hne : i ≠ n) : n ∉ relP ns (q0n ns i) i := by
  rw [mem_relP, deep_root h hp]
  rintro ⟨m, h1, h2⟩
  obtain rfl : m = 0 := by omega
  exact hne h2
theorem un_up {n i : Int} (h0 : 0 ≤ i) (h1 : i < ns.length) (hp : 0 ≤ par ns i) (hne : i ≠ n) : n ∈ relP ns (q0n ns i) i ↔ n ∈ relP ns (q0n ns (par ns i)) (par ns i) := by
  rw [mem_relP, mem_relP, deep_up h h0 h1 hp]
  constructor
  · rintro ⟨m, m1, m2⟩
    cases m with
    | zero => exact absurd m2 hne
    | succ m => exact ⟨m, by omega, m2⟩
  · rintro ⟨m, m1, m2⟩
    exact ⟨m + 1, by omega, m2⟩
theorem un_deep {n i : Int} (h0 : 0 ≤ i) (h1 : i < ns.length) (hu : n ∈ relP ns (q0n ns i) i) : q0n ns n ≤ q0n ns i := by
  obtain ⟨m, m1, m2⟩ := (mem_relP ns n _ i).1 hu
  have := (deep_upN h m i m1 h0 h1).2.2
  rw [m2] at this
  omega
theorem sub_self {t : Int} (h0 : 0 ≤ t) (h1 : t < ns.length) : t ∈ sub ns t := by rw [sub_eq h h0 h1]; simp
theorem sub_trans : ∀ (d : Nat) (t : Int), 41 - q0n ns t ≤ d → 0 ≤ t → t < ns.length → ∀ y x, y ∈ sub ns t → x ∈ kidL ns y → x ∈ sub ns t
  | 0, t, hd, h0, h1 => by have := (h.deep t h0 h1).1; omega
  | d + 1, t, hd, h0, h1 => fun y x hy hx => by
    rw [sub_eq h h0 h1] at hy ⊢
    rcases List.mem_cons.1 hy with e | hy
    · subst e
      have hk := h.kid y x h0 h1 hx
      exact List.mem_cons_of_mem _ (List.mem_flatMap.2 ⟨x, hx, sub_self h hk.1 hk.2.1⟩)
    · obtain ⟨c, hc, hyc⟩ := List.mem_flatMap.1 hy
      obtain ⟨c0, c1, -⟩ := h.kid t c h0 h1 hc
      have := deep_kid h h0 h1 hc
      exact List.mem_cons_of_mem _ (List.mem_flatMap.2 ⟨c, hc, sub_trans d c (by omega) c0 c1 y x hyc hx⟩)
theorem sub_of_up {t : Int} (t0 : 0 ≤ t) (t1 : t < ns.length) : ∀ (m : Nat) (x : Int), m ≤ q0n ns x → 0 ≤ x → x < ns.length → upN ns m x = t → x ∈ sub ns t
  | 0, x, _, h0, h1, e => by
    have e : x = t := e
    rw [e]; exact sub_self h t0 t1
  | m + 1, x, hm, h0, h1, e => by
    rcases h.up x h0 h1 with a | ⟨a, b, c⟩
    · have := deep_root h (i := x) (by omega); omega
    · have hu := deep_up h h0 h1 a
      exact sub_trans h _ t (Nat.le_refl _) t0 t1 _ _ (sub_of_up t0 t1 m (par ns x) (by omega) a b e) c
theorem un_iff {t x : Int} (t0 : 0 ≤ t) (t1 : t < ns.length) (h0 : 0 ≤ x) (h1 : x < ns.length) : t ∈ relP ns (q0n ns x) x ↔ x ∈ sub ns t := by
  rw [mem_relP]
  constructor
  · rintro ⟨m, m1, m2⟩
    exact sub_of_up h t0 t1 m x m1 h0 h1 m2
  · intro hx
    have := sub_facts h t0 t1 hx
    exact ⟨q0n ns x - q0n ns t, by omega, this.2.2.2⟩
end
def IsH (ns : List S43) (i : Int) (m : Nat) : Prop := (∀ x ∈ sub ns i, q0n ns x ≤ q0n ns i + m) ∧ ∃ x ∈ sub ns i, q0n ns x = q0n ns i + m
theorem edDeepL_eq {ns : List S43} (B : Nat) (l : List Int) (hl : l.length ≤ 1000) (H : ∀ c ∈ l, ∀ k, B < k → ∃ m : Nat, m ≤ 100 ∧ edDeep ns k c = some (m : Int) ∧ IsH ns c m) (d : Nat) : ∀ (j k mo : Nat), j + d = l.length → d + B < k → mo ≤ 200 →
    ∃ m : Nat, edDeepL ns k l (j : Int) (mo : Int) = some (m : Int) ∧ mo ≤ m ∧ (∀ c ∈ l.drop j, ∃ mc, IsH ns c mc ∧ mc + 1 ≤ m) ∧ (m = mo ∨ ∃ c ∈ l.drop j, ∃ mc, IsH ns c mc ∧ m = mc + 1) := by
  induction d with
  | zero =>
    intro j k mo hj hk hm
    obtain ⟨k, rfl⟩ : ∃ z, k = z + 1 := ⟨k - 1, by omega⟩
    refine ⟨mo, by rw [edDeepL, if_neg (by omega)], Nat.le_refl _, fun c hc => ?_, .inl rfl⟩
    rw [List.drop_eq_nil_of_le (by omega)] at hc
    cases hc
  | succ d ih =>
    intro j k mo hj hk hm
    obtain ⟨k, rfl⟩ : ∃ z, k = z + 1 := ⟨k - 1, by omega⟩
    have hin : rd l (j : Int) ∈ l := by
      have e : rd l (j : Int) = l[j] := by simp [rd, List.getD, show j < l.length by omega]
      rw [e]; exact List.getElem_mem _
    obtain ⟨mc, hmc, he, hH⟩ := H _ hin k (by omega)
    rw [edDeepL, if_pos (by omega), if_pos (by omega), he, Option.bind_some, show wrap64 ((mc : Int) + 1) = ((mc + 1 : Nat) : Int) by unfold wrap64; omega, w1 j (by omega)]
    rw [dropK l j (by omega)]
    by_cases c : (mo : Int) < ((mc + 1 : Nat) : Int)
    · rw [if_pos c]
      obtain ⟨m, e, h1, h2, h3⟩ := ih (j + 1) k (mc + 1) (by omega) (by omega) (by omega)
      refine ⟨m, e, by omega, fun x hx => ?_, ?_⟩
      · rcases List.mem_cons.1 hx with rfl | hx
        · exact ⟨mc, hH, h1⟩
        · exact h2 x hx
      · rcases h3 with rfl | ⟨x, hx, y, hy⟩
        · exact .inr ⟨_, List.mem_cons_self, mc, hH, rfl⟩
        · exact .inr ⟨x, List.mem_cons_of_mem _ hx, y, hy⟩
    · rw [if_neg c]
      obtain ⟨m, e, h1, h2, h3⟩ := ih (j + 1) k mo (by omega) (by omega) hm
      refine ⟨m, e, h1, fun x hx => ?_, ?_⟩
      · rcases List.mem_cons.1 hx with rfl | hx
        · exact ⟨mc, hH, by omega⟩
        · exact h2 x hx
      · rcases h3 with rfl | ⟨x, hx, y, hy⟩
        · exact .inl rfl
        · exact .inr ⟨x, List.mem_cons_of_mem _ hx, y, hy⟩
section
variable {ns : List S43} (h : Tree ns)
include h
theorem edDeep_eq : ∀ (d : Nat) (i : Int), 41 - q0n ns i ≤ d → 0 ≤ i → i < ns.length → ∀ k, 210 * d < k → ∃ m : Nat, m ≤ 100 ∧ edDeep ns k i = some (m : Int) ∧ IsH ns i m
  | 0, i, hd, h0, h1 => by have := (h.deep i h0 h1).1; omega
  | d + 1, i, hd, h0, h1 => fun k hk => by
    obtain ⟨k, rfl⟩ : ∃ z, k = z + 1 := ⟨k - 1, by omega⟩
    have hl := kid_len h h0 h1
    have K : ∀ c ∈ kidL ns i, 0 ≤ c ∧ c < ns.length ∧ q0n ns c = q0n ns i + 1 := fun c hc => ⟨(h.kid i c h0 h1 hc).1, (h.kid i c h0 h1 hc).2.1, deep_kid h h0 h1 hc⟩
    obtain ⟨m, e, -, h2, h3⟩ := edDeepL_eq (210 * d) (kidL ns i) (by omega) (fun c hc k hk => edDeep_eq d c (by have := (K c hc).2.2; omega) (K c hc).1 (K c hc).2.1 k hk) (kidL ns i).length 0 k 0 (by omega) (by omega) (by omega)
    rw [List.drop_zero] at h2 h3
    have hH : IsH ns i m := by
      constructor
      · intro x hx
        rw [sub_eq h h0 h1] at hx
        rcases List.mem_cons.1 hx with rfl | hx
        · omega
        · obtain ⟨c, hc, hxc⟩ := List.mem_flatMap.1 hx
          obtain ⟨mc, hm, hle⟩ := h2 c hc
          have := hm.1 x hxc
          have := (K c hc).2.2
          omega
      · rcases h3 with rfl | ⟨c, hc, mc, hm, rfl⟩
        · exact ⟨i, sub_self h h0 h1, by omega⟩
        · obtain ⟨x, hx, ex⟩ := hm.2
          refine ⟨x, ?_, by have := (K c hc).2.2; omega⟩
          rw [sub_eq h h0 h1]
          exact List.mem_cons_of_mem _ (List.mem_flatMap.2 ⟨c, hc, hx⟩)
    refine ⟨m, ?_, ?_, hH⟩
    · obtain ⟨x, hx, ex⟩ := hH.2
      have := sub_facts h h0 h1 hx
      have := (h.deep x this.1 this.2.1).1
      omega
    · rw [edDeep, if_pos h0, if_pos h1]
      exact e
end
structure Moved (ns ms : List S43) (n p pn : Int) (l : List Int) : Prop where
  len : ms.length = ns.length
  par : ∀ i : Int, 0 ≤ i → Dm.par ms i = if i = n then pn else Dm.par ns i
  kid : ∀ i : Int, 0 ≤ i → kidL ms i = if i = p then l else kidL ns i
  kind : ∀ i : Int, 0 ≤ i → kindN ms i = kindN ns i
  node : ∀ i : Int, 0 ≤ i → i < ns.length → q1x (q00 ms i) = 0
theorem moved {ns : List S43} (h : DocOk ns) {n p : Int} (n0 : 0 ≤ n) (n1 : n < ns.length) (p0 : 0 ≤ p) (p1 : p < ns.length) (hne : n ≠ p) (hk : kindN ns p = 1 ∨ kindN ns p = 2) (pn : Int) (l : List Int) :
    Moved ns ((ns.set p.toNat { q00 ns p with f5 := l }).set n.toNat { q00 ns n with f4 := pn }) n p pn l := by
  have r : ∀ i : Int, 0 ≤ i → q00 ((ns.set p.toNat { q00 ns p with f5 := l }).set n.toNat { q00 ns n with f4 := pn }) i = if i = n then { q00 ns n with f4 := pn } else if i = p then { q00 ns p with f5 := l } else q00 ns i := fun i hi => by
    rw [rd_setN _ n _ i n0 (by rw [List.length_set]; exact n1) hi, rd_setN _ p _ i p0 p1 hi]
  refine ⟨by rw [List.length_set, List.length_set], fun i hi => ?_, fun i hi => ?_, fun i hi => ?_, fun i hi h1 => ?_⟩
  · show (q00 _ i).f4 = _
    rw [r i hi]
    by_cases e : i = n
    · rw [if_pos e, if_pos e]
    · rw [if_neg e, if_neg e]
      by_cases e2 : i = p
      · rw [if_pos e2, e2]; rfl
      · rw [if_neg e2]; rfl
  · show (q00 _ i).f5 = _
    rw [r i hi]
    by_cases e : i = n
    · rw [if_pos e, if_neg (by rw [e]; exact hne), e]; rfl
    · rw [if_neg e]
      by_cases e2 : i = p
      · rw [if_pos e2, if_pos e2]
      · rw [if_neg e2, if_neg e2]; rfl
  · show (q00 _ i).f0 = _
    rw [r i hi]
    by_cases e : i = n
    · rw [if_pos e, e]; rfl
    · rw [if_neg e]
      by_cases e2 : i = p
      · rw [if_pos e2, e2]; rfl
      · rw [if_neg e2]; rfl
  · rw [r i hi]
    by_cases e : i = n
    · rw [if_pos e]; exact node_par (h.node n n0 n1) pn
    · rw [if_neg e]
      by_cases e2 : i = p
      · rw [if_pos e2]; exact node_kids (h.node p p0 p1) hk l
      · rw [if_neg e2]; exact h.node i hi h1
theorem DocOk.left {ns ms : List S43} (h : DocOk ns) {n p : Int} (n0 : 0 ≤ n) (n1 : n < ns.length) (p0 : 0 ≤ p) (hp : par ns n = p) (m : Moved ns ms n p (-1) ((kidL ns p).eraseIdx (idx (kidL ns p) n))) : DocOk ms := by
  have ht := h.tree
  obtain ⟨-, p1, hin⟩ : 0 ≤ p ∧ p < ns.length ∧ n ∈ kidL ns p := by
    rcases h.up n n0 n1 with e | e
    · omega
    · rw [hp] at e; exact e
  have sp := idx_split hin
  have hnd := h.once p p0 p1
  have hl : ∀ c, c ∈ (kidL ns p).eraseIdx (idx (kidL ns p) n) ↔ c ∈ kidL ns p ∧ c ≠ n := fun c => by
    rw [erase_eq]
    rw [sp] at hnd
    generalize (kidL ns p).take (idx (kidL ns p) n) = A at *
    generalize (kidL ns p).drop (idx (kidL ns p) n + 1) = B at *
    rw [sp]
    rw [List.nodup_append] at hnd
    obtain ⟨a1, a2, a3⟩ := hnd
    rw [List.nodup_cons] at a2
    simp only [List.mem_append, List.mem_cons]
    constructor
    · rintro (e | e)
      · exact ⟨.inl e, a3 c e n (by simp)⟩
      · exact ⟨.inr (.inr e), fun e2 => a2.1 (e2 ▸ e)⟩
    · rintro ⟨e | e | e, e2⟩
      · exact .inl e
      · exact absurd e e2
      · exact .inr e
  have hs : q0n ns n = q0n ns p + 1 := by have := deep_up ht n0 n1 (by rw [hp]; exact p0); rw [hp] at this; exact this
  have hdp : ∀ i : Int, 0 ≤ i → i < ms.length → q0n ms i = (if n ∈ relP ns (q0n ns i) i then q0n ns i - q0n ns n else q0n ns i) ∧ q0n ms i < ms.length := fun i i0 i1 => by
    refine deep_of_rank (ns := ms) (fun i => if n ∈ relP ns (q0n ns i) i then q0n ns i - q0n ns n else q0n ns i) (fun i h0 h1 => ?_) i0 i1
    rw [m.len] at h1
    rw [m.par i h0]
    by_cases e : i = n
    · rw [if_pos e, e, if_pos (un_self)]
      exact .inl ⟨by omega, by omega⟩
    · rw [if_neg e]
      rcases ht.rank i h0 h1 with ⟨a, b⟩ | ⟨a, b, c⟩
      · rw [if_neg (un_root ht a e)]
        exact .inl ⟨a, b⟩
      · refine .inr ⟨a, by rw [m.len]; exact b, ?_⟩
        by_cases u : n ∈ relP ns (q0n ns i) i
        · have u2 := (un_up ht h0 h1 a e).1 u
          have := un_deep ht a b u2
          rw [if_pos u, if_pos u2]
          omega
        · rw [if_neg u, if_neg (fun u2 => u ((un_up ht h0 h1 a e).2 u2))]
          exact c
  refine ⟨by rw [m.len]; exact h.many, by rw [m.len]; exact h.some_, fun i h0 h1 => m.node i h0 (by rw [← m.len]; exact h1), fun i h0 h1 => ?_, ?_, fun i c h0 h1 hi => ?_, fun i h0 h1 => ?_, fun c hi => ?_, fun i h0 h1 => ?_, fun i h0 h1 => ?_⟩
  · rw [m.kind i h0]; exact h.kind i h0 (by rw [← m.len]; exact h1)
  · rw [m.par 0 (by omega)]
    by_cases e : (0 : Int) = n
    · rw [if_pos e]
    · rw [if_neg e]; exact h.root
  · rw [m.len] at h1 ⊢
    rw [m.kid i h0] at hi
    by_cases e : i = p
    · rw [if_pos e] at hi
      obtain ⟨c1, c2⟩ := (hl c).1 hi
      obtain ⟨a, b, e2⟩ := h.kid p c p0 p1 c1
      exact ⟨a, b, by rw [m.par c a, if_neg c2, e]; exact e2⟩
    · rw [if_neg e] at hi
      obtain ⟨a, b, e2⟩ := h.kid i c h0 h1 hi
      refine ⟨a, b, ?_⟩
      rw [m.par c a, if_neg (fun e3 => e (by rw [← e2, e3, hp]))]
      exact e2
  · rw [m.len] at h1
    rw [m.kid i h0]
    by_cases e : i = p
    · rw [if_pos e]; exact hnd.sublist (List.eraseIdx_sublist _ _)
    · rw [if_neg e]; exact h.once i h0 h1
  · have h00 := h.some_
    rw [m.kid 0 (by omega)] at hi
    have hc : c ∈ kidL ns 0 := by
      by_cases e : (0 : Int) = p
      · rw [if_pos e] at hi
        rw [e]
        exact ((hl c).1 hi).1
      · rw [if_neg e] at hi; exact hi
    rw [m.kind c (h.kid 0 c (by omega) (by omega) hc).1]
    exact h.text c hc
  · rw [m.len] at h1 ⊢
    rw [m.par i h0]
    by_cases e : i = n
    · rw [if_pos e]; exact .inl rfl
    · rw [if_neg e]
      rcases h.up i h0 h1 with a | ⟨a, b, c⟩
      · exact .inl a
      · refine .inr ⟨a, b, ?_⟩
        rw [m.kid _ a]
        by_cases e2 : par ns i = p
        · rw [if_pos e2]; rw [e2] at c; exact (hl i).2 ⟨c, e⟩
        · rw [if_neg e2]; exact c
  · obtain ⟨e1, e2⟩ := hdp i h0 h1
    have := h.deep i h0 (by rw [← m.len]; exact h1)
    refine ⟨?_, by omega⟩
    rw [e1]
    split <;> omega
theorem DocOk.put {ns ms : List S43} (h : DocOk ns) {a t : Int} (a0 : 0 ≤ a) (a1 : a < ns.length) (t0 : 0 < t) (t1 : t < ns.length) (hp : par ns t < 0) (hu : t ∉ relP ns (q0n ns a) a) (htx : a = 0 → kindN ns t ≠ 3) (i : Nat) (m : Moved ns ms t a a ((kidL ns a).take i ++ t :: (kidL ns a).drop i)) (H : Nat) (hH : IsH ns t H) :
    DocOk ms ↔ q0n ns a + 1 + H ≤ 40 := by
  have ht := h.tree
  have hd0 := deep_root ht hp
  have hmem : ∀ c, c ∈ (kidL ns a).take i ++ t :: (kidL ns a).drop i ↔ c = t ∨ c ∈ kidL ns a := fun c => by
    conv => rhs; rw [← List.take_append_drop i (kidL ns a)]
    simp only [List.mem_append, List.mem_cons]
    constructor
    · rintro (e | e | e)
      · exact .inr (.inl e)
      · exact .inl e
      · exact .inr (.inr e)
    · rintro (e | e | e)
      · exact .inr (.inl e)
      · exact .inl e
      · exact .inr (.inr e)
  have hta : t ∉ kidL ns a := fun e => by
    have := (h.kid a t a0 a1 e).2.2
    omega
  have hdp : ∀ i : Int, 0 ≤ i → i < ms.length → q0n ms i = (if t ∈ relP ns (q0n ns i) i then q0n ns i + (q0n ns a + 1) else q0n ns i) ∧ q0n ms i < ms.length := fun i i0 i1 => by
    refine deep_of_rank (ns := ms) (fun i => if t ∈ relP ns (q0n ns i) i then q0n ns i + (q0n ns a + 1) else q0n ns i) (fun i h0 h1 => ?_) i0 i1
    rw [m.len] at h1
    rw [m.par i h0]
    by_cases e : i = t
    · rw [if_pos e, e, if_pos (un_self), if_neg hu, hd0]
      exact .inr ⟨a0, by rw [m.len]; exact a1, by omega⟩
    · rw [if_neg e]
      rcases ht.rank i h0 h1 with ⟨x, b⟩ | ⟨x, b, c⟩
      · rw [if_neg (un_root ht x e)]
        exact .inl ⟨x, b⟩
      · refine .inr ⟨x, by rw [m.len]; exact b, ?_⟩
        by_cases u : t ∈ relP ns (q0n ns i) i
        · rw [if_pos u, if_pos ((un_up ht h0 h1 x e).1 u)]
          omega
        · rw [if_neg u, if_neg (fun u2 => u ((un_up ht h0 h1 x e).2 u2))]
          exact c
  constructor
  · intro hd
    obtain ⟨x, hx, ex⟩ := hH.2
    have hf := sub_facts ht (by omega) t1 hx
    have := (hd.deep x hf.1 (by rw [m.len]; exact hf.2.1)).1
    rw [(hdp x hf.1 (by rw [m.len]; exact hf.2.1)).1, if_pos ((un_iff ht (by omega) t1 hf.1 hf.2.1).2 hx)] at this
    omega
  · intro hle
    refine ⟨by rw [m.len]; exact h.many, by rw [m.len]; exact h.some_, fun i h0 h1 => m.node i h0 (by rw [← m.len]; exact h1), fun i h0 h1 => ?_, ?_, fun j c h0 h1 hi => ?_, fun j h0 h1 => ?_, fun c hi => ?_, fun j h0 h1 => ?_, fun j h0 h1 => ?_⟩
    · rw [m.kind i h0]; exact h.kind i h0 (by rw [← m.len]; exact h1)
    · rw [m.par 0 (by omega), if_neg (by omega)]; exact h.root
    · rw [m.len] at h1 ⊢
      rw [m.kid j h0] at hi
      by_cases e : j = a
      · rw [if_pos e] at hi
        rcases (hmem c).1 hi with e2 | e2
        · rw [e2]
          exact ⟨by omega, t1, by rw [m.par t (by omega), if_pos rfl, e]⟩
        · obtain ⟨x, b, y⟩ := h.kid a c a0 a1 e2
          exact ⟨x, b, by rw [m.par c x, if_neg (fun e3 => hta (by rw [← e3]; exact e2)), e]; exact y⟩
      · rw [if_neg e] at hi
        obtain ⟨x, b, y⟩ := h.kid j c h0 h1 hi
        refine ⟨x, b, ?_⟩
        rw [m.par c x, if_neg (fun e3 => by rw [e3] at y; omega)]
        exact y
    · rw [m.len] at h1
      rw [m.kid j h0]
      by_cases e : j = a
      · rw [if_pos e]
        have hnd := h.once a a0 a1
        rw [← List.take_append_drop i (kidL ns a)] at hnd hta
        rw [List.nodup_append] at hnd ⊢
        rw [List.mem_append] at hta
        refine ⟨hnd.1, List.nodup_cons.2 ⟨fun e => hta (.inr e), hnd.2.1⟩, fun x hx y hy => ?_⟩
        rcases List.mem_cons.1 hy with e2 | e2
        · rw [e2]; exact fun e3 => hta (.inl (e3 ▸ hx))
        · exact hnd.2.2 x hx y e2
      · rw [if_neg e]; exact h.once j h0 h1
    · have h00 := h.some_
      rw [m.kid 0 (by omega)] at hi
      by_cases e : (0 : Int) = a
      · rw [if_pos e] at hi
        rcases (hmem c).1 hi with e2 | e2
        · rw [e2, m.kind t (by omega)]; exact htx e.symm
        · rw [← e] at e2
          rw [m.kind c (h.kid 0 c (by omega) (by omega) e2).1]; exact h.text c e2
      · rw [if_neg e] at hi
        rw [m.kind c (h.kid 0 c (by omega) (by omega) hi).1]; exact h.text c hi
    · rw [m.len] at h1 ⊢
      rw [m.par j h0]
      by_cases e : j = t
      · rw [if_pos e]
        exact .inr ⟨a0, a1, by rw [m.kid a a0, if_pos rfl, e]; exact (hmem t).2 (.inl rfl)⟩
      · rw [if_neg e]
        rcases h.up j h0 h1 with x | ⟨x, b, c⟩
        · exact .inl x
        · refine .inr ⟨x, b, ?_⟩
          rw [m.kid _ x]
          by_cases e2 : par ns j = a
          · rw [if_pos e2]; rw [e2] at c; exact (hmem j).2 (.inr c)
          · rw [if_neg e2]; exact c
    · obtain ⟨e1, e2⟩ := hdp j h0 h1
      have := h.deep j h0 (by rw [← m.len]; exact h1)
      refine ⟨?_, by omega⟩
      rw [e1]
      by_cases u : t ∈ relP ns (q0n ns j) j
      · rw [if_pos u]
        have := hH.1 j ((un_iff ht (by omega) t1 h0 (by rw [← m.len]; exact h1)).1 u)
        omega
      · rw [if_neg u]; exact this.1
end Go.Proofs.YthjnallbbhnndaaDoor.Dm
namespace Go.Proofs.YthjnallbbhnndaaDoor.Dm
open Go Go.RowKit Go.Proofs.YthjnallbbhnndaaDoor.XDe Go.Proofs.YthjnallbbhnndaaDoorW.PrintWords Go.Proofs.YthjnallbbhnndaaDoorW.PrintLast
set_option maxRecDepth 10000
theorem sameInts_l0 (l : List Int) (hl : l.length ≤ 1000000) (d : Nat) : ∀ (i k : Nat), i + d = l.length → d < k → clerestoryref1_SameInts.l0 k l l (i : Int) = some true := by
  induction d with
  | zero =>
    intro i k hi hk
    obtain ⟨k, rfl⟩ : ∃ z, k = z + 1 := ⟨k - 1, by omega⟩
    rw [clerestoryref1_SameInts.l0, if_neg (by omega)]
  | succ d ih =>
    intro i k hi hk
    obtain ⟨k, rfl⟩ : ∃ z, k = z + 1 := ⟨k - 1, by omega⟩
    rw [clerestoryref1_SameInts.l0, if_pos (by omega), if_pos (by omega), if_pos (by omega), if_pos rfl, w1 i (by omega), ih (i + 1) k (by omega) (by omega)]
theorem sameInts_self (l : List Int) (hl : l.length ≤ 1000000) (k : Nat) (hk : l.length < k) : clerestoryref1_SameInts.f k l l = some true := by
  unfold clerestoryref1_SameInts.f
  rw [if_pos rfl]
  exact sameInts_l0 l hl l.length 0 k (by omega) hk
theorem sameAttrs_l0 (l : List S122) (hl : l.length ≤ 1000000) (d : Nat) : ∀ (i k : Nat), i + d = l.length → d < k → clerestoryref1_SameAttrs.l0 k l l (i : Int) = some true := by
  induction d with
  | zero =>
    intro i k hi hk
    obtain ⟨k, rfl⟩ : ∃ z, k = z + 1 := ⟨k - 1, by omega⟩
    rw [clerestoryref1_SameAttrs.l0, if_neg (by omega)]
  | succ d ih =>
    intro i k hi hk
    obtain ⟨k, rfl⟩ : ∃ z, k = z + 1 := ⟨k - 1, by omega⟩
    rw [clerestoryref1_SameAttrs.l0, if_pos (by omega), if_pos (by omega), if_pos (by omega), if_neg (by simp), w1 i (by omega), ih (i + 1) k (by omega) (by omega)]
theorem sameAttrs_self (l : List S122) (hl : l.length ≤ 1000000) (k : Nat) (hk : l.length < k) : clerestoryref1_SameAttrs.f k l l = some true := by
  unfold clerestoryref1_SameAttrs.f
  rw [if_pos rfl]
  exact sameAttrs_l0 l hl l.length 0 k (by omega) hk
theorem sameNode_self (x : S43) (h2 : x.f2.length ≤ 1000) (h5 : x.f5.length ≤ 1000) (k : Nat) (hk : 1000 < k) : clerestoryref1_SameNode.f k x.f0 x.f1 x.f2 x.f3 x.f4 x.f5 x.f0 x.f1 x.f2 x.f3 x.f4 x.f5 = some true := by
  unfold clerestoryref1_SameNode.f
  rw [if_pos rfl, if_pos rfl, if_pos rfl, if_pos rfl, sameAttrs_self _ (by omega) k (by omega), Option.bind_some, if_pos rfl, sameInts_self _ (by omega) k (by omega), Option.bind_some]
theorem sameDoc_l0 (ns : List S43) (q : Bool) (hl : ns.length ≤ 1000) (hn : ∀ i : Int, (q00 ns i).f2.length ≤ 1000 ∧ (q00 ns i).f5.length ≤ 1000) (d : Nat) : ∀ (i k : Nat), i + d = ns.length → d + 1001 < k → clerestoryref1_SameDoc.l0 k (i : Int) ns q ns q = some true := by
  induction d with
  | zero =>
    intro i k hi hk
    obtain ⟨k, rfl⟩ : ∃ z, k = z + 1 := ⟨k - 1, by omega⟩
    rw [clerestoryref1_SameDoc.l0, if_neg (by omega)]
  | succ d ih =>
    intro i k hi hk
    obtain ⟨k, rfl⟩ : ∃ z, k = z + 1 := ⟨k - 1, by omega⟩
    rw [clerestoryref1_SameDoc.l0, if_pos (by omega), if_pos (by omega), if_pos (by omega), sameNode_self _ (hn _).1 (hn _).2 k (by omega), Option.bind_some, if_pos rfl, w1 i (by omega), ih (i + 1) k (by omega) (by omega)]
theorem sameDoc_self (ns : List S43) (q : Bool) (hl : ns.length ≤ 1000) (hn : ∀ i : Int, (q00 ns i).f2.length ≤ 1000 ∧ (q00 ns i).f5.length ≤ 1000) (k : Nat) (hk : ns.length + 1002 < k) : clerestoryref1_SameDoc.f k ns q ns q = some true := by
  unfold clerestoryref1_SameDoc.f
  obtain ⟨k, rfl⟩ : ∃ z, k = z + 1 := ⟨k - 1, by omega⟩
  rw [if_pos rfl, clerestoryref1_SameDoc.j0, if_neg (by simp)]
  exact sameDoc_l0 ns q hl hn ns.length 0 k (by omega) (by omega)
theorem rd_all {ns : List S43} {P : S43 → Prop} (hz : P z43) (h : ∀ y ∈ ns, P y) (i : Int) : P (q00 ns i) := by
  by_cases c : i.toNat < ns.length
  · have e : q00 ns i = ns[i.toNat] := by simp [q00, List.getD, c]
    rw [e]
    exact h _ (List.getElem_mem c)
  · have e : q00 ns i = z43 := by simp [q00, List.getD, c]
    rw [e]
    exact hz
def small (M : Nat) (y : S43) : Prop := y.f2.length ≤ M ∧ y.f5.length ≤ M
theorem small_z (M : Nat) : small M z43 := ⟨Nat.zero_le _, Nat.zero_le _⟩
theorem DocOk.small {ns : List S43} (h : DocOk ns) : ∀ y ∈ ns, Dm.small 200 y := fun y hy => by
  obtain ⟨j, hj, rfl⟩ := List.mem_iff_getElem.1 hy
  have e : q00 ns (j : Int) = ns[j] := by simp [q00, List.getD, hj]
  have h1 := h.node j (by omega) (by omega)
  have h2 := kid_len h.tree (i := j) (by omega) (by omega)
  rw [q1w] at h1
  unfold kidL at h2
  rw [e] at h1 h2
  have := h1.2.2.2.2.1
  exact ⟨by omega, h2⟩
theorem small_kids {ns : List S43} {M : Nat} (h : ∀ y ∈ ns, small M y) : KidsLe ns M := fun i => (rd_all (P := small M) (small_z M) h i).2
theorem small_set {ns : List S43} {M : Nat} (h : ∀ y ∈ ns, small M y) (n : Nat) {x : S43} (hx : small M x) : ∀ y ∈ ns.set n x, small M y := fun y hy => by
  rcases List.mem_or_eq_of_mem_set hy with e | e
  · exact h y e
  · rw [e]; exact hx
theorem small_more {ns : List S43} {M : Nat} (h : ∀ y ∈ ns, small M y) {x : S43} (hx : small M x) : ∀ y ∈ ns ++ [x], small M y := fun y hy => by
  rcases List.mem_append.1 hy with e | e
  · exact h y e
  · rw [List.mem_singleton] at e; rw [e]; exact hx
theorem small_up {ns : List S43} {M M' : Nat} (hM : M ≤ M') (h : ∀ y ∈ ns, small M y) : ∀ y ∈ ns, small M' y := fun y hy => ⟨Nat.le_trans (h y hy).1 hM, Nat.le_trans (h y hy).2 hM⟩
theorem copy_l0 (ns : List S43) (q : Bool) (hl : ns.length ≤ 1000) (hn : ∀ i : Int, (q00 ns i).f2.length ≤ 1000 ∧ (q00 ns i).f5.length ≤ 1000) (d : Nat) : ∀ (i k : Nat), i + d = ns.length → d < k → clerestoryref1_copyDoc.l0 k (i : Int) ns q (ns.take i) q = some (ns, q) := by
  induction d with
  | zero =>
    intro i k hi hk
    obtain ⟨k, rfl⟩ : ∃ z, k = z + 1 := ⟨k - 1, by omega⟩
    rw [clerestoryref1_copyDoc.l0, if_neg (by omega), List.take_of_length_le (by omega)]
  | succ d ih =>
    intro i k hi hk
    obtain ⟨k, rfl⟩ : ∃ z, k = z + 1 := ⟨k - 1, by omega⟩
    have hb := hn (i : Int)
    have e : ns.take (i + 1) = ns.take i ++ [q00 ns (i : Int)] := by
      rw [List.take_succ_eq_append_getElem (by omega)]
      congr 1
      simp [q00, List.getD, show i < ns.length by omega]
    have := ih (i + 1) k (by omega) (by omega)
    rw [e] at this
    rw [clerestoryref1_copyDoc.l0, if_pos (by omega), if_pos (by omega), Option.bind_some, if_pos (by simp only [List.length_nil]; omega), Option.bind_some, if_pos (by simp only [List.length_nil]; omega), if_pos (by rw [List.length_take]; omega), w1 i (by omega)]
    exact this
theorem copy_eq (ns : List S43) (q : Bool) (hl : ns.length ≤ 1000) (hn : ∀ i : Int, (q00 ns i).f2.length ≤ 1000 ∧ (q00 ns i).f5.length ≤ 1000) (k : Nat) (hk : ns.length < k) : clerestoryref1_copyDoc.f k ns q = some (ns, q) := by
  unfold clerestoryref1_copyDoc.f
  exact copy_l0 ns q hl hn ns.length 0 k (by omega) hk
theorem btw (a lo hi : Int) : clerestoryref1_between.f a lo hi = some (decide (lo ≤ a ∧ a ≤ hi)) := by
  unfold clerestoryref1_between.f
  by_cases c : a ≥ lo
  · rw [if_pos c]
    congr 1
    exact decide_eq_decide.2 ⟨fun h => ⟨c, h⟩, fun h => h.2⟩
  · rw [if_neg c, decide_eq_false (fun h => c h.1)]
theorem edited_made {ns : List S43} (h : DocOk ns) (q : Bool) (e0 e1 e2 e3 : Int) (e4 e5 : ByteArray) (e6 : Int) (e7 : ByteArray) (l8 : List S122) (e9 : ByteArray) (e10 : Int) (l11 : List Int) (k : Nat) (hk : 200000 < k)
    (hE : clerestoryref1_EditErr.f k ns q e0 e1 e2 e3 e4 e5 e6 e7 l8 e9 e10 l11 = some 0) {p : List S43} {m : Int} (hN : q1s k ns e0 e1 e2 e3 e4 e5 e6 e7 l8 e9 = some (p, m)) (hp : ∀ y ∈ p, small 300 y) (hl : p.length ≤ 201) {r : Int} (hr : r = 0 ∨ r = 2) (hd : DocOk p ↔ r = 0) :
    clerestoryref1_Edited.f k ns q e0 e1 e2 e3 e4 e5 e6 e7 l8 e9 e10 l11 = some (if r ≠ 0 then ([], false, 0, r) else (p, q, m, 0)) := by
  have hs := small_up (M' := 1000) (by omega) h.small
  have hm := h.many
  have h1 := h.some_
  have hD : clerestoryref1_DocErr.f k p q = some (docE p) := docErr_eq p q 300 (by decide) (small_kids hp) k (by
    unfold rounds
    have : (2 * 300 + 3) * p.length ≤ 603 * 201 := Nat.mul_le_mul_left 603 hl
    omega)
  unfold clerestoryref1_Edited.f
  rw [hE, Option.bind_some, if_neg (by decide), copy_eq ns q (by omega) (fun i => rd_all (P := small 1000) (small_z 1000) hs i) k (by omega), Option.bind_some, if_pos h1]
  show (q1s k ns e0 e1 e2 e3 e4 e5 e6 e7 l8 e9).bind _ = _
  rw [hN, Option.bind_some]
  show (clerestoryref1_DocErr.f k p q).bind _ = _
  rw [hD, Option.bind_some]
  by_cases c : docE p = 0
  · have := hd.1 ((docE_iff p).1 c)
    rw [if_neg (by omega), if_neg (by omega)]
  · have hr2 : r = 2 := by
      rcases hr with e | e
      · exact absurd ((docE_iff p).2 (hd.2 e)) c
      · exact e
    rw [if_pos c, if_pos (by omega), hr2]
theorem edited_err {ns : List S43} (q : Bool) (e0 e1 e2 e3 : Int) (e4 e5 : ByteArray) (e6 : Int) (e7 : ByteArray) (l8 : List S122) (e9 : ByteArray) (e10 : Int) (l11 : List Int) (k : Nat) {r : Int} (hE : clerestoryref1_EditErr.f k ns q e0 e1 e2 e3 e4 e5 e6 e7 l8 e9 e10 l11 = some r) (hr : r ≠ 0) (p : List S43) (m : Int) :
    clerestoryref1_Edited.f k ns q e0 e1 e2 e3 e4 e5 e6 e7 l8 e9 e10 l11 = some (if r ≠ 0 then ([], false, 0, r) else (p, q, m, 0)) := by
  unfold clerestoryref1_Edited.f
  rw [hE, Option.bind_some, if_pos hr, if_pos hr]
theorem err_node {ns : List S43} (h : DocOk ns) (q : Bool) (e0 e1 e2 e3 : Int) (e4 e5 : ByteArray) (e6 : Int) (e7 : ByteArray) (l8 : List S122) (e9 : ByteArray) (e10 : Int) (l11 : List Int) (k : Nat) (hk : 200000 < k) (h0 : 1 ≤ e0 ∧ e0 ≤ 6) (h4 : e0 ≠ 4) :
    clerestoryref1_EditErr.f k ns q e0 e1 e2 e3 e4 e5 e6 e7 l8 e9 e10 l11 = if (0 ≤ e1 ∧ e1 < ns.length) ∧ (e0 = 5 → 0 ≤ e2 ∧ e2 < ns.length) then edSw k ns q e0 e1 e2 e3 e4 (hasA (q00 ns e1).f2 e4) else some 5 := by
  have hm := h.many
  have hw : wrap64 ((ns.length : Int) - 1) = (ns.length : Int) - 1 := by unfold wrap64; omega
  unfold clerestoryref1_EditErr.f
  rw [btw, Option.bind_some, if_pos (decide_eq_true h0), if_neg h4, hw, btw, Option.bind_some]
  by_cases c1 : 0 ≤ e1 ∧ e1 < ns.length
  · rw [if_pos (decide_eq_true (by omega))]
    have hA := (rd_all (P := small 200) (small_z 200) h.small e1).1
    obtain ⟨v, hv⟩ := attrOf_has (q00 ns e1).f2 e4 (by omega) k (by omega)
    by_cases c5 : e0 = 5
    · rw [if_pos c5, btw, Option.bind_some]
      by_cases c2 : 0 ≤ e2 ∧ e2 < ns.length
      · rw [if_pos (decide_eq_true (by omega)), if_pos c1, hv, Option.bind_some, if_pos ⟨c1, fun _ => c2⟩]
      · rw [if_neg (by simp; omega), if_neg (fun hh => c2 (hh.2 c5))]
    · rw [if_neg c5, Option.bind_some, if_pos rfl, if_pos c1, hv, Option.bind_some, if_pos ⟨c1, fun e => absurd e c5⟩]
  · rw [if_neg (by simp; omega), if_neg (fun hh => c1 hh.1)]
end Go.Proofs.YthjnallbbhnndaaDoor.Dm
namespace Go.Proofs.YthjnallbbhnndaaDoor.Dm
open Go Go.RowKit Go.Proofs.YthjnallbbhnndaaDoor.XDe Go.Proofs.YthjnallbbhnndaaDoorW.PrintWords Go.Proofs.YthjnallbbhnndaaDoorW.PrintLast
set_option maxRecDepth 10000
def Both (k : Nat) (ns : List S43) (q : Bool) (e0 e1 e2 e3 : Int) (e4 e5 : ByteArray) (e6 : Int) (e7 : ByteArray) (l8 : List S122) (e9 : ByteArray) (e10 : Int) (l11 : List Int) : Prop :=
  ∃ (a : List S43) (b r : Int), q1t k ns q 0 e0 e1 e2 e3 e4 e5 e6 e7 l8 e9 e10 l11 = some (a, b, r) ∧
    (r ≠ 0 ∧ clerestoryref1_Edited.f k ns q e0 e1 e2 e3 e4 e5 e6 e7 l8 e9 e10 l11 = some ([], false, 0, r) ∨ r = 0 ∧ clerestoryref1_Edited.f k ns q e0 e1 e2 e3 e4 e5 e6 e7 l8 e9 e10 l11 = some (a, q, b, 0) ∧ DocOk a ∧ (∀ y ∈ a, small 300 y))
section
variable {ns : List S43} (h : DocOk ns) (q : Bool) (e0 e1 e2 e3 : Int) (e4 e5 : ByteArray) (e6 : Int) (e7 : ByteArray) (l8 : List S122) (e9 : ByteArray) (e10 : Int) (l11 : List Int) (k : Nat) (hk : 200000 < k)
theorem q18 {a : List S43} {b r : Int} (hp : q1t k ns q 0 e0 e1 e2 e3 e4 e5 e6 e7 l8 e9 e10 l11 = some (a, b, r)) (hr : r ≠ 0) (hE : clerestoryref1_EditErr.f k ns q e0 e1 e2 e3 e4 e5 e6 e7 l8 e9 e10 l11 = some r) : Both k ns q e0 e1 e2 e3 e4 e5 e6 e7 l8 e9 e10 l11 := by
  have := edited_err q e0 e1 e2 e3 e4 e5 e6 e7 l8 e9 e10 l11 k hE hr a b
  rw [if_pos hr] at this
  exact ⟨a, b, r, hp, .inl ⟨hr, this⟩⟩
include h hk
theorem both_made {a p : List S43} {b m r : Int} (hp : q1t k ns q 0 e0 e1 e2 e3 e4 e5 e6 e7 l8 e9 e10 l11 = some (a, b, r)) (hE : clerestoryref1_EditErr.f k ns q e0 e1 e2 e3 e4 e5 e6 e7 l8 e9 e10 l11 = some 0) (hN : q1s k ns e0 e1 e2 e3 e4 e5 e6 e7 l8 e9 = some (p, m))
    (hs : ∀ y ∈ p, small 300 y) (hl : p.length ≤ 201) (hr : r = 0 ∧ a = p ∧ b = m ∨ r = 2) (hd : DocOk p ↔ r = 0) : Both k ns q e0 e1 e2 e3 e4 e5 e6 e7 l8 e9 e10 l11 := by
  have := edited_made h q e0 e1 e2 e3 e4 e5 e6 e7 l8 e9 e10 l11 k hk hE hN hs hl (r := r) (by omega) hd
  refine ⟨a, b, r, hp, ?_⟩
  rcases hr with ⟨e, ea, eb⟩ | e
  · subst ea eb
    rw [if_neg (by omega)] at this
    exact .inr ⟨e, this, hd.2 e, hs⟩
  · rw [if_pos (by omega)] at this
    exact .inl ⟨by omega, this⟩
theorem q23 {x : S43} (h0 : 0 ≤ e1) (h1 : e1 < ns.length) (hx0 : x.f0 = kindN ns e1) (hx4 : x.f4 = par ns e1) (hx5 : x.f5 = kidL ns e1) (hs : x.f2.length ≤ 300) {a : List S43} {b r : Int} (hp : q1t k ns q 0 e0 e1 e2 e3 e4 e5 e6 e7 l8 e9 e10 l11 = some (a, b, r)) (hE : clerestoryref1_EditErr.f k ns q e0 e1 e2 e3 e4 e5 e6 e7 l8 e9 e10 l11 = some 0)
    (hN : q1s k ns e0 e1 e2 e3 e4 e5 e6 e7 l8 e9 = some (ns.set e1.toNat x, 0)) (hr : r = 0 ∧ a = ns.set e1.toNat x ∧ b = 0 ∨ r = 2) (hd : q1x x = 0 ↔ r = 0) : Both k ns q e0 e1 e2 e3 e4 e5 e6 e7 l8 e9 e10 l11 := by
  have hm := h.many
  refine both_made h q e0 e1 e2 e3 e4 e5 e6 e7 l8 e9 e10 l11 k hk hp hE hN (small_set (small_up (M' := 300) (by omega) h.small) _ ⟨hs, ?_⟩) (by rw [List.length_set]; omega) hr ((h.write h0 h1 hx0 hx4 hx5).trans hd)
  rw [hx5]
  have := kid_len h.tree h0 h1
  omega
end
theorem set_snoc {α : Type} (l : List α) (x y : α) : (l ++ [x]).set l.length y = l ++ [y] := by
  induction l with
  | nil => rfl
  | cons a t ih =>
    show a :: (t ++ [x]).set t.length y = a :: (t ++ [y])
    rw [ih]
theorem edVal_more (ns : List S43) (n : Int) (h0 : 0 ≤ n) (h1 : n < ns.length) (nm u : ByteArray) : edVal (ns.set n.toNat { q00 ns n with f2 := (q00 ns n).f2 ++ [⟨nm, .empty⟩] }) n (q00 ns n).f2.length u = ns.set n.toNat { q00 ns n with f2 := (q00 ns n).f2 ++ [⟨nm, u⟩] } := by
  have e := rd_setN ns n { q00 ns n with f2 := (q00 ns n).f2 ++ [⟨nm, .empty⟩] } n h0 h1 h0
  rw [if_pos rfl] at e
  unfold edVal
  rw [e, List.set_set]
  refine congrArg (ns.set n.toNat) ?_
  have e2 : ∀ l : List S122, (l ++ [(⟨nm, .empty⟩ : S122)]).set l.length { (l ++ [(⟨nm, .empty⟩ : S122)]).getD l.length z122 with f1 := u } = l ++ [⟨nm, u⟩] := fun l => by
    rw [set_snoc]
    simp [List.getD]
  exact congrArg (fun l => ({ q00 ns n with f2 := l } : S43)) (e2 _)
theorem both_attr {ns : List S43} (h : DocOk ns) (q : Bool) (e1 e2 e3 : Int) (e4 e5 : ByteArray) (e6 : Int) (e7 : ByteArray) (l8 : List S122) (e9 : ByteArray) (e10 : Int) (l11 : List Int) (k : Nat) (hk : 200000 < k) (h4 : e4.size ≤ 140737488355328) : Both k ns q 1 e1 e2 e3 e4 e5 e6 e7 l8 e9 e10 l11 := by
  have hE := err_node h q 1 e1 e2 e3 e4 e5 e6 e7 l8 e9 e10 l11 k hk (by decide) (by decide)
  have hP : q1t k ns q 0 1 e1 e2 e3 e4 e5 e6 e7 l8 e9 e10 l11 = (edAttr ns e1 e4 e5).bind fun p => some (p.1, 0, p.2) := by unfold q1t; rw [if_pos rfl]
  by_cases c1 : 0 ≤ e1 ∧ e1 < ns.length
  · rw [if_pos ⟨c1, fun e => absurd e (by decide)⟩] at hE
    unfold edSw at hE
    rw [if_pos rfl] at hE
    have hx := h.node e1 c1.1 c1.2
    have hx' := (q1w _).1 hx
    have hel : q24 ns e1 = if (q00 ns e1).f0 = 2 then 0 else 7 := by unfold q24; rw [if_pos c1]
    by_cases ck : (q00 ns e1).f0 = 2
    · rw [if_pos ck] at hel hE
      rw [refname_eq e4 false k (by omega), Option.bind_some] at hE
      have hn := hx'.2.2.2.2.1
      have hok := hx'.2.2.2.2.2.1
      have hA : edAttr ns e1 e4 e5 = if nameB e4 false = false then some (ns, 3) else if (400 : Int) < (e5.size : Int) then some (ns, 2) else if Cl.idxOf (fun x => x.f0.toList == e4.toList) (q00 ns e1).f2 < 0 then (if (q00 ns e1).f2.length = 12 then some (ns, 2) else if (q00 ns e1).f2.length ≤ 1000000 then some (edVal (ns.set e1.toNat { q00 ns e1 with f2 := (q00 ns e1).f2 ++ [⟨e4, .empty⟩] }) e1 (q00 ns e1).f2.length e5, 0) else none) else if Cl.idxOf (fun x => x.f0.toList == e4.toList) (q00 ns e1).f2 < ((q00 ns e1).f2.length : Int) then some (edVal ns e1 (Cl.idxOf (fun x => x.f0.toList == e4.toList) (q00 ns e1).f2).toNat e5, 0) else none := by
        unfold edAttr dom_find.f
        rw [if_neg (by rw [hel]; simp), if_pos (by omega), Option.bind_some, attrName_eq e4 h4, Option.bind_some]
      rw [hA] at hP
      cases hb : nameB e4 false with
      | false =>
        rw [hb, if_pos rfl, Option.bind_some] at hP
        rw [hb, if_neg (by decide)] at hE
        exact q18 q 1 e1 e2 e3 e4 e5 e6 e7 l8 e9 e10 l11 k hP (by simp) hE
      | true =>
        rw [hb, if_neg (by decide)] at hP
        rw [hb, if_pos rfl] at hE
        have hN : q1s k ns 1 e1 e2 e3 e4 e5 e6 e7 l8 e9 = (if hasA (q00 ns e1).f2 e4 = true then some (ns.set e1.toNat { q00 ns e1 with f2 := setA e4 e5 (q00 ns e1).f2 }) else some (ns.set e1.toNat { q00 ns e1 with f2 := setA e4 e5 (q00 ns e1).f2 ++ [⟨e4, e5⟩] })).bind fun p => some (p, 0) := by
          unfold q1s edMid
          rw [if_neg (by decide), if_pos c1, edl0_all e4 e5 1 _ (by omega) k (by omega), Option.bind_some, if_pos rfl]
          simp only [if_pos, decide_true, Bool.true_and]
          congr 1
          by_cases hh : hasA (q00 ns e1).f2 e4 = true
          · rw [if_pos hh, if_pos hh]
          · rw [if_neg hh, if_neg hh, if_pos (by unfold setA; rw [List.length_map]; omega)]
        cases hh : hasA (q00 ns e1).f2 e4 with
        | true =>
          obtain ⟨j, hj, ej, hidx, ne⟩ := findA (q00 ns e1).f2 e4 hok.2 hh
          rw [hh, if_pos rfl, Option.bind_some] at hN
          rw [hidx, if_neg (show ¬ (j : Int) < 0 by omega), if_pos (show (j : Int) < ((q00 ns e1).f2.length : Int) by omega)] at hP
          have hset := setA_at e4 e5 _ j hj ej ne
          have hnode : q1x { q00 ns e1 with f2 := setA e4 e5 (q00 ns e1).f2 } = 0 ↔ e5.size ≤ 400 := by
            rw [node_attrs hx ck, attrs_set hok e4 e5 hh]
            exact ⟨fun h => h.2, fun h => ⟨by unfold setA; rw [List.length_map]; exact hn, h⟩⟩
          by_cases c4 : (400 : Int) < (e5.size : Int)
          · rw [if_pos c4, Option.bind_some] at hP
            exact q23 h q 1 e1 e2 e3 e4 e5 e6 e7 l8 e9 e10 l11 k hk (x := { q00 ns e1 with f2 := setA e4 e5 (q00 ns e1).f2 }) c1.1 c1.2 rfl rfl rfl (by unfold setA; rw [List.length_map]; omega) hP hE hN (.inr rfl) (hnode.trans ⟨fun e => by omega, fun e => by omega⟩)
          · rw [if_neg c4, Option.bind_some] at hP
            refine q23 h q 1 e1 e2 e3 e4 e5 e6 e7 l8 e9 e10 l11 k hk (x := { q00 ns e1 with f2 := setA e4 e5 (q00 ns e1).f2 }) c1.1 c1.2 rfl rfl rfl (by unfold setA; rw [List.length_map]; omega) hP hE hN (.inl ⟨rfl, ?_, rfl⟩) (hnode.trans ⟨fun _ => rfl, fun _ => by omega⟩)
            rw [hset]
            rfl
        | false =>
          rw [hh, if_neg (by decide), Option.bind_some, setA_none _ _ _ hh] at hN
          rw [missA _ _ hh, if_pos (show (-1 : Int) < 0 by decide)] at hP
          have hnode : q1x { q00 ns e1 with f2 := (q00 ns e1).f2 ++ [⟨e4, e5⟩] } = 0 ↔ ((q00 ns e1).f2.length + 1 ≤ 12 ∧ e5.size ≤ 400) := by
            rw [node_attrs hx ck, attrs_more hok e4 e5 hh, List.length_append]
            exact ⟨fun h => ⟨h.1, h.2.2⟩, fun h => ⟨h.1, hb, h.2⟩⟩
          have hle : ((q00 ns e1).f2 ++ [(⟨e4, e5⟩ : S122)]).length ≤ 300 := by rw [List.length_append]; simp only [List.length_cons, List.length_nil]; omega
          by_cases c4 : (400 : Int) < (e5.size : Int)
          · rw [if_pos c4, Option.bind_some] at hP
            exact q23 h q 1 e1 e2 e3 e4 e5 e6 e7 l8 e9 e10 l11 k hk (x := { q00 ns e1 with f2 := (q00 ns e1).f2 ++ [⟨e4, e5⟩] }) c1.1 c1.2 rfl rfl rfl hle hP hE hN (.inr rfl) (hnode.trans ⟨fun e => by omega, fun e => by omega⟩)
          · rw [if_neg c4] at hP
            by_cases c12 : (q00 ns e1).f2.length = 12
            · rw [if_pos c12, Option.bind_some] at hP
              exact q23 h q 1 e1 e2 e3 e4 e5 e6 e7 l8 e9 e10 l11 k hk (x := { q00 ns e1 with f2 := (q00 ns e1).f2 ++ [⟨e4, e5⟩] }) c1.1 c1.2 rfl rfl rfl hle hP hE hN (.inr rfl) (hnode.trans ⟨fun e => by omega, fun e => by omega⟩)
            · rw [if_neg c12, if_pos (by omega), Option.bind_some] at hP
              refine q23 h q 1 e1 e2 e3 e4 e5 e6 e7 l8 e9 e10 l11 k hk (x := { q00 ns e1 with f2 := (q00 ns e1).f2 ++ [⟨e4, e5⟩] }) c1.1 c1.2 rfl rfl rfl hle hP hE hN (.inl ⟨rfl, ?_, rfl⟩) (hnode.trans ⟨fun _ => rfl, fun _ => by omega⟩)
              exact edVal_more ns e1 c1.1 c1.2 e4 e5
    · rw [if_neg ck] at hel hE
      have hA : edAttr ns e1 e4 e5 = some (ns, 7) := by unfold edAttr; rw [hel, if_pos (by decide)]
      rw [hA, Option.bind_some] at hP
      exact q18 q 1 e1 e2 e3 e4 e5 e6 e7 l8 e9 e10 l11 k hP (by simp) hE
  · rw [if_neg (fun hh => c1 hh.1)] at hE
    have hA : edAttr ns e1 e4 e5 = some (ns, 5) := by unfold edAttr q24; rw [if_neg c1, if_pos (by decide)]
    rw [hA, Option.bind_some] at hP
    exact q18 q 1 e1 e2 e3 e4 e5 e6 e7 l8 e9 e10 l11 k hP (by simp) hE
theorem both_drop {ns : List S43} (h : DocOk ns) (q : Bool) (e1 e2 e3 : Int) (e4 e5 : ByteArray) (e6 : Int) (e7 : ByteArray) (l8 : List S122) (e9 : ByteArray) (e10 : Int) (l11 : List Int) (k : Nat) (hk : 200000 < k) : Both k ns q 2 e1 e2 e3 e4 e5 e6 e7 l8 e9 e10 l11 := by
  have hE := err_node h q 2 e1 e2 e3 e4 e5 e6 e7 l8 e9 e10 l11 k hk (by decide) (by decide)
  have hP : q1t k ns q 0 2 e1 e2 e3 e4 e5 e6 e7 l8 e9 e10 l11 = (edDrop ns e1 e4).bind fun p => some (p.1, 0, p.2) := by unfold q1t; rw [if_neg (by decide), if_pos rfl]
  by_cases c1 : 0 ≤ e1 ∧ e1 < ns.length
  · rw [if_pos ⟨c1, fun e => absurd e (by decide)⟩] at hE
    unfold edSw at hE
    rw [if_neg (by decide), if_pos rfl] at hE
    have hx := h.node e1 c1.1 c1.2
    have hx' := (q1w _).1 hx
    have hel : q24 ns e1 = if (q00 ns e1).f0 = 2 then 0 else 7 := by unfold q24; rw [if_pos c1]
    by_cases ck : (q00 ns e1).f0 = 2
    · rw [if_pos ck] at hel hE
      have hn := hx'.2.2.2.2.1
      have hok := hx'.2.2.2.2.2.1
      have hA : edDrop ns e1 e4 = if Cl.idxOf (fun x => x.f0.toList == e4.toList) (q00 ns e1).f2 < 0 then some (ns, 5) else if Cl.idxOf (fun x => x.f0.toList == e4.toList) (q00 ns e1).f2 < ((q00 ns e1).f2.length : Int) then some (ns.set e1.toNat { q00 ns e1 with f2 := (q00 ns e1).f2.eraseIdx (Cl.idxOf (fun x => x.f0.toList == e4.toList) (q00 ns e1).f2).toNat }, 0) else none := by
        unfold edDrop dom_find.f
        rw [if_neg (by rw [hel]; simp), if_pos (by omega), Option.bind_some]
      rw [hA] at hP
      cases hh : hasA (q00 ns e1).f2 e4 with
      | false =>
        rw [hh, if_neg (by decide)] at hE
        rw [missA _ _ hh, if_pos (show (-1 : Int) < 0 by decide), Option.bind_some] at hP
        exact q18 q 2 e1 e2 e3 e4 e5 e6 e7 l8 e9 e10 l11 k hP (by simp) hE
      | true =>
        rw [hh, if_pos rfl] at hE
        obtain ⟨j, hj, ej, hidx, ne⟩ := findA (q00 ns e1).f2 e4 hok.2 hh
        rw [hidx, if_neg (show ¬ (j : Int) < 0 by omega), if_pos (show (j : Int) < ((q00 ns e1).f2.length : Int) by omega), Option.bind_some] at hP
        have hdr := dropN_at e4 _ j hj ej ne
        have hN : q1s k ns 2 e1 e2 e3 e4 e5 e6 e7 l8 e9 = some (ns.set e1.toNat { q00 ns e1 with f2 := dropN e4 (q00 ns e1).f2 }, 0) := by
          unfold q1s edMid
          rw [if_neg (by decide), if_pos c1, edl0_all e4 e5 2 _ (by omega) k (by omega), Option.bind_some, if_neg (by decide), if_pos rfl, Option.bind_some]
          rfl
        have hlen : (dropN e4 (q00 ns e1).f2).length ≤ 12 := by unfold dropN; have := List.length_filter_le (fun a : S122 => !(a.f0.toList == e4.toList)) (q00 ns e1).f2; omega
        refine q23 h q 2 e1 e2 e3 e4 e5 e6 e7 l8 e9 e10 l11 k hk (x := { q00 ns e1 with f2 := dropN e4 (q00 ns e1).f2 }) c1.1 c1.2 rfl rfl rfl (by show (dropN e4 (q00 ns e1).f2).length ≤ 300; omega) hP hE hN (.inl ⟨rfl, by rw [hdr]; rfl, rfl⟩) ?_
        rw [node_attrs hx ck]
        exact ⟨fun _ => rfl, fun _ => ⟨hlen, attrs_less hok e4⟩⟩
    · rw [if_neg ck] at hel hE
      have hA : edDrop ns e1 e4 = some (ns, 7) := by unfold edDrop; rw [hel, if_pos (by decide)]
      rw [hA, Option.bind_some] at hP
      exact q18 q 2 e1 e2 e3 e4 e5 e6 e7 l8 e9 e10 l11 k hP (by simp) hE
  · rw [if_neg (fun hh => c1 hh.1)] at hE
    have hA : edDrop ns e1 e4 = some (ns, 5) := by unfold edDrop q24; rw [if_neg c1, if_pos (by decide)]
    rw [hA, Option.bind_some] at hP
    exact q18 q 2 e1 e2 e3 e4 e5 e6 e7 l8 e9 e10 l11 k hP (by simp) hE
theorem both_text {ns : List S43} (h : DocOk ns) (q : Bool) (e1 e2 e3 : Int) (e4 e5 : ByteArray) (e6 : Int) (e7 : ByteArray) (l8 : List S122) (e9 : ByteArray) (e10 : Int) (l11 : List Int) (k : Nat) (hk : 200000 < k) : Both k ns q 3 e1 e2 e3 e4 e5 e6 e7 l8 e9 e10 l11 := by
  have hE := err_node h q 3 e1 e2 e3 e4 e5 e6 e7 l8 e9 e10 l11 k hk (by decide) (by decide)
  have hP : q1t k ns q 0 3 e1 e2 e3 e4 e5 e6 e7 l8 e9 e10 l11 = some ((edText ns e1 e5).1, 0, (edText ns e1 e5).2) := by unfold q1t; rw [if_neg (by decide), if_neg (by decide), if_pos rfl]
  by_cases c1 : 0 ≤ e1 ∧ e1 < ns.length
  · rw [if_pos ⟨c1, fun e => absurd e (by decide)⟩] at hE
    unfold edSw at hE
    rw [if_neg (by decide), if_neg (by decide), if_pos rfl] at hE
    have hx := h.node e1 c1.1 c1.2
    have hs := (rd_all (P := small 200) (small_z 200) h.small e1).1
    by_cases ck : (q00 ns e1).f0 = 3 ∨ (q00 ns e1).f0 = 4
    · have hE0 : clerestoryref1_EditErr.f k ns q 3 e1 e2 e3 e4 e5 e6 e7 l8 e9 e10 l11 = some 0 := by
        rw [hE]
        by_cases c3 : (q00 ns e1).f0 = 3
        · rw [if_pos c3]
        · rw [if_neg c3, if_pos (by omega)]
      have hN : q1s k ns 3 e1 e2 e3 e4 e5 e6 e7 l8 e9 = some (ns.set e1.toNat { q00 ns e1 with f3 := e5 }, 0) := by
        unfold q1s edMid
        rw [if_neg (by decide), if_pos c1, edl0_all e4 e5 3 _ (by omega) k (by omega), Option.bind_some, if_neg (by decide), if_neg (by decide), if_pos rfl, Option.bind_some]
      have hnode := node_text hx ck e5
      have hA : edText ns e1 e5 = if 400 < e5.size then (ns, 2) else (ns.set e1.toNat { q00 ns e1 with f3 := e5 }, 0) := by unfold edText; rw [if_pos c1, if_neg (by omega)]
      rw [hA] at hP
      by_cases c4 : 400 < e5.size
      · rw [if_pos c4] at hP
        exact q23 h q 3 e1 e2 e3 e4 e5 e6 e7 l8 e9 e10 l11 k hk (x := { q00 ns e1 with f3 := e5 }) c1.1 c1.2 rfl rfl rfl (by show (q00 ns e1).f2.length ≤ 300; omega) hP hE0 hN (.inr rfl) (hnode.trans ⟨fun e => by omega, fun e => by cases e⟩)
      · rw [if_neg c4] at hP
        exact q23 h q 3 e1 e2 e3 e4 e5 e6 e7 l8 e9 e10 l11 k hk (x := { q00 ns e1 with f3 := e5 }) c1.1 c1.2 rfl rfl rfl (by show (q00 ns e1).f2.length ≤ 300; omega) hP hE0 hN (.inl ⟨rfl, rfl, rfl⟩) (hnode.trans ⟨fun _ => rfl, fun _ => by omega⟩)
    · rw [if_neg (by omega), if_neg (by omega)] at hE
      have hA : edText ns e1 e5 = (ns, 7) := by unfold edText; rw [if_pos c1, if_pos (by omega)]
      rw [hA] at hP
      exact q18 q 3 e1 e2 e3 e4 e5 e6 e7 l8 e9 e10 l11 k hP (by simp) hE
  · rw [if_neg (fun hh => c1 hh.1)] at hE
    have hA : edText ns e1 e5 = (ns, 5) := by unfold edText; rw [if_neg c1]
    rw [hA] at hP
    exact q18 q 3 e1 e2 e3 e4 e5 e6 e7 l8 e9 e10 l11 k hP (by simp) hE
theorem both_make {ns : List S43} (h : DocOk ns) (q : Bool) (e1 e2 e3 : Int) (e4 e5 : ByteArray) (e6 : Int) (e7 : ByteArray) (l8 : List S122) (e9 : ByteArray) (e10 : Int) (l11 : List Int) (k : Nat) (hk : 200000 < k) (h7 : e7.size ≤ 140737488355328) (h8 : smallA l8) (hl8 : l8.length * 32 ≤ 140737488355328) : Both k ns q 4 e1 e2 e3 e4 e5 e6 e7 l8 e9 e10 l11 := by
  have hm := h.many
  have hE : clerestoryref1_EditErr.f k ns q 4 e1 e2 e3 e4 e5 e6 e7 l8 e9 e10 l11 = if 0 < l11.length then some 3 else if e6 = 1 then some 7 else clerestoryref1_NodeErr.f k e6 e7 l8 e9 e10 l11 := by
    unfold clerestoryref1_EditErr.f
    rw [btw, Option.bind_some, if_pos (by decide), if_pos rfl]
  have hP : q1t k ns q 0 4 e1 e2 e3 e4 e5 e6 e7 l8 e9 e10 l11 = edMake k ns 0 e6 e7 l8 e9 e10 l11 := by unfold q1t; rw [if_neg (by decide), if_neg (by decide), if_neg (by decide), if_pos rfl]
  unfold edMake at hP
  by_cases c1 : 0 < l11.length
  · rw [if_pos c1] at hE hP
    exact q18 q 4 e1 e2 e3 e4 e5 e6 e7 l8 e9 e10 l11 k hP (by simp) hE
  · rw [if_neg c1] at hE hP
    by_cases c2 : e6 = 1
    · rw [if_pos c2] at hE hP
      exact q18 q 4 e1 e2 e3 e4 e5 e6 e7 l8 e9 e10 l11 k hP (by simp) hE
    · rw [if_neg c2] at hE hP
      have hne := nodeErr_eq (⟨e6, e7, l8, e9, e10, l11⟩ : S43) k (by omega)
      have hon := one_eq (⟨e6, e7, l8, e9, e10, l11⟩ : S43) h8 h7 k (by omega)
      have hne : clerestoryref1_NodeErr.f k e6 e7 l8 e9 e10 l11 = some (q1x ⟨e6, e7, l8, e9, e10, l11⟩) := hne
      have hon : dom_one.f k e6 e7 l8 e9 e10 l11 = some (q1x ⟨e6, e7, l8, e9, e10, l11⟩) := hon
      rw [hne] at hE
      rw [hon, Option.bind_some] at hP
      by_cases c3 : q1x ⟨e6, e7, l8, e9, e10, l11⟩ = 0
      · rw [c3] at hE
        rw [if_neg (by rw [c3]; decide)] at hP
        obtain rfl : l11 = [] := List.length_eq_zero_iff.1 (by omega)
        have hx : q1x ⟨e6, e7, l8, e9, -1, []⟩ = 0 := c3
        have h12 : l8.length ≤ 12 := ((q1w _).1 hx).2.2.2.2.1
        have hN : q1s k ns 4 e1 e2 e3 e4 e5 e6 e7 l8 e9 = some (ns ++ [⟨e6, e7, l8, e9, -1, []⟩], (ns.length : Int)) := by
          unfold q1s
          rw [if_pos rfl, if_pos ⟨by omega, by omega⟩]
        have hd := h.more (x := ⟨e6, e7, l8, e9, -1, []⟩) hx c2 rfl rfl
        have hsm : ∀ y ∈ ns ++ [(⟨e6, e7, l8, e9, -1, []⟩ : S43)], small 300 y := small_more (small_up (M' := 300) (by omega) h.small) ⟨by show l8.length ≤ 300; omega, Nat.zero_le _⟩
        have hlen : (ns ++ [(⟨e6, e7, l8, e9, -1, []⟩ : S43)]).length ≤ 201 := by rw [List.length_append]; simp only [List.length_cons, List.length_nil]; omega
        by_cases c4 : ns.length = 200
        · rw [if_pos c4] at hP
          exact both_made h q 4 e1 e2 e3 e4 e5 e6 e7 l8 e9 e10 [] k hk hP hE hN hsm hlen (.inr rfl) (hd.trans ⟨fun e => by omega, fun e => by cases e⟩)
        · rw [if_neg c4, if_pos ⟨by omega, hl8⟩] at hP
          exact both_made h q 4 e1 e2 e3 e4 e5 e6 e7 l8 e9 e10 [] k hk hP hE hN hsm hlen (.inl ⟨rfl, rfl, rfl⟩) (hd.trans ⟨fun _ => rfl, fun _ => by omega⟩)
      · rw [if_pos c3] at hP
        exact q18 q 4 e1 e2 e3 e4 e5 e6 e7 l8 e9 e10 l11 k hP c3 hE
end Go.Proofs.YthjnallbbhnndaaDoor.Dm
namespace Go.Proofs.YthjnallbbhnndaaDoor.Dm
open Go Go.RowKit Go.Proofs.YthjnallbbhnndaaDoor.XDe Go.Proofs.YthjnallbbhnndaaDoorW.PrintWords Go.Proofs.YthjnallbbhnndaaDoorW.PrintLast
set_option maxRecDepth 10000
theorem without_eq (l : List Int) (i : Int) (h0 : 0 ≤ i) (h1 : i < l.length) (hl : l.length ≤ 1000000) : clerestoryref1_without.f l i = some (l.eraseIdx i.toNat) := by
  have hw : wrap64 (i + 1) = i + 1 := by unfold wrap64; omega
  unfold clerestoryref1_without.f
  rw [Option.bind_some, if_pos h0, if_pos (by omega), if_pos (by rw [List.length_take]; simp only [List.length_nil]; omega), Option.bind_some, hw, if_pos (by omega), if_pos (by omega), if_pos (by rw [List.nil_append, List.length_take, List.length_drop]; omega), erase_eq, List.nil_append, show (i + 1).toNat = i.toNat + 1 by omega]
theorem DocOk.kinds {ns : List S43} (h : DocOk ns) {i : Int} (h0 : 0 ≤ i) (h1 : i < ns.length) : 1 ≤ (q00 ns i).f0 ∧ (q00 ns i).f0 ≤ 5 ∧ ((q00 ns i).f0 = 1 ↔ i = 0) := by
  have := (q1w _).1 (h.node i h0 h1)
  exact ⟨this.1, this.2.1, h.kind i h0 h1⟩
theorem wrap_sum (a b : Nat) (ha : a ≤ 1000) (hb : b ≤ 1000) : wrap64 (wrap64 ((a : Int) + 1) + (b : Int)) = (a : Int) + 1 + b := by unfold wrap64; omega
theorem both_remove {ns : List S43} (h : DocOk ns) (q : Bool) (e1 e2 e3 : Int) (e4 e5 : ByteArray) (e6 : Int) (e7 : ByteArray) (l8 : List S122) (e9 : ByteArray) (e10 : Int) (l11 : List Int) (k : Nat) (hk : 200000 < k) : Both k ns q 6 e1 e2 e3 e4 e5 e6 e7 l8 e9 e10 l11 := by
  have hm := h.many
  have hE := err_node h q 6 e1 e2 e3 e4 e5 e6 e7 l8 e9 e10 l11 k hk (by decide) (by decide)
  have hP : q1t k ns q 0 6 e1 e2 e3 e4 e5 e6 e7 l8 e9 e10 l11 = (edRemove k ns e1).bind fun p => some (p.1, 0, p.2) := by unfold q1t; rw [if_neg (by decide), if_neg (by decide), if_neg (by decide), if_neg (by decide), if_neg (by decide), if_pos rfl]
  unfold edRemove at hP
  by_cases c1 : 0 ≤ e1 ∧ e1 < ns.length
  · rw [if_pos ⟨c1, fun e => absurd e (by decide)⟩] at hE
    unfold edSw at hE
    rw [if_neg (by decide), if_neg (by decide), if_neg (by decide), if_pos rfl] at hE
    rw [if_pos c1] at hP
    have hkd := h.kinds c1.1 c1.2
    by_cases c0 : e1 = 0
    · rw [if_pos c0] at hE
      rw [if_pos (hkd.2.2.2 c0), Option.bind_some] at hP
      exact q18 q 6 e1 e2 e3 e4 e5 e6 e7 l8 e9 e10 l11 k hP (by simp) hE
    · rw [if_neg c0] at hE
      rw [if_neg (fun e => c0 (hkd.2.2.1 e))] at hP
      by_cases cp : (q00 ns e1).f4 < 0
      · rw [if_pos cp] at hE
        rw [if_pos cp, Option.bind_some] at hP
        exact q18 q 6 e1 e2 e3 e4 e5 e6 e7 l8 e9 e10 l11 k hP (by simp) hE
      · rw [if_neg cp] at hE
        rw [if_neg cp] at hP
        obtain ⟨p, hp⟩ : ∃ p, par ns e1 = p := ⟨_, rfl⟩
        have hp' : (q00 ns e1).f4 = p := hp
        rw [hp'] at cp hP
        obtain ⟨p0, p1, hin⟩ : 0 ≤ p ∧ p < ns.length ∧ e1 ∈ kidL ns p := by
          rcases h.up e1 c1.1 c1.2 with e | e
          · rw [hp] at e; omega
          · rw [hp] at e; exact e
        have hne : e1 ≠ p := fun e => by
          have := deep_kid h.tree p0 p1 hin
          rw [e] at this
          omega
        have hkl := kid_len h.tree p0 p1
        have hi := idx_lt hin
        have hkp : kindN ns p = 1 ∨ kindN ns p = 2 := node_kind (h.node p p0 p1) (fun e => by unfold kidL at hin; rw [e] at hin; cases hin)
        have hkl' : (q00 ns p).f5.length ≤ 200 := hkl
        have hi' : idx (q00 ns p).f5 e1 < (q00 ns p).f5.length := hi
        have hin' : e1 ∈ (q00 ns p).f5 := hin
        have hsp : (q00 (ns.set p.toNat { q00 ns p with f5 := (q00 ns p).f5.eraseIdx (idx (q00 ns p).f5 e1) }) e1) = q00 ns e1 := by rw [rd_setN ns p _ e1 p0 p1 c1.1, if_neg hne]
        rw [if_pos p1, index_eq _ _ (by omega) k (by omega), Option.bind_some, idxI_mem hin', if_pos ⟨by omega, by omega⟩, Option.bind_some, show ((idx (q00 ns p).f5 e1 : Nat) : Int).toNat = idx (q00 ns p).f5 e1 from rfl, hsp] at hP
        have hN : q1s k ns 6 e1 e2 e3 e4 e5 e6 e7 l8 e9 = some ((ns.set p.toNat { q00 ns p with f5 := (q00 ns p).f5.eraseIdx (idx (q00 ns p).f5 e1) }).set e1.toNat { q00 ns e1 with f4 := -1 }, 0) := by
          have hA := (rd_all (P := small 200) (small_z 200) h.small e1).1
          unfold q1s edMid
          rw [if_neg (by decide), if_pos c1, edl0_all e4 e5 6 _ (by omega) k (by omega), Option.bind_some, if_neg (by decide), if_neg (by decide), if_neg (by decide), if_neg (by decide), if_pos rfl, hp', if_pos ⟨p0, p1, fun e => hne e.symm⟩, place_eq _ _ (by omega) k (by omega), Option.bind_some, idxI_mem hin', without_eq _ _ (by omega) (by omega) (by omega), Option.bind_some, Option.bind_some]
          rfl
        have mv := moved h c1.1 c1.2 p0 p1 hne hkp (-1) ((q00 ns p).f5.eraseIdx (idx (q00 ns p).f5 e1))
        have hok := h.left c1.1 c1.2 p0 hp mv
        have s3 := small_up (M' := 300) (by omega) h.small
        have hle : ((q00 ns p).f5.eraseIdx (idx (q00 ns p).f5 e1)).length ≤ 300 := Nat.le_trans (List.eraseIdx_sublist _ _).length_le (by omega)
        have a3 := fun i : Int => rd_all (P := small 300) (small_z 300) s3 i
        refine both_made h q 6 e1 e2 e3 e4 e5 e6 e7 l8 e9 e10 l11 k hk hP hE hN (small_set (x := { q00 ns e1 with f4 := -1 }) (small_set (x := { q00 ns p with f5 := (q00 ns p).f5.eraseIdx (idx (q00 ns p).f5 e1) }) s3 _ ⟨(a3 p).1, hle⟩) _ ⟨(a3 e1).1, (a3 e1).2⟩) (by rw [List.length_set, List.length_set]; omega) (.inl ⟨rfl, rfl, rfl⟩) ⟨fun _ => rfl, fun _ => hok⟩
  · rw [if_neg (fun hh => c1 hh.1)] at hE
    rw [if_neg c1, Option.bind_some] at hP
    exact q18 q 6 e1 e2 e3 e4 e5 e6 e7 l8 e9 e10 l11 k hP (by simp) hE
theorem both_insert {ns : List S43} (h : DocOk ns) (q : Bool) (e1 e2 e3 : Int) (e4 e5 : ByteArray) (e6 : Int) (e7 : ByteArray) (l8 : List S122) (e9 : ByteArray) (e10 : Int) (l11 : List Int) (k : Nat) (hk : 200000 < k) : Both k ns q 5 e1 e2 e3 e4 e5 e6 e7 l8 e9 e10 l11 := by
  have hm := h.many
  have ht := h.tree
  have hE := err_node h q 5 e1 e2 e3 e4 e5 e6 e7 l8 e9 e10 l11 k hk (by decide) (by decide)
  have hP : q1t k ns q 0 5 e1 e2 e3 e4 e5 e6 e7 l8 e9 e10 l11 = (edInsert k ns q e1 e2 e3).bind fun p => some (p.1, 0, p.2) := by unfold q1t; rw [if_neg (by decide), if_neg (by decide), if_neg (by decide), if_neg (by decide), if_pos rfl]
  unfold edInsert at hP
  by_cases c1 : 0 ≤ e1 ∧ e1 < ns.length
  rotate_left
  · rw [if_neg (fun hh => c1 hh.1)] at hE
    rw [if_neg c1, Option.bind_some] at hP
    exact q18 q 5 e1 e2 e3 e4 e5 e6 e7 l8 e9 e10 l11 k hP (by simp) hE
  by_cases c2 : 0 ≤ e2 ∧ e2 < ns.length
  rotate_left
  · rw [if_neg (fun hh => c2 (hh.2 rfl))] at hE
    rw [if_pos c1, if_neg c2, Option.bind_some] at hP
    exact q18 q 5 e1 e2 e3 e4 e5 e6 e7 l8 e9 e10 l11 k hP (by simp) hE
  rw [if_pos ⟨c1, fun _ => c2⟩] at hE
  unfold edSw at hE
  rw [if_neg (by decide), if_neg (by decide), if_neg (by decide), if_neg (by decide), if_pos c2] at hE
  rw [if_pos c1, if_pos c2] at hP
  have k1 := h.kinds c1.1 c1.2
  have k2 := h.kinds c2.1 c2.2
  have hpb : dom_parent.f (q00 ns e1).f0 = some (decide ((q00 ns e1).f0 = 1 ∨ (q00 ns e1).f0 = 2)) := by
    unfold dom_parent.f
    by_cases c : (q00 ns e1).f0 = 1
    · rw [if_pos c, decide_eq_true (.inl c)]
    · rw [if_neg c]
      by_cases d : (q00 ns e1).f0 = 2
      · rw [d]; rfl
      · rw [beq_eq_false_iff_ne.2 d, decide_eq_false (fun hh => hh.elim c d)]
  rw [hpb, Option.bind_some] at hP
  have hbad : edKind (decide ((q00 ns e1).f0 = 1 ∨ (q00 ns e1).f0 = 2)) (q00 ns e1) (q00 ns e2) = true ↔ ((q00 ns e1).f0 > 2 ∨ e2 = 0 ∨ (e1 = 0 ∧ (q00 ns e2).f0 = 3)) := by
    unfold edKind
    simp only [Bool.or_eq_true, Bool.and_eq_true, decide_eq_true_eq, Bool.not_eq_true', decide_eq_false_iff_not]
    rw [k2.2.2, k1.2.2]
    have := k1.1
    constructor
    · rintro ((a | a) | a)
      · left; omega
      · exact .inr (.inl a)
      · exact .inr (.inr a)
    · rintro (a | a | a)
      · left; left; intro hh; rcases hh with b | b <;> omega
      · exact .inl (.inr a)
      · exact .inr a
  by_cases cb : (q00 ns e1).f0 > 2 ∨ e2 = 0 ∨ (e1 = 0 ∧ (q00 ns e2).f0 = 3)
  · rw [if_pos (hbad.2 cb), Option.bind_some] at hP
    have hE7 : clerestoryref1_EditErr.f k ns q 5 e1 e2 e3 e4 e5 e6 e7 l8 e9 e10 l11 = some 7 := by
      rw [hE]
      by_cases a : (q00 ns e1).f0 > 2
      · rw [if_pos a]
      · rw [if_neg a]
        by_cases b : e2 = 0
        · rw [if_pos b]
        · rw [if_neg b, if_pos (by rcases cb with c | c | c; exact absurd c a; exact absurd c b; exact c)]
    exact q18 q 5 e1 e2 e3 e4 e5 e6 e7 l8 e9 e10 l11 k hP (by simp) hE7
  rw [if_neg (fun hh => cb (hbad.1 hh))] at hP
  rw [if_neg (fun hh => cb (.inl hh)), if_neg (fun hh => cb (.inr (.inl hh))), if_neg (fun hh => cb (.inr (.inr hh)))] at hE
  by_cases cp : (q00 ns e2).f4 ≥ 0
  · rw [if_pos cp] at hE
    rw [if_pos cp, Option.bind_some] at hP
    exact q18 q 5 e1 e2 e3 e4 e5 e6 e7 l8 e9 e10 l11 k hP (by simp) hE
  rw [if_neg cp] at hE hP
  have hkl' : (q00 ns e1).f5.length ≤ 200 := kid_len ht c1.1 c1.2
  -- where it comes
  obtain ⟨i, hi, hi2, hip, hir⟩ : ∃ i : Int, i ≤ (q00 ns e1).f5.length ∧ (i < 0 → e3 ≠ -1) ∧ (if e3 = -1 then some ((q00 ns e1).f5.length : Int) else slices_Index_int_int.f k (q00 ns e1).f5 e3) = some i ∧ (if e3 = -1 then some ((q00 ns e1).f5.length : Int) else clerestoryref1_placeIn.f k (q00 ns e1).f5 e3) = some i := by
    by_cases c : e3 = -1
    · exact ⟨((q00 ns e1).f5.length : Int), Int.le_refl _, fun e => by omega, by rw [if_pos c], by rw [if_pos c]⟩
    · refine ⟨idxI (q00 ns e1).f5 e3, ?_, fun _ => c, by rw [if_neg c, index_eq _ _ (by omega) k (by omega)], by rw [if_neg c, place_eq _ _ (by omega) k (by omega)]⟩
      unfold idxI
      by_cases d : hasK (q00 ns e1).f5 e3 = true
      · rw [if_pos d]
        have := idx_lt ((mem_hasK _ _).1 d)
        omega
      · rw [if_neg d]; omega
  rw [hip, Option.bind_some] at hP
  by_cases ci : i < 0
  · rw [if_pos ci, Option.bind_some] at hP
    have hne := hi2 ci
    rw [if_neg hne] at hE hir
    rw [hir, Option.bind_some, if_pos ci] at hE
    exact q18 q 5 e1 e2 e3 e4 e5 e6 e7 l8 e9 e10 l11 k hP (by simp) hE
  rw [if_neg ci] at hP
  have hun := under_all ht q c1.1 c1.2 c2.1 k (by omega)
  have hbl := edBelow_rel ht c2.1 (q0n ns e1) e1 rfl c1.1 c1.2 k (by have := (ht.deep e1 c1.1 c1.2).1; omega)
  have hE2 : clerestoryref1_EditErr.f k ns q 5 e1 e2 e3 e4 e5 e6 e7 l8 e9 e10 l11 = some (if e2 ∈ relP ns (q0n ns e1) e1 then 8 else 0) := by
    rw [hE]
    have e : ((if e3 = -1 then some 0 else clerestoryref1_placeIn.f k (q00 ns e1).f5 e3).bind fun i => if i < 0 then some 5 else (clerestoryref1_Under.f k ns q e1 e2).bind fun u => some (if u = true then 8 else 0)) = (clerestoryref1_Under.f k ns q e1 e2).bind fun u => some (if u = true then (8 : Int) else 0) := by
      by_cases c : e3 = -1
      · rw [if_pos c, Option.bind_some, if_neg (by decide)]
      · rw [if_neg c]
        rw [if_neg c] at hir
        rw [hir, Option.bind_some, if_neg ci]
    rw [e, hun, Option.bind_some]
    congr 1
    by_cases c : e2 ∈ relP ns (q0n ns e1) e1
    · rw [if_pos (decide_eq_true c), if_pos c]
    · rw [if_neg (by simpa using c), if_neg c]
  rw [hbl, Option.bind_some] at hP
  by_cases cu : e2 ∈ relP ns (q0n ns e1) e1
  · rw [if_pos cu] at hE2
    rw [if_pos (decide_eq_true cu), Option.bind_some] at hP
    exact q18 q 5 e1 e2 e3 e4 e5 e6 e7 l8 e9 e10 l11 k hP (by simp) hE2
  rw [if_neg cu] at hE2
  rw [if_neg (by simpa using cu)] at hP
  have hne : e2 ≠ e1 := fun e => cu (by rw [e]; exact un_self)
  have hir2 : InR ns := fun j h0 h1 => by
    rcases h.up j h0 h1 with e | e
    · omega
    · exact e.2.1
  have hd1 := (ht.deep e1 c1.1 c1.2).1
  obtain ⟨H, hH100, hHe, hH⟩ := edDeep_eq ht 41 e2 (by omega) c2.1 c2.2 k (by omega)
  have hu := up_eq ns q (by omega) hir2 e1 c1.1 c1.2 k (by omega)
  have hu : dom_up.f k ns q e1 = some ((q0n ns e1 : Nat) : Int) := hu
  rw [hu, Option.bind_some, hHe, Option.bind_some, wrap_sum _ _ (by omega) (by omega)] at hP
  have hrd : q00 (ns.set e1.toNat { q00 ns e1 with f5 := (q00 ns e1).f5.take i.toNat ++ e2 :: (q00 ns e1).f5.drop i.toNat }) e2 = q00 ns e2 := by rw [rd_setN ns e1 _ e2 c1.1 c1.2 c2.1, if_neg hne]
  rw [hrd] at hP
  have hkp : kindN ns e1 = 1 ∨ kindN ns e1 = 2 := by
    have := k1.1
    have c : ¬ (q00 ns e1).f0 > 2 := fun hh => cb (.inl hh)
    show (q00 ns e1).f0 = 1 ∨ (q00 ns e1).f0 = 2
    omega
  have mv := moved h c2.1 c2.2 c1.1 c1.2 hne hkp e1 ((q00 ns e1).f5.take i.toNat ++ e2 :: (q00 ns e1).f5.drop i.toNat)
  have hput := h.put c1.1 c1.2 (by have : ¬ e2 = 0 := fun hh => cb (.inr (.inl hh)); omega) c2.2 (by show (q00 ns e2).f4 < 0; omega) cu (fun e e3' => cb (.inr (.inr ⟨e, e3'⟩))) i.toNat mv H hH
  have hN : q1s k ns 5 e1 e2 e3 e4 e5 e6 e7 l8 e9 = some ((ns.set e1.toNat { q00 ns e1 with f5 := (q00 ns e1).f5.take i.toNat ++ e2 :: (q00 ns e1).f5.drop i.toNat }).set e2.toNat { q00 ns e2 with f4 := e1 }, 0) := by
    have hA := (rd_all (P := small 200) (small_z 200) h.small e1).1
    unfold q1s edMid
    rw [if_neg (by decide), if_pos c1, edl0_all e4 e5 5 _ (by omega) k (by omega), Option.bind_some, if_neg (by decide), if_neg (by decide), if_neg (by decide), if_pos rfl, if_pos ⟨c2.1, c2.2, hne⟩, hir, Option.bind_some, if_pos ⟨by omega, hi, by omega⟩, Option.bind_some, List.set_comm _ _ (by omega)]
  have s3 := small_up (M' := 300) (by omega) h.small
  have a3 := fun i : Int => rd_all (P := small 300) (small_z 300) s3 i
  have hsm : ∀ y ∈ (ns.set e1.toNat { q00 ns e1 with f5 := (q00 ns e1).f5.take i.toNat ++ e2 :: (q00 ns e1).f5.drop i.toNat }).set e2.toNat { q00 ns e2 with f4 := e1 }, small 300 y :=
    small_set (x := { q00 ns e2 with f4 := e1 }) (small_set (x := { q00 ns e1 with f5 := (q00 ns e1).f5.take i.toNat ++ e2 :: (q00 ns e1).f5.drop i.toNat }) s3 _ ⟨(a3 e1).1, by show ((q00 ns e1).f5.take i.toNat ++ e2 :: (q00 ns e1).f5.drop i.toNat).length ≤ 300; rw [List.length_append, List.length_take, List.length_cons, List.length_drop]; omega⟩) _ ⟨(a3 e2).1, (a3 e2).2⟩
  have hlen : ((ns.set e1.toNat { q00 ns e1 with f5 := (q00 ns e1).f5.take i.toNat ++ e2 :: (q00 ns e1).f5.drop i.toNat }).set e2.toNat { q00 ns e2 with f4 := e1 }).length ≤ 201 := by rw [List.length_set, List.length_set]; omega
  by_cases c40 : (q0n ns e1 : Int) + 1 + H > 40
  · rw [if_pos c40, Option.bind_some] at hP
    exact both_made h q 5 e1 e2 e3 e4 e5 e6 e7 l8 e9 e10 l11 k hk hP hE2 hN hsm hlen (.inr rfl) (hput.trans ⟨fun e => by omega, fun e => by cases e⟩)
  · rw [if_neg c40, if_pos ⟨hi, by omega⟩, Option.bind_some] at hP
    exact both_made h q 5 e1 e2 e3 e4 e5 e6 e7 l8 e9 e10 l11 k hk hP hE2 hN hsm hlen (.inl ⟨rfl, rfl, rfl⟩) (hput.trans ⟨fun _ => rfl, fun _ => by omega⟩)
theorem both_all {ns : List S43} (h : DocOk ns) (q : Bool) (e0 e1 e2 e3 : Int) (e4 e5 : ByteArray) (e6 : Int) (e7 : ByteArray) (l8 : List S122) (e9 : ByteArray) (e10 : Int) (l11 : List Int) (k : Nat) (hk : 200000 < k) (h4 : e4.size ≤ 140737488355328) (h7 : e7.size ≤ 140737488355328) (h8 : smallA l8) (hl8 : l8.length * 32 ≤ 140737488355328) : Both k ns q e0 e1 e2 e3 e4 e5 e6 e7 l8 e9 e10 l11 := by
  by_cases d1 : e0 = 1
  · subst d1; exact both_attr h q e1 e2 e3 e4 e5 e6 e7 l8 e9 e10 l11 k hk h4
  by_cases d2 : e0 = 2
  · subst d2; exact both_drop h q e1 e2 e3 e4 e5 e6 e7 l8 e9 e10 l11 k hk
  by_cases d3 : e0 = 3
  · subst d3; exact both_text h q e1 e2 e3 e4 e5 e6 e7 l8 e9 e10 l11 k hk
  by_cases d4 : e0 = 4
  · subst d4; exact both_make h q e1 e2 e3 e4 e5 e6 e7 l8 e9 e10 l11 k hk h7 h8 hl8
  by_cases d5 : e0 = 5
  · subst d5; exact both_insert h q e1 e2 e3 e4 e5 e6 e7 l8 e9 e10 l11 k hk
  by_cases d6 : e0 = 6
  · subst d6; exact both_remove h q e1 e2 e3 e4 e5 e6 e7 l8 e9 e10 l11 k hk
  refine q18 q e0 e1 e2 e3 e4 e5 e6 e7 l8 e9 e10 l11 k (a := ns) (b := 0) (r := 1) ?_ (by decide) ?_
  · unfold q1t
    rw [if_neg d1, if_neg d2, if_neg d3, if_neg d4, if_neg d5, if_neg d6]
  · unfold clerestoryref1_EditErr.f
    rw [btw, Option.bind_some, if_neg (by simp; omega)]
end Go.Proofs.YthjnallbbhnndaaDoor.Dm
namespace Go.Proofs.YthjnallbbhnndaaDoor.Rd
open Go.ChangeShapes Go.WideShapes Go.ChangeAt Go.RowKit Go.Proofs.YthjnallbbhnndaaDoorW.PrintWords
def Reads {α : Type} (P : Program) (t : TypeId) (k : Kd α) (Q : α → Prop) : Prop :=
  P.cellsOf t = k.sz ∧ ∀ (H : Type) (enc : TypeId × Value → H) (w : World) (fuel : Nat) (cs : List Value) (x : DataW H × List MemPlace),
    DataW.trod enc P w 0 (fun _ => true) true fuel t cs = some x → (∀ n ∈ x.1.weights P t, n ≤ reachBytes) → ∃ a : α, k.K w a cs ∧ Q a
variable {P : Program} {t : TypeId}
theorem Reads.imp {α : Type} {k : Kd α} {Q Q' : α → Prop} (h : Reads P t k Q) (hq : ∀ a, Q a → Q' a) : Reads P t k Q' := by
  refine ⟨h.1, fun H enc w fuel cs x hx hw => ?_⟩
  obtain ⟨a, ha, hq'⟩ := h.2 H enc w fuel cs x hx hw
  exact ⟨a, ha, hq a hq'⟩
theorem reads_int {k : IntKind} (ht : P.underlying t = some (.int k)) (hc : P.cellsOf t = 1) : Reads P t (Kd.int k) (fun n => (Lit.int k n).wf = true) := by
  refine ⟨hc, fun H enc w fuel cs x hx _ => ?_⟩
  obtain ⟨n, rfl, _, hw⟩ := DataW.trod_int ht hx
  exact ⟨n, rfl, hw⟩
theorem reads_bool (ht : P.underlying t = some .bool) (hc : P.cellsOf t = 1) : Reads P t Kd.bool (fun _ => True) := by
  refine ⟨hc, fun H enc w fuel cs x hx _ => ?_⟩
  obtain ⟨b, rfl, _⟩ := DataW.trod_bool ht hx
  exact ⟨b, rfl, trivial⟩
theorem reads_string (ht : P.underlying t = some .string) (hc : P.cellsOf t = 1) : Reads P t Kd.string (fun s => s.size ≤ reachBytes) := by
  refine ⟨hc, fun H enc w fuel cs x hx hw => ?_⟩
  obtain ⟨s, rfl, rfl, _⟩ := DataW.trod_string ht hx
  exact ⟨s, rfl, by simpa [DataW.weights] using hw⟩
theorem weightsAll_mem {H : Type} {e : TypeId} : ∀ {l : List (DataW H)} {d : DataW H}, d ∈ l → ∀ n ∈ d.weights P e, n ∈ DataW.weightsAll P e l
  | a :: l, d, hd, n, hn => by
    unfold DataW.weightsAll
    rcases List.mem_cons.1 hd with rfl | h
    · exact List.mem_append_left _ hn
    · exact List.mem_append_right _ (weightsAll_mem h n hn)
theorem choose_list {α : Type} {p : Nat → α → Prop} : ∀ (n : Nat), (∀ i, i < n → ∃ a, p i a) → ∃ l : List α, l.length = n ∧ ∀ i a, l[i]? = some a → p i a
  | 0, _ => ⟨[], rfl, fun i a h => by simp at h⟩
  | n + 1, h => by
    obtain ⟨l, hl, hp⟩ := choose_list n (fun i hi => h i (by omega))
    obtain ⟨a, ha⟩ := h n (by omega)
    refine ⟨l ++ [a], by simp [hl], fun i b hb => ?_⟩
    by_cases hi : i < l.length
    · rw [List.getElem?_append_left hi] at hb
      exact hp i b hb
    · have := (List.getElem?_eq_some_iff.1 hb).1
      simp at this
      have e : i = l.length := by omega
      subst e
      simp at hb
      subst hb
      rw [hl]
      exact ha
theorem reads_slice {e : TypeId} {α : Type} {k : Kd α} {Q : α → Prop} (ht : P.underlying t = some (.slice e)) (hc : P.cellsOf t = 1) (he : Reads P e k Q) :
    Reads P t (Kd.slice e k) (fun l => l.length * P.bytesOf e ≤ reachBytes ∧ l.length ≤ 9223372036854775807 ∧ ∀ a ∈ l, Q a) := by
  refine ⟨hc, fun H enc w fuel cs x hx hw => ?_⟩
  rcases DataW.trod_slice ht hx with ⟨rfl, rfl⟩ | ⟨a, len, cap, elems, rest, n, _, rfl, rfl, _, hl, hm, hlen, hel, _, _⟩
  · exact ⟨[], ⟨none, 0, rfl, Nat.le_refl _, ⟨rfl, by simp, fun h => absurd h (by simp)⟩⟩, by simp, by simp, by simp⟩
  · have hw' : ∀ m ∈ ((elems.map (·.1)).length + (rest.map (·.1)).length) * P.bytesOf e :: (DataW.weightsAll P e (elems.map (·.1)) ++ DataW.weightsAll P e (rest.map (·.1))), m ≤ reachBytes := by
      have := hw
      unfold DataW.weights at this
      rw [ht] at this
      exact this
    have each : ∀ i, i < len → ∃ b, (∃ c, w.cells? 0 (a.add (i * P.cellsOf e)) (P.cellsOf e) = some c ∧ k.K w b c) ∧ Q b := by
      intro i hi
      have h1 := hel i hi
      have hi' : i < elems.length := by omega
      rw [List.getElem?_eq_getElem hi', Option.bind_eq_some_iff] at h1
      obtain ⟨c, hcs, hy⟩ := h1
      obtain ⟨b, hb, hq⟩ := he.2 H enc w n c _ hy (fun m hm' => hw' m (List.mem_cons_of_mem _ (List.mem_append_left _ (weightsAll_mem (List.mem_map.2 ⟨_, List.getElem_mem hi', rfl⟩) m hm'))))
      exact ⟨b, ⟨c, hcs, hb⟩, hq⟩
    obtain ⟨l, hll, hp⟩ := choose_list len each
    have hmax : len ≤ 9223372036854775807 := by unfold maxLen at hm; omega
    refine ⟨l, ⟨some a, cap, by rw [hll], by omega, ⟨rfl, by omega, fun _ => ⟨a, rfl, fun j p hj => ?_⟩⟩⟩, ?_, by omega, fun b hb => ?_⟩
    · obtain ⟨⟨c, hcs, hb⟩, _⟩ := hp j p hj
      refine ⟨c, k.K_len hb, hb, fun i u hu => ?_⟩
      obtain ⟨_, hlen', hcell⟩ := World.cells?_some hcs
      have hi := (List.getElem?_eq_some_iff.1 hu).1
      have := hcell i (by omega)
      rw [hu, Go.Deep.add_add] at this
      rw [← he.1]
      exact this
    · have := hw' _ (List.mem_cons_self ..)
      simp only [List.length_map] at this
      rw [hll, ← hlen]
      exact Nat.le_trans (Nat.mul_le_mul_right _ (Nat.le_add_right _ _)) this
    · obtain ⟨i, hi⟩ := List.getElem?_of_mem hb
      exact (hp i b hi).2
def ReadsF {α : Type} (P : Program) (fs : List Field) (off : Nat) (k : Kd α) (Q : α → Prop) : Prop :=
  ∀ (H : Type) (enc : TypeId × Value → H) (w : World) (n : Nat) (cs : List Value) (xs : List (DataW H × List MemPlace)), xs.length = fs.length →
    (∀ (i : Nat) (f : Field), fs[i]? = some f → DataW.trod enc P w 0 (fun _ => true) true n f.type ((cs.drop f.offset).take (P.cellsOf f.type)) = xs[i]?) →
    (∀ m ∈ DataW.weightsEach P (fs.map (·.type)) (xs.map (·.1)), m ≤ reachBytes) → cs.length = off + k.sz → ∃ a : α, k.K w a (cs.drop off) ∧ Q a
theorem readsF_one {f : Field} {off : Nat} {α : Type} {k : Kd α} {Q : α → Prop} (hf : f.offset = off) (h : Reads P f.type k Q) : ReadsF P [f] off k Q := by
  intro H enc w n cs xs hl hx hw hc
  obtain ⟨y, rfl⟩ : ∃ y, xs = [y] := by
    match xs, hl with
    | [y], _ => exact ⟨y, rfl⟩
  have h1 := hx 0 f rfl
  rw [hf, h.1, List.take_of_length_le (by rw [List.length_drop]; omega)] at h1
  exact h.2 H enc w n _ y h1 (fun m hm => hw m (by simp [DataW.weightsEach, hm]))
theorem readsF_cons {f : Field} {fs : List Field} {off : Nat} {α β : Type} {k1 : Kd α} {k2 : Kd β} {Q1 : α → Prop} {Q2 : β → Prop} (hf : f.offset = off) (h : Reads P f.type k1 Q1) (hr : ReadsF P fs (off + k1.sz) k2 Q2) :
    ReadsF P (f :: fs) off (Kd.pair k1 k2) (fun p => Q1 p.1 ∧ Q2 p.2) := by
  intro H enc w n cs xs hl hx hw hc
  obtain ⟨y, ys, rfl⟩ : ∃ y ys, xs = y :: ys := by
    match xs, hl with
    | y :: ys, _ => exact ⟨y, ys, rfl⟩
  have h1 := hx 0 f rfl
  rw [hf, h.1] at h1
  have hsz : (Kd.pair k1 k2).sz = k1.sz + k2.sz := rfl
  obtain ⟨a, ha, hqa⟩ := h.2 H enc w n _ y h1 (fun m hm => hw m (by simp [DataW.weightsEach, hm]))
  obtain ⟨b, hb, hqb⟩ := hr H enc w n cs ys (by simpa using hl) (fun i g hg => by simpa using hx (i + 1) g (by simpa using hg)) (fun m hm => hw m (by simp [DataW.weightsEach]; exact .inr (by simpa using hm))) (by omega)
  refine ⟨(a, b), ⟨_, _, ?_, ha, hb⟩, hqa, hqb⟩
  rw [← List.drop_drop, List.take_append_drop]
theorem reads_struct {fs : Array Field} {α : Type} {k : Kd α} {Q : α → Prop} (ht : P.underlying t = some (.struct fs)) (hc : P.cellsOf t = k.sz) (h : ReadsF P fs.toList 0 k Q) : Reads P t k Q := by
  refine ⟨hc, fun H enc w fuel cs x hx hw => ?_⟩
  obtain ⟨xs, n, _, rfl, hl, hlen, hf⟩ := DataW.trod_struct ht hx
  have := h H enc w n cs xs (by simpa using hlen) (fun i f hi => hf i f (by simpa using hi)) (fun m hm => hw m (by unfold DataW.weights; rw [ht]; exact hm)) (by omega)
  simpa using this
theorem Reads.iso {α β : Type} {k : Kd α} {Q : α → Prop} (h : Reads P t k Q) (f : β → α) (g : α → β) (hg : ∀ a, f (g a) = a) : Reads P t (Kd.iso k f) (fun b => Q (f b)) := by
  refine ⟨h.1, fun H enc w fuel cs x hx hw => ?_⟩
  obtain ⟨a, ha, hq⟩ := h.2 H enc w fuel cs x hx hw
  exact ⟨g a, by show k.K w (f (g a)) cs; rw [hg]; exact ha, by show Q (f (g a)); rw [hg]; exact hq⟩
theorem open_slice_arg {H : Type} {enc : TypeId × Value → H} {r : Reach} {b0 : Nat} {w : World} {e : TypeId} {α : Type} {k : Kd α} {Q : List α → Prop} {v : Value} {d : DataW H} {p : List MemPlace}
    (hr : Reads P t (Kd.slice e k) Q) (ht : P.underlying t = some (.slice e)) (hv : Value.okWide P w r b0 t v) (h : DataW.Trod enc P w 0 (fun _ => true) true t v d p) (hw : ∀ n ∈ d.weights P t, n ≤ reachBytes) :
    ∃ (A : Option Addr) (c : Nat) (l : List α), v = .slice A l.length c ∧ l.length ≤ c ∧ Kd.C k w A l.length l ∧ Q l := by
  obtain ⟨a0, len, cap, rfl⟩ := okWide_slice ht hv
  obtain ⟨fuel, hf⟩ := h
  obtain ⟨l, ⟨A, c, hcs, hlc, hC⟩, hq⟩ := hr.2 H enc w fuel _ _ hf hw
  simp only [Value.cells, List.cons.injEq, and_true] at hcs
  exact ⟨A, c, l, hcs, hlc, hC, hq⟩
theorem open_struct_arg {H : Type} {enc : TypeId × Value → H} {r : Reach} {b0 : Nat} {w : World} {fs : Array Field} {α : Type} {k : Kd α} {Q : α → Prop} {v : Value} {d : DataW H} {p : List MemPlace}
    (hr : Reads P t k Q) (ht : P.underlying t = some (.struct fs)) (hv : Value.okWide P w r b0 t v) (h : DataW.Trod enc P w 0 (fun _ => true) true t v d p) (hw : ∀ n ∈ d.weights P t, n ≤ reachBytes) :
    ∃ (cs : List Value) (x : α), v = .agg ⟨cs⟩ ∧ k.K w x cs ∧ Q x := by
  obtain ⟨cs, rfl, _⟩ := okWide_struct ht hv
  obtain ⟨fuel, hf⟩ := h
  obtain ⟨x, hx, hq⟩ := hr.2 H enc w fuel _ _ hf hw
  exact ⟨cs.toList, x, rfl, hx, hq⟩
theorem weights_arg {H : Type} {ts : List TypeId} {ds : List (DataW H)} (h : (DataW.weightsEach P ts ds).all (· ≤ reachBytes) = true) {j : Nat} {d : DataW H} (ht : ts[j]? = some t) (hd : ds[j]? = some d) : ∀ n ∈ d.weights P t, n ≤ reachBytes := by
  intro n hn
  have := DataW.weights_mem_each ht hd n hn
  simpa using (List.all_eq_true.1 h) n this
end Go.Proofs.YthjnallbbhnndaaDoor.Rd
