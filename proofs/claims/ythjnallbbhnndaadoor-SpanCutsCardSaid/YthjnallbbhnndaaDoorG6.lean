/- The points of a tree in their order: each node's first one, one behind each kid, one behind each byte of a text; and how the ways down to two points compare. No memory, no Go. -/
import Derived.Test.YthjnallbbhnndaaDoorG5
import Derived.Test.YthjnallbbhnndaaDoorRows
import Derived.Test.YthjnallbbhnndaaDoorChecked
import Derived.Lib.LaidIn
import Derived.Lib.LaidU8T
import Derived.Deep.DeepHandedRow
import Derived.Deep.DeepWitnessRowRef
namespace Go.Proofs.YthjnallbbhnndaaDoor.Dm
open Go Go.RowKit Go.Proofs.YthjnallbbhnndaaDoor.XSp Go.Proofs.YthjnallbbhnndaaDoorW.PrintWords Go.Proofs.YthjnallbbhnndaaDoorW.PrintLast
def cmpL : List Int → List Int → Int
  | [], [] => 0
  | [], _ :: _ => -1
  | _ :: _, [] => 1
  | x :: a, y :: b => if x < y then -1 else if y < x then 1 else cmpL a b
theorem cmpL_self : ∀ a, cmpL a a = 0
  | [] => rfl
  | x :: a => by rw [cmpL, if_neg (Int.lt_irrefl x), if_neg (Int.lt_irrefl x), cmpL_self a]
theorem cmpL_app : ∀ p a b, cmpL (p ++ a) (p ++ b) = cmpL a b
  | [], _, _ => rfl
  | x :: p, a, b => by rw [List.cons_append, List.cons_append, cmpL, if_neg (Int.lt_irrefl x), if_neg (Int.lt_irrefl x), cmpL_app p a b]
theorem cmpL_swap : ∀ a b, cmpL b a = - cmpL a b
  | [], [] => rfl
  | [], _ :: _ => rfl
  | _ :: _, [] => rfl
  | x :: a, y :: b => by
    rw [cmpL, cmpL]
    by_cases h1 : x < y
    · rw [if_neg (by omega), if_pos h1, if_pos h1]; rfl
    · by_cases h2 : y < x
      · rw [if_pos h2, if_neg h1, if_pos h2]
      · rw [if_neg h2, if_neg h1, if_neg h1, if_neg h2, cmpL_swap a b]
theorem cmpL_lt (p : List Int) {x y : Int} (a b : List Int) (h : x < y) : cmpL (p ++ x :: a) (p ++ y :: b) = -1 := by
  rw [cmpL_app, cmpL, if_pos h]
def tl (ns : List S43) (i : Int) : Nat := (q00 ns i).f3.size
def txtM (i : Int) (n : Nat) : List (Int × Int) := (List.range n).map fun j : Nat => (i, (j : Int) + 1)
def q1f (f : Int → List (Int × Int)) (i : Int) : Nat → List Int → List (Int × Int)
  | _, [] => []
  | j, c :: t => f c ++ (i, (j : Int) + 1) :: q1f f i (j + 1) t
def mkD (ns : List S43) : Nat → Int → List (Int × Int)
  | 0, _ => []
  | d + 1, i => (i, 0) :: (q1f (mkD ns d) i 0 (kidL ns i) ++ txtM i (tl ns i))
def mk (ns : List S43) (i : Int) : List (Int × Int) := mkD ns (41 - q0s ns i) i
theorem kidsM_congr {f g : Int → List (Int × Int)} (i : Int) : ∀ (l : List Int) (j : Nat), (∀ x ∈ l, f x = g x) → q1f f i j l = q1f g i j l
  | [], _, _ => rfl
  | x :: t, j, h => by rw [q1f, q1f, h x (by simp), kidsM_congr i t (j + 1) fun y hy => h y (by simp [hy])]
theorem mk_eq {ns : List S43} (h : Tree ns) {i : Int} (h0 : 0 ≤ i) (h1 : i < ns.length) : mk ns i = (i, 0) :: (q1f (mk ns) i 0 (kidL ns i) ++ txtM i (tl ns i)) := by
  have hd := (h.deep i h0 h1).1
  obtain ⟨m, hm⟩ : ∃ m, 41 - q0s ns i = m + 1 := ⟨40 - q0s ns i, by omega⟩
  have e : mk ns i = (i, 0) :: (q1f (mkD ns m) i 0 (kidL ns i) ++ txtM i (tl ns i)) := by unfold mk; rw [hm]; rfl
  rw [e]
  congr 2
  refine kidsM_congr i _ _ fun c hc => ?_
  unfold mk
  rw [q0x h h0 h1 hc, show 41 - (q0s ns i + 1) = m by omega]
def pathD (ns : List S43) : Nat → Int → List Int
  | 0, _ => []
  | d + 1, i => pathD ns d (par ns i) ++ [2 * (idx (kidL ns (par ns i)) i : Int) + 1]
def pathU (ns : List S43) (i : Int) : List Int := pathD ns (q0s ns i) i
theorem pathU_kid {ns : List S43} (h : Tree ns) {i c : Int} (h0 : 0 ≤ i) (h1 : i < ns.length) (hc : c ∈ kidL ns i) : pathU ns c = pathU ns i ++ [2 * (idx (kidL ns i) c : Int) + 1] := by
  have := (h.kid i c h0 h1 hc).2.2
  unfold pathU
  rw [q0x h h0 h1 hc, pathD, this]
def wayP (ns : List S43) (m : Int × Int) : List Int := pathU ns m.1 ++ [2 * m.2]
def Leafy (ns : List S43) : Prop := ∀ i : Int, 0 ≤ i → i < ns.length → tl ns i = 0 ∨ kidL ns i = []
theorem mem_txt {i : Int} {n : Nat} {m : Int × Int} : m ∈ txtM i n ↔ m.1 = i ∧ 0 < m.2 ∧ m.2 ≤ n := by
  unfold txtM
  rw [List.mem_map]
  constructor
  · rintro ⟨j, hj, rfl⟩
    have := List.mem_range.1 hj
    refine ⟨rfl, ?_, ?_⟩ <;> simp only <;> omega
  · rintro ⟨h1, h2, h3⟩
    exact ⟨(m.2 - 1).toNat, List.mem_range.2 (by omega), Prod.ext h1.symm (by simp only; omega)⟩
theorem mem_kidsM {f : Int → List (Int × Int)} {i : Int} {m : Int × Int} : ∀ {l : List Int} {j : Nat}, m ∈ q1f f i j l ↔ (∃ c ∈ l, m ∈ f c) ∨ m.1 = i ∧ (j : Int) < m.2 ∧ m.2 ≤ j + l.length
  | [], j => by
    simp only [q1f, List.not_mem_nil, List.length_nil, false_and, exists_false, false_or, false_iff]
    omega
  | c :: t, j => by
    rw [q1f, List.mem_append, List.mem_cons, mem_kidsM (l := t) (j := j + 1)]
    simp only [List.mem_cons, List.length_cons]
    constructor
    · rintro (h | rfl | ⟨c', hc, h⟩ | h)
      · exact .inl ⟨c, .inl rfl, h⟩
      · exact .inr ⟨rfl, by simp only; omega, by simp only; omega⟩
      · exact .inl ⟨c', .inr hc, h⟩
      · exact .inr ⟨h.1, by omega, by omega⟩
    · rintro (⟨c', rfl | hc, h⟩ | h)
      · exact .inl h
      · exact .inr (.inr (.inl ⟨c', hc, h⟩))
      · by_cases e : m.2 = (j : Int) + 1
        · exact .inr (.inl (Prod.ext h.1 e))
        · exact .inr (.inr (.inr ⟨h.1, by omega, by omega⟩))
theorem mk_mem {ns : List S43} (h : Tree ns) : ∀ (d : Nat) (i : Int), 41 - q0s ns i ≤ d → 0 ≤ i → i < ns.length → ∀ m, m ∈ mk ns i ↔ m.1 ∈ sub ns i ∧ 0 ≤ m.2 ∧ (m.2 ≤ (kidL ns m.1).length ∨ m.2 ≤ tl ns m.1)
  | 0, i, hd, h0, h1, m => by
    have := (h.deep i h0 h1).1
    omega
  | d + 1, i, hd, h0, h1, m => by
    have hdi := (h.deep i h0 h1).1
    have ih : ∀ c ∈ kidL ns i, (m ∈ mk ns c ↔ m.1 ∈ sub ns c ∧ 0 ≤ m.2 ∧ (m.2 ≤ (kidL ns m.1).length ∨ m.2 ≤ tl ns m.1)) := fun c hc => by
      obtain ⟨c0, c1, _⟩ := h.kid i c h0 h1 hc
      have := q0x h h0 h1 hc
      exact mk_mem h d c (by omega) c0 c1 m
    rw [mk_eq h h0 h1, q1h h h0 h1, List.mem_cons, List.mem_append, mem_kidsM, mem_txt, List.mem_cons, List.mem_flatMap]
    constructor
    · rintro (rfl | (⟨c, hc, hm⟩ | hm) | hm)
      · exact ⟨.inl rfl, Int.le_refl _, .inl (by simp only; omega)⟩
      · have := (ih c hc).1 hm
        exact ⟨.inr ⟨c, hc, this.1⟩, this.2⟩
      · exact ⟨.inl hm.1, by omega, .inl (by rw [hm.1]; omega)⟩
      · exact ⟨.inl hm.1, by omega, .inr (by rw [hm.1]; omega)⟩
    · rintro ⟨hm | ⟨c, hc, hm⟩, hr⟩
      · rw [hm] at hr
        by_cases e : m.2 = 0
        · exact .inl (Prod.ext hm e)
        · rcases hr.2 with hk | ht
          · exact .inr (.inl (.inr ⟨hm, by omega, by omega⟩))
          · exact .inr (.inr ⟨hm, by omega, by omega⟩)
      · exact .inr (.inl (.inl ⟨c, hc, (ih c hc).2 ⟨hm, hr⟩⟩))
theorem mem_mk {ns : List S43} (h : Tree ns) {i : Int} (h0 : 0 ≤ i) (h1 : i < ns.length) (m : Int × Int) : m ∈ mk ns i ↔ m.1 ∈ sub ns i ∧ 0 ≤ m.2 ∧ (m.2 ≤ (kidL ns m.1).length ∨ m.2 ≤ tl ns m.1) := mk_mem h _ i (Nat.le_refl _) h0 h1 m
theorem sub_way {ns : List S43} (h : Tree ns) : ∀ (d : Nat) (i : Int), 41 - q0s ns i ≤ d → 0 ≤ i → i < ns.length → ∀ x ∈ sub ns i, x = i ∨ ∃ c ∈ kidL ns i, ∃ r, x ∈ sub ns c ∧ pathU ns x = pathU ns i ++ (2 * (idx (kidL ns i) c : Int) + 1) :: r
  | 0, i, hd, h0, h1, x, hx => by
    have := (h.deep i h0 h1).1
    omega
  | d + 1, i, hd, h0, h1, x, hx => by
    have hdi := (h.deep i h0 h1).1
    rw [q1h h h0 h1] at hx
    rcases List.mem_cons.1 hx with rfl | hx
    · exact .inl rfl
    · obtain ⟨c, hc, hx⟩ := List.mem_flatMap.1 hx
      obtain ⟨c0, c1, _⟩ := h.kid i c h0 h1 hc
      have hk := q0x h h0 h1 hc
      have hp := pathU_kid h h0 h1 hc
      refine .inr ⟨c, hc, ?_⟩
      rcases sub_way h d c (by omega) c0 c1 x hx with rfl | ⟨c', hc', r, hx', hr⟩
      · exact ⟨[], hx, hp⟩
      · exact ⟨_, hx, by rw [hr, hp, List.append_assoc]; rfl⟩
theorem way_in {ns : List S43} (h : Tree ns) {i c : Int} (h0 : 0 ≤ i) (h1 : i < ns.length) (hc : c ∈ kidL ns i) {m : Int × Int} (hm : m ∈ mk ns c) : ∃ r, wayP ns m = pathU ns i ++ (2 * (idx (kidL ns i) c : Int) + 1) :: r := by
  obtain ⟨c0, c1, _⟩ := h.kid i c h0 h1 hc
  have hp := pathU_kid h h0 h1 hc
  unfold wayP
  rcases sub_way h _ c (Nat.le_refl _) c0 c1 m.1 ((mem_mk h c0 c1 m).1 hm).1 with e | ⟨c', hc', r, _, hr⟩
  · rw [e, hp, List.append_assoc]
    exact ⟨_, rfl⟩
  · rw [hr, hp, List.append_assoc, List.append_assoc]
    exact ⟨_, rfl⟩
theorem idx_at {U V : List Int} {c : Int} (hn : (U ++ c :: V).Nodup) : idx (U ++ c :: V) c = U.length :=
  idx_mid U V c fun hc => (List.nodup_append.1 hn).2.2 c hc c (by simp) rfl
theorem kids_sorted {ns : List S43} (h : Tree ns) {i : Int} (h0 : 0 ≤ i) (h1 : i < ns.length) (hs : ∀ c ∈ kidL ns i, (mk ns c).Pairwise fun a b => cmpL (wayP ns a) (wayP ns b) = -1) :
    ∀ (t U : List Int), kidL ns i = U ++ t → (q1f (mk ns) i U.length t).Pairwise (fun a b => cmpL (wayP ns a) (wayP ns b) = -1) ∧ ∀ m ∈ q1f (mk ns) i U.length t, ∃ x r, wayP ns m = pathU ns i ++ x :: r ∧ 2 * (U.length : Int) + 1 ≤ x
  | [], U, e => ⟨List.Pairwise.nil, fun m hm => absurd hm (by simp [q1f])⟩
  | c :: t, U, e => by
    have hc : c ∈ kidL ns i := by rw [e]; simp
    have hi : idx (kidL ns i) c = U.length := by
      have hn := h.once i h0 h1
      rw [e] at hn ⊢
      exact idx_at hn
    obtain ⟨ih1, ih2⟩ := kids_sorted h h0 h1 hs t (U ++ [c]) (by rw [e]; simp)
    rw [List.length_append, List.length_singleton] at ih1 ih2
    have hw : ∀ m ∈ mk ns c, ∃ r, wayP ns m = pathU ns i ++ (2 * (U.length : Int) + 1) :: r := fun m hm => by
      rw [← hi]; exact way_in h h0 h1 hc hm
    have hj : wayP ns (i, (U.length : Int) + 1) = pathU ns i ++ (2 * (U.length : Int) + 2) :: [] := by
      show pathU ns i ++ [2 * ((U.length : Int) + 1)] = _
      congr 2
    rw [q1f]
    refine ⟨List.pairwise_append.2 ⟨hs c hc, List.pairwise_cons.2 ⟨fun m hm => ?_, ih1⟩, fun a ha b hb => ?_⟩, fun m hm => ?_⟩
    · obtain ⟨x, r, hx, hl⟩ := ih2 m hm
      rw [hj, hx]
      exact cmpL_lt _ _ _ (by omega)
    · obtain ⟨r, hr⟩ := hw a ha
      rw [hr]
      rcases List.mem_cons.1 hb with rfl | hb
      · rw [hj]; exact cmpL_lt _ _ _ (by omega)
      · obtain ⟨x, r', hx, hl⟩ := ih2 b hb
        rw [hx]; exact cmpL_lt _ _ _ (by omega)
    · rcases List.mem_append.1 hm with hm | hm
      · obtain ⟨r, hr⟩ := hw m hm
        exact ⟨_, r, hr, Int.le_refl _⟩
      · rcases List.mem_cons.1 hm with rfl | hm
        · exact ⟨_, _, hj, by omega⟩
        · obtain ⟨x, r', hx, hl⟩ := ih2 m hm
          exact ⟨x, r', hx, by omega⟩
theorem txt_sorted (ns : List S43) (i : Int) (n : Nat) : (txtM i n).Pairwise fun a b => cmpL (wayP ns a) (wayP ns b) = -1 := by
  unfold txtM
  rw [List.pairwise_map]
  refine List.pairwise_lt_range.imp fun hab => ?_
  show cmpL (pathU ns i ++ [_]) (pathU ns i ++ [_]) = -1
  exact cmpL_lt _ _ _ (by simp only; omega)
theorem mk_sorted {ns : List S43} (h : Tree ns) (hL : Leafy ns) : ∀ (d : Nat) (i : Int), 41 - q0s ns i ≤ d → 0 ≤ i → i < ns.length → (mk ns i).Pairwise fun a b => cmpL (wayP ns a) (wayP ns b) = -1
  | 0, i, hd, h0, h1 => by
    have := (h.deep i h0 h1).1
    omega
  | d + 1, i, hd, h0, h1 => by
    have hdi := (h.deep i h0 h1).1
    have hs : ∀ c ∈ kidL ns i, (mk ns c).Pairwise fun a b => cmpL (wayP ns a) (wayP ns b) = -1 := fun c hc => by
      obtain ⟨c0, c1, _⟩ := h.kid i c h0 h1 hc
      have := q0x h h0 h1 hc
      exact mk_sorted h hL d c (by omega) c0 c1
    obtain ⟨k1, k2⟩ := kids_sorted h h0 h1 hs (kidL ns i) [] rfl
    have hz : wayP ns (i, 0) = pathU ns i ++ 0 :: [] := rfl
    rw [mk_eq h h0 h1]
    refine List.pairwise_cons.2 ⟨fun m hm => ?_, ?_⟩
    · rw [hz]
      rcases List.mem_append.1 hm with hm | hm
      · obtain ⟨x, r, hx, hl⟩ := k2 m hm
        rw [hx]
        simp only [List.length_nil] at hl
        exact cmpL_lt _ _ _ (by omega)
      · obtain ⟨m1, m2, m3⟩ := mem_txt.1 hm
        rw [show wayP ns m = pathU ns i ++ (2 * m.2) :: [] by unfold wayP; rw [m1]]
        exact cmpL_lt _ _ _ (by omega)
    · rcases hL i h0 h1 with e | e
      · rw [e]
        simpa [txtM] using k1
      · rw [e]
        simpa [q1f] using txt_sorted ns i _
theorem sorted_lt {ns : List S43} {L : List (Int × Int)} (hs : L.Pairwise fun a b => cmpL (wayP ns a) (wayP ns b) = -1) {a b : Int × Int} (ha : a ∈ L) (hb : b ∈ L) : L.idxOf a < L.idxOf b ↔ cmpL (wayP ns a) (wayP ns b) = -1 := by
  have ia := List.idxOf_lt_length_iff.2 ha
  have ib := List.idxOf_lt_length_iff.2 hb
  have ga : L[L.idxOf a] = a := List.getElem_idxOf ia
  have gb : L[L.idxOf b] = b := List.getElem_idxOf ib
  have hp := List.pairwise_iff_getElem.1 hs
  constructor
  · intro hlt
    have := hp _ _ ia ib hlt
    rwa [ga, gb] at this
  · intro hc
    rcases Nat.lt_trichotomy (L.idxOf a) (L.idxOf b) with hlt | he | hgt
    · exact hlt
    · have : a = b := by rw [← ga, ← gb]; congr 1
      subst this
      rw [cmpL_self] at hc
      cases hc
    · have := hp _ _ ib ia hgt
      rw [ga, gb, cmpL_swap, hc] at this
      cases this
theorem sorted_nodup {ns : List S43} {L : List (Int × Int)} (hs : L.Pairwise fun a b => cmpL (wayP ns a) (wayP ns b) = -1) : L.Nodup :=
  hs.imp fun {a b} hab e => by
    subst e
    rw [cmpL_self] at hab
    cases hab
def textL (ns : List S43) (i : Int) : List UInt8 := (q00 ns i).f3.data.toList
theorem textL_len (ns : List S43) (i : Int) : (textL ns i).length = tl ns i := rfl
section
variable {ns : List S43} (h : Tree ns) (hL : Leafy ns)
include h hL
omit hL in
theorem mk_in : ∀ (d : Nat) (i : Int), 41 - q0s ns i ≤ d → 0 ≤ i → i < ns.length → ∀ n ∈ sub ns i, ∃ P Q, mk ns i = P ++ mk ns n ++ Q
  | 0, i, hd, h0, h1, n, hn => by
    have := (h.deep i h0 h1).1
    omega
  | d + 1, i, hd, h0, h1, n, hn => by
    have hdi := (h.deep i h0 h1).1
    rw [q1h h h0 h1] at hn
    rcases List.mem_cons.1 hn with rfl | hn
    · exact ⟨[], [], by simp⟩
    · obtain ⟨c, hc, hn⟩ := List.mem_flatMap.1 hn
      obtain ⟨c0, c1, _⟩ := h.kid i c h0 h1 hc
      obtain ⟨P, Q, e⟩ := mk_in d c (by have := q0x h h0 h1 hc; omega) c0 c1 n hn
      have : ∀ (l : List Int) (j : Nat), c ∈ l → ∃ P' Q', q1f (mk ns) i j l = P' ++ mk ns c ++ Q' := by
        intro l
        induction l with
        | nil => intro j hm; simp at hm
        | cons a r ihr =>
          intro j hm
          by_cases ea : c = a
          · subst ea; exact ⟨[], (i, (j : Int) + 1) :: q1f (mk ns) i (j + 1) r, by simp [q1f]⟩
          · obtain ⟨P', Q', e'⟩ := ihr (j + 1) ((List.mem_cons.1 hm).resolve_left ea)
            exact ⟨mk ns a ++ (i, (j : Int) + 1) :: P', Q', by rw [q1f, e']; simp⟩
      obtain ⟨P', Q', e'⟩ := this (kidL ns i) 0 hc
      exact ⟨(i, 0) :: (P' ++ P), Q ++ Q' ++ txtM i (tl ns i), by rw [mk_eq h h0 h1, e', e]; simp⟩
end
def idxI (l : List Int) (x : Int) : Int := if hasK l x = true then (idx l x : Int) else -1
theorem hasK_cons (y : Int) (t : List Int) (x : Int) : hasK (y :: t) x = (decide (y = x) || hasK t x) := rfl
theorem index_l0 (o : List Int) (x : Int) (ho : o.length ≤ 4611686018427387900) (d : Nat) : ∀ (i k : Nat), i + d = o.length → d < k →
    slices_Index_int_int.l0 k o x (o.length : Int) (i : Int) = some (if hasK (o.drop i) x = true then ((i + idx (o.drop i) x : Nat) : Int) else -1) := by
  induction d with
  | zero =>
    intro i k h hk
    obtain ⟨k, rfl⟩ : ∃ z, k = z + 1 := ⟨k - 1, by omega⟩
    rw [slices_Index_int_int.l0, if_neg (by omega), List.drop_eq_nil_of_le (by omega)]
    rfl
  | succ d ih =>
    intro i k h hk
    obtain ⟨k, rfl⟩ : ∃ z, k = z + 1 := ⟨k - 1, by omega⟩
    rw [slices_Index_int_int.l0, if_pos (by omega), if_pos (by omega), if_pos (by omega), w1 i (by omega), ih (i + 1) k (by omega) (by omega), dropK o i (by omega), hasK_cons, idx]
    by_cases c : x = rd o (i : Int)
    · rw [if_pos c, decide_eq_true c.symm, Bool.true_or, if_pos rfl, if_pos c.symm]
      rfl
    · rw [if_neg c, decide_eq_false (p := rd o (i : Int) = x) (fun e => c e.symm), Bool.false_or, if_neg (c := rd o (i : Int) = x) (fun e => c e.symm)]
      split
      · congr 1
        omega
      · rfl
theorem index_eq (o : List Int) (x : Int) (ho : o.length ≤ 4611686018427387900) (k : Nat) (hk : o.length < k) : slices_Index_int_int.f k o x = some (idxI o x) := by
  unfold slices_Index_int_int.f
  have := index_l0 o x ho o.length 0 k (by omega) hk
  rw [List.drop_zero, show ((0 : Nat) : Int) = 0 from rfl, Nat.zero_add] at this
  exact this
theorem place_l0' (o : List Int) (x : Int) (ho : o.length ≤ 4611686018427387900) (d : Nat) : ∀ (i k : Nat), i + d = o.length → d < k →
    clerestoryref1_placeIn.l0 k o x (i : Int) = some (if hasK (o.drop i) x = true then ((i + idx (o.drop i) x : Nat) : Int) else -1) := by
  induction d with
  | zero =>
    intro i k h hk
    obtain ⟨k, rfl⟩ : ∃ z, k = z + 1 := ⟨k - 1, by omega⟩
    rw [clerestoryref1_placeIn.l0, if_neg (by omega), List.drop_eq_nil_of_le (by omega)]
    rfl
  | succ d ih =>
    intro i k h hk
    obtain ⟨k, rfl⟩ : ∃ z, k = z + 1 := ⟨k - 1, by omega⟩
    rw [clerestoryref1_placeIn.l0, if_pos (by omega), if_pos (by omega), w1 i (by omega), ih (i + 1) k (by omega) (by omega), dropK o i (by omega), hasK_cons, idx]
    by_cases c : rd o (i : Int) = x
    · rw [if_pos c, decide_eq_true c, Bool.true_or, if_pos rfl, if_pos c]
      rfl
    · rw [if_neg c, decide_eq_false c, Bool.false_or, if_neg c]
      split
      · congr 1
        omega
      · rfl
theorem place_eq (o : List Int) (x : Int) (ho : o.length ≤ 4611686018427387900) (k : Nat) (hk : o.length < k) : clerestoryref1_placeIn.f k o x = some (idxI o x) := by
  unfold clerestoryref1_placeIn.f
  have := place_l0' o x ho o.length 0 k (by omega) hk
  rw [List.drop_zero, show ((0 : Nat) : Int) = 0 from rfl, Nat.zero_add] at this
  exact this
theorem idxI_mem {l : List Int} {x : Int} (h : x ∈ l) : idxI l x = (idx l x : Int) := if_pos ((mem_hasK l x).2 h)
theorem idx_lt : ∀ {l : List Int} {x : Int}, x ∈ l → idx l x < l.length
  | y :: t, x, h => by
    unfold idx
    by_cases c : y = x
    · rw [if_pos c]; simp
    · rw [if_neg c]
      have := idx_lt (l := t) (x := x) (by
        rcases List.mem_cons.1 h with e | e
        · exact absurd e.symm c
        · exact e)
      simp only [List.length_cons]
      omega
theorem rd_set (l : List Int) (a m : Nat) (v : Int) (ha : a < l.length) : rd (l.set a v) (m : Int) = if m = a then v else rd l (m : Int) := by
  unfold rd
  simp only [List.getD_eq_getElem?_getD, List.getElem?_set, Int.toNat_natCast]
  by_cases h : m = a
  · subst h; simp [ha]
  · rw [if_neg (fun e => h e.symm), if_neg h]
theorem rev_l0 (l : List Int) (hl : l.length ≤ 4611686018427387900) (d : Nat) : ∀ (x : List Int) (i k : Nat), x.length = l.length → l.length - 2 * i ≤ d → 2 * i ≤ l.length + 1 → d < k → (∀ m : Nat, m < l.length → rd x (m : Int) = if m < i ∨ l.length - 1 - i < m then rd l ((l.length - 1 - m : Nat) : Int) else rd l (m : Int)) →
    ∃ r, slices_Reverse_int_int.l0 k x (i : Int) ((l.length : Int) - 1 - i) = some r ∧ r.length = l.length ∧ ∀ m : Nat, m < l.length → rd r (m : Int) = rd l ((l.length - 1 - m : Nat) : Int) := by
  induction d with
  | zero =>
    intro x i k hx hd h2 hk hI
    obtain ⟨k, rfl⟩ : ∃ z, k = z + 1 := ⟨k - 1, by omega⟩
    refine ⟨x, by rw [slices_Reverse_int_int.l0, if_neg (by omega)], hx, fun m hm => ?_⟩
    rw [hI m hm]
    split
    · rfl
    · rw [show l.length - 1 - m = m by omega]
  | succ d ih =>
    intro x i k hx hd h2 hk hI
    obtain ⟨k, rfl⟩ : ∃ z, k = z + 1 := ⟨k - 1, by omega⟩
    by_cases c : (i : Int) < (l.length : Int) - 1 - i
    · obtain ⟨j, hj⟩ : ∃ j : Nat, (l.length : Int) - 1 - i = (j : Int) := ⟨l.length - 1 - i, by omega⟩
      rw [slices_Reverse_int_int.l0, if_pos c, hj, if_pos (by omega), if_pos (by omega), if_pos (by omega), if_pos (by omega)]
      rw [w1 i (by omega), wm j (by omega), show ((i : Nat) : Int).toNat = i from rfl, show ((j : Nat) : Int).toNat = j from rfl, show (j : Int) - 1 = (l.length : Int) - 1 - ((i + 1 : Nat) : Int) by omega]
      refine ih _ (i + 1) k (by rw [List.length_set, List.length_set]; exact hx) (by omega) (by omega) (by omega) fun m hm => ?_
      have ii := hI i (by omega)
      have ij := hI j (by omega)
      rw [rd_set _ _ _ _ (by rw [List.length_set]; omega), rd_set _ _ _ _ (by omega)]
      by_cases m1 : m = j
      · rw [if_pos m1, if_pos (by omega), ii, if_neg (by omega), show l.length - 1 - m = i by omega]
      · rw [if_neg m1]
        by_cases m2 : m = i
        · rw [if_pos m2, if_pos (by omega), ij, if_neg (by omega), show l.length - 1 - m = j by omega]
        · rw [if_neg m2, hI m hm]
          by_cases m3 : m < i ∨ l.length - 1 - i < m
          · rw [if_pos m3, if_pos (by omega)]
          · rw [if_neg m3, if_neg (by omega)]
    · refine ⟨x, by rw [slices_Reverse_int_int.l0, if_neg c], hx, fun m hm => ?_⟩
      rw [hI m hm]
      split
      · rfl
      · rw [show l.length - 1 - m = m by omega]
theorem rev_eq (l : List Int) (hl : l.length ≤ 4611686018427387900) (k : Nat) (hk : l.length < k) : ∃ r, slices_Reverse_int_int.f k l = some r ∧ r.length = l.length ∧ ∀ m : Nat, m < l.length → rd r (m : Int) = rd l ((l.length - 1 - m : Nat) : Int) := by
  unfold slices_Reverse_int_int.f
  by_cases c : l.length = 0
  · obtain ⟨k, rfl⟩ : ∃ z, k = z + 1 := ⟨k - 1, by omega⟩
    refine ⟨l, ?_, rfl, fun m hm => by omega⟩
    rw [slices_Reverse_int_int.l0, wm _ (by omega), if_neg (by omega)]
  · have := rev_l0 l hl l.length l 0 k rfl (by omega) (by omega) hk (fun m hm => by rw [if_neg (by omega)])
    rw [wm _ (by omega)]
    simpa using this
theorem rd_zero (x : Int) (l : List Int) : rd (x :: l) 0 = x := rfl
theorem rd_succ (x : Int) (l : List Int) (m : Nat) : rd (x :: l) ((m + 1 : Nat) : Int) = rd l (m : Int) := by
  simp [rd, List.getD]
theorem list_ext_rd : ∀ (l m : List Int), l.length = m.length → (∀ j : Nat, j < l.length → rd l (j : Int) = rd m (j : Int)) → l = m
  | [], [], _, _ => rfl
  | [], _ :: _, h, _ => by simp at h
  | _ :: _, [], h, _ => by simp at h
  | x :: l, y :: m, h, hj => by
    have h0 := hj 0 (by simp)
    rw [show ((0 : Nat) : Int) = 0 from rfl, rd_zero, rd_zero] at h0
    rw [h0, list_ext_rd l m (by simpa using h) fun j hjl => by
      have := hj (j + 1) (by simp only [List.length_cons]; omega)
      rwa [rd_succ, rd_succ] at this]
theorem rev_list (l : List Int) (hl : l.length ≤ 4611686018427387900) (k : Nat) (hk : l.length < k) : slices_Reverse_int_int.f k l = some l.reverse := by
  obtain ⟨r, h1, h2, h3⟩ := rev_eq l hl k hk
  rw [h1]
  congr 1
  refine list_ext_rd _ _ (by rw [h2, List.length_reverse]) fun j hj => ?_
  rw [h3 j (by omega)]
  simp only [rd, List.getD_eq_getElem?_getD, Int.toNat_natCast]
  rw [List.getElem?_reverse (by omega)]
theorem cmp_eq (a b : Int) : cmp_Compare_int.f a b = some (if a < b then -1 else if b < a then 1 else 0) := by
  unfold cmp_Compare_int.f cmp_isNaN_int.f
  rw [Option.bind_some, Option.bind_some, bne_self_eq_false, bne_self_eq_false, if_neg Bool.false_ne_true, if_neg Bool.false_ne_true]
  by_cases h1 : a < b
  · rw [if_pos h1, if_pos h1]
  · rw [if_neg h1, if_neg h1]
    by_cases h2 : b < a
    · rw [if_pos h2, if_pos h2]
    · rw [if_neg h2, if_neg h2]
theorem compare_l0 (x y : List Int) (hx : x.length ≤ 4611686018427387900) (d : Nat) : ∀ (i k : Nat), i + d = x.length → d < k → i ≤ y.length → cmpL (x.take i) (y.take i) = 0 →
    slices_Compare_int_int.l0 k x y x (x.length : Int) (i : Int) = some (cmpL (x.drop i) (y.drop i)) := by
  induction d with
  | zero =>
    intro i k h hk hi _
    obtain ⟨k, rfl⟩ : ∃ z, k = z + 1 := ⟨k - 1, by omega⟩
    rw [slices_Compare_int_int.l0, if_neg (by omega), List.drop_eq_nil_of_le (show x.length ≤ i by omega)]
    by_cases c : x.length < y.length
    · rw [if_pos (by omega), dropK y i (by omega)]
      rfl
    · rw [if_neg (by omega), List.drop_eq_nil_of_le (by omega)]
      rfl
  | succ d ih =>
    intro i k h hk hi h0
    obtain ⟨k, rfl⟩ : ∃ z, k = z + 1 := ⟨k - 1, by omega⟩
    rw [slices_Compare_int_int.l0, if_pos (by omega), if_pos (by omega), if_pos (by omega), dropK x i (by omega)]
    by_cases c : i < y.length
    · rw [if_neg (by omega), if_pos (by omega), cmp_eq, Option.bind_some, dropK y i c, cmpL]
      by_cases h1 : rd x (i : Int) < rd y (i : Int)
      · rw [if_pos h1, if_neg (by decide), if_pos h1]
      · rw [if_neg h1, if_neg h1]
        by_cases h2 : rd y (i : Int) < rd x (i : Int)
        · rw [if_pos h2, if_neg (by decide), if_pos h2]
        · rw [if_neg h2, if_pos rfl, if_neg h2, w1 i (by omega)]
          refine ih (i + 1) k (by omega) (by omega) (by omega) ?_
          rw [takeK x i (by omega), takeK y i c, show rd x (i : Int) = rd y (i : Int) by omega]
          have : x.take i = y.take i := by
            have hl : (x.take i).length = (y.take i).length := by rw [List.length_take, List.length_take]; omega
            generalize x.take i = u at h0 hl ⊢
            generalize y.take i = v at h0 hl ⊢
            clear ih hx h hk hi c h1 h2
            induction u generalizing v with
            | nil => cases v with
              | nil => rfl
              | cons b v => simp at hl
            | cons a u ihu => cases v with
              | nil => simp at hl
              | cons b v =>
                rw [cmpL] at h0
                by_cases e1 : a < b
                · rw [if_pos e1] at h0; cases h0
                · rw [if_neg e1] at h0
                  by_cases e2 : b < a
                  · rw [if_pos e2] at h0; cases h0
                  · rw [if_neg e2] at h0
                    rw [show a = b by omega, ihu v h0 (by simpa using hl)]
          rw [this]
          exact cmpL_self _
    · have hn : y.drop i = [] := List.drop_eq_nil_of_le (by omega)
      rw [if_pos (by omega), hn]
      rfl
theorem compare_eq (x y : List Int) (hx : x.length ≤ 4611686018427387900) (k : Nat) (hk : x.length < k) : slices_Compare_int_int.f k x y = some (cmpL x y) := by
  have := compare_l0 x y hx x.length 0 k (by omega) hk (by omega) rfl
  simpa [slices_Compare_int_int.f] using this
section
variable {ns : List S43} (h : Tree ns)
include h
theorem self_in {i : Int} (h0 : 0 ≤ i) (h1 : i < ns.length) : i ∈ sub ns i := by rw [q1h h h0 h1]; simp
theorem sub_step : ∀ (D : Nat) (t : Int), 41 - q0s ns t ≤ D → 0 ≤ t → t < ns.length → ∀ p c, p ∈ sub ns t → c ∈ kidL ns p → c ∈ sub ns t
  | 0, t, hD, h0, h1, p, c, hp, hc => by
    have := (h.deep t h0 h1).1
    omega
  | D + 1, t, hD, h0, h1, p, c, hp, hc => by
    have hdt := (h.deep t h0 h1).1
    rw [q1h h h0 h1] at hp ⊢
    rcases List.mem_cons.1 hp with rfl | hp
    · obtain ⟨c0, c1, _⟩ := h.kid p c h0 h1 hc
      exact List.mem_cons_of_mem _ (List.mem_flatMap.2 ⟨c, hc, self_in h c0 c1⟩)
    · obtain ⟨u, hu, hp⟩ := List.mem_flatMap.1 hp
      obtain ⟨u0, u1, _⟩ := h.kid t u h0 h1 hu
      have := q0x h h0 h1 hu
      exact List.mem_cons_of_mem _ (List.mem_flatMap.2 ⟨u, hu, sub_step D u (by omega) u0 u1 p c hp hc⟩)
theorem sub_upw : ∀ (D : Nat) (t : Int), 41 - q0s ns t ≤ D → 0 ≤ t → t < ns.length → ∀ c, c ∈ sub ns t → c ≠ t → par ns c ∈ sub ns t ∧ 0 ≤ par ns c
  | 0, t, hD, h0, h1, c, hc, hne => by
    have := (h.deep t h0 h1).1
    omega
  | D + 1, t, hD, h0, h1, c, hc, hne => by
    have hdt := (h.deep t h0 h1).1
    rw [q1h h h0 h1] at hc ⊢
    rcases List.mem_cons.1 hc with rfl | hc
    · exact absurd rfl hne
    · obtain ⟨u, hu, hc⟩ := List.mem_flatMap.1 hc
      obtain ⟨u0, u1, up⟩ := h.kid t u h0 h1 hu
      have := q0x h h0 h1 hu
      by_cases e : c = u
      · subst e
        rw [up]
        exact ⟨List.mem_cons_self, h0⟩
      · have := sub_upw D u (by omega) u0 u1 c hc e
        exact ⟨List.mem_cons_of_mem _ (List.mem_flatMap.2 ⟨u, hu, this.1⟩), this.2⟩
theorem sub_par {t c : Int} (h0 : 0 ≤ t) (h1 : t < ns.length) (c0 : 0 ≤ c) (c1 : c < ns.length) (hne : c ≠ t) : c ∈ sub ns t ↔ 0 ≤ par ns c ∧ par ns c ∈ sub ns t := by
  constructor
  · intro hc
    have := sub_upw h _ t (Nat.le_refl _) h0 h1 c hc hne
    exact ⟨this.2, this.1⟩
  · rintro ⟨hp, hc⟩
    rcases h.up c c0 c1 with hr | ⟨_, _, hx⟩
    · omega
    · exact sub_step h _ t (Nat.le_refl _) h0 h1 _ _ hc hx
theorem under_l0s (q : Bool) {t : Int} (h0 : 0 ≤ t) (h1 : t < ns.length) : ∀ (d : Nat) (x : Int), q0s ns x = d → 0 ≤ x → x < ns.length → ∀ k, d + 1 < k → clerestoryref1_Under.l0 k x t ns q = some (decide (x ∈ sub ns t))
  | d, x, hd, x0, x1, k, hk => by
    obtain ⟨k, rfl⟩ : ∃ z, k = z + 1 := ⟨k - 1, by omega⟩
    rw [clerestoryref1_Under.l0]
    by_cases c0 : x = t
    · subst c0
      rw [if_pos rfl, decide_eq_true (self_in h x0 x1), beq_self_eq_true]
    · rw [if_neg c0, if_pos x0, if_pos x0, if_pos x1, decide_eq_decide.2 (sub_par h h0 h1 x0 x1 c0)]
      show clerestoryref1_Under.l0 k (par ns x) t ns q = _
      by_cases c : par ns x < 0
      · have hd0 := deep_root h c
        obtain ⟨k, rfl⟩ : ∃ z, k = z + 1 := ⟨k - 1, by omega⟩
        rw [clerestoryref1_Under.l0, if_neg (by omega), if_neg (by omega), decide_eq_false (by omega)]
        congr 1
        exact beq_eq_false_iff_ne.2 (by omega)
      · rcases h.up x x0 x1 with hr | ⟨p0, p1, hx⟩
        · omega
        have hu := deep_up h x0 x1 p0
        obtain ⟨d', rfl⟩ : ∃ d', d = d' + 1 := ⟨d - 1, by omega⟩
        have e : decide (0 ≤ par ns x ∧ par ns x ∈ sub ns t) = decide (par ns x ∈ sub ns t) := decide_eq_decide.2 ⟨fun e => e.2, fun e => ⟨p0, e⟩⟩
        rw [under_l0s q h0 h1 d' (par ns x) (by omega) p0 p1 k (by omega), e]
theorem under_sub (q : Bool) {t x : Int} (h0 : 0 ≤ t) (h1 : t < ns.length) (x0 : 0 ≤ x) (x1 : x < ns.length) (k : Nat) (hk : 50 < k) : clerestoryref1_Under.f k ns q x t = some (decide (x ∈ sub ns t)) := by
  have hd := (h.deep x x0 x1).1
  exact under_l0s h q h0 h1 _ x rfl x0 x1 k (by omega)
theorem within_l0s (q : Bool) {t : Int} (h0 : 0 ≤ t) (h1 : t < ns.length) : ∀ (d : Nat) (x : Int), q0s ns x = d → 0 ≤ x → x < ns.length → ∀ k, d + 1 < k → span_ranger_within.l0 k x t ns q = some (decide (x ∈ sub ns t))
  | d, x, hd, x0, x1, k, hk => by
    obtain ⟨k, rfl⟩ : ∃ z, k = z + 1 := ⟨k - 1, by omega⟩
    rw [span_ranger_within.l0, if_pos x0]
    by_cases c0 : x = t
    · subst c0
      rw [if_pos rfl, decide_eq_true (self_in h x0 x1), beq_self_eq_true]
    · rw [if_neg c0, if_pos x0, if_pos x1, decide_eq_decide.2 (sub_par h h0 h1 x0 x1 c0)]
      show span_ranger_within.l0 k (par ns x) t ns q = _
      by_cases c : par ns x < 0
      · have hd0 := deep_root h c
        obtain ⟨k, rfl⟩ : ∃ z, k = z + 1 := ⟨k - 1, by omega⟩
        rw [span_ranger_within.l0, if_neg (by omega), decide_eq_false (by omega)]
        congr 1
        exact beq_eq_false_iff_ne.2 (by omega)
      · rcases h.up x x0 x1 with hr | ⟨p0, p1, hx⟩
        · omega
        have hu := deep_up h x0 x1 p0
        obtain ⟨d', rfl⟩ : ∃ d', d = d' + 1 := ⟨d - 1, by omega⟩
        have e : decide (0 ≤ par ns x ∧ par ns x ∈ sub ns t) = decide (par ns x ∈ sub ns t) := decide_eq_decide.2 ⟨fun e => e.2, fun e => ⟨p0, e⟩⟩
        rw [within_l0s q h0 h1 d' (par ns x) (by omega) p0 p1 k (by omega), e]
theorem within_sub (q : Bool) {t x : Int} (h0 : 0 ≤ t) (h1 : t < ns.length) (x0 : 0 ≤ x) (x1 : x < ns.length) (k : Nat) (hk : 50 < k) : span_ranger_within.f k ns q x t = some (decide (x ∈ sub ns t)) := by
  have hd := (h.deep x x0 x1).1
  exact within_l0s h q h0 h1 _ x rfl x0 x1 k (by omega)
omit h in
theorem pathD_len : ∀ (d : Nat) (i : Int), (pathD ns d i).length = d
  | 0, _ => rfl
  | d + 1, i => by rw [pathD, List.length_append, pathD_len d]; rfl
theorem kids_few {i : Int} (h0 : 0 ≤ i) (h1 : i < ns.length) : (kidL ns i).length ≤ ns.length := few_of ns.length (kidL ns i) (h.once i h0 h1) fun x hx => ⟨(h.kid i x h0 h1 hx).1, (h.kid i x h0 h1 hx).2.1⟩
set_option maxRecDepth 10000 in
theorem path_l0s (q : Bool) : ∀ (d : Nat) (x : Int), q0s ns x = d → 0 ≤ x → x < ns.length → ∀ (o : List Int) (k : Nat), o.length + d ≤ 100 → d + 400 < k → span_ranger_path.l0 k o x ns q = some (if x ∈ sub ns 0 then pathU ns x ++ o.reverse else [])
  | d, x, hd, h0, h1, o, k, ho, hk => by
    obtain ⟨k, rfl⟩ : ∃ z, k = z + 1 := ⟨k - 1, by omega⟩
    have hz1 : (0 : Int) < ns.length := by have := h.some_; omega
    rw [span_ranger_path.l0]
    by_cases c : x > 0
    · rw [if_pos c, if_pos h0, if_pos h1]
      show (if par ns x < 0 then some [] else if 0 ≤ par ns x then (if par ns x < (ns.length : Int) then ((slices_Index_int_int.f k (kidL ns (par ns x)) x).bind fun t => if o.length < 17592186044416 then span_ranger_path.l0 k (o ++ [wrap64 (wrap64 (2 * t) + 1)]) (par ns x) ns q else none) else none) else none) = _
      have hs := sub_par h (t := 0) (by omega) hz1 h0 h1 (by omega)
      by_cases cp : par ns x < 0
      · rw [if_pos cp, if_neg (fun e => by have := (hs.1 e).1; omega)]
      · rcases h.up x h0 h1 with hr | ⟨p0, p1, hx⟩
        · omega
        have hl := kids_few h p0 p1
        have hm := h.many
        have hi := idx_lt hx
        rw [if_neg cp, if_pos p0, if_pos p1, index_eq _ _ (by omega) k (by omega), Option.bind_some, idxI_mem hx, if_pos (by omega)]
        have hu := deep_up h h0 h1 p0
        obtain ⟨d', rfl⟩ : ∃ d', d = d' + 1 := ⟨d - 1, by omega⟩
        rw [path_l0s q d' (par ns x) (by omega) p0 p1 _ k (by rw [List.length_append]; simp only [List.length_cons, List.length_nil]; omega) (by omega)]
        rw [show wrap64 (wrap64 (2 * (idx (kidL ns (par ns x)) x : Int)) + 1) = 2 * (idx (kidL ns (par ns x)) x : Int) + 1 by
          rw [show wrap64 (2 * (idx (kidL ns (par ns x)) x : Int)) = 2 * (idx (kidL ns (par ns x)) x : Int) by unfold wrap64; omega]
          unfold wrap64
          omega]
        congr 1
        by_cases cs : par ns x ∈ sub ns 0
        · rw [if_pos cs, if_pos (hs.2 ⟨p0, cs⟩), pathU_kid h p0 p1 hx]
          simp
        · rw [if_neg cs, if_neg (fun e => cs (hs.1 e).2)]
    · obtain rfl : x = 0 := by omega
      have hd0 := deep_root h (i := 0) (by rw [h.root]; decide)
      rw [if_neg c, rev_list o (by omega) k (by omega), Option.bind_some, if_pos (self_in h (by omega) hz1)]
      unfold pathU
      rw [hd0]
      rfl
theorem path_eqs (q : Bool) {x a : Int} (h0 : 0 ≤ x) (h1 : x < ns.length) (ha : 0 ≤ a ∧ a ≤ 100000) (k : Nat) (hk : 500 < k) : span_ranger_path.f k ns q x a = some (if x ∈ sub ns 0 then wayP ns (x, a) else []) := by
  have hd := (h.deep x h0 h1).1
  unfold span_ranger_path.f
  rw [path_l0s h q _ x rfl h0 h1 _ k (by simp only [List.length_cons, List.length_nil]; omega) (by omega), show wrap64 (2 * a) = 2 * a by unfold wrap64; omega]
  rfl
omit h in
theorem wayP_len {x a : Int} : (wayP ns (x, a)).length = q0s ns x + 1 := by
  unfold wayP pathU
  rw [List.length_append, pathD_len]
  rfl
theorem order_eqs (q : Bool) {x a y b : Int} (h0 : 0 ≤ x) (h1 : x < ns.length) (ha : 0 ≤ a ∧ a ≤ 100000) (hx : x ∈ sub ns 0) (y0 : 0 ≤ y) (y1 : y < ns.length) (hb : 0 ≤ b ∧ b ≤ 100000) (hy : y ∈ sub ns 0) (k : Nat) (hk : 500 < k) : span_ranger_order.f k ns q x a y b = some (cmpL (wayP ns (x, a)) (wayP ns (y, b))) := by
  have hd := (h.deep x h0 h1).1
  unfold span_ranger_order.f
  by_cases c : x = y
  · subst c
    rw [if_pos rfl, cmp_eq, Option.bind_some]
    unfold wayP
    rw [cmpL_app, cmpL]
    show some (if a < b then -1 else if b < a then 1 else 0) = some (if 2 * a < 2 * b then -1 else if 2 * b < 2 * a then 1 else 0)
    congr 1
    by_cases e1 : a < b
    · rw [if_pos e1, if_pos (by omega)]
    · rw [if_neg e1, if_neg (show ¬ 2 * a < 2 * b by omega)]
      by_cases e2 : b < a
      · rw [if_pos e2, if_pos (by omega)]
      · rw [if_neg e2, if_neg (by omega)]
  · have hw := wayP_len (ns := ns) (x := x) (a := a)
    rw [if_neg c, path_eqs h q h0 h1 ha k hk, Option.bind_some, path_eqs h q y0 y1 hb k hk, Option.bind_some, if_pos hx, if_pos hy, compare_eq _ _ (by omega) k (by omega), Option.bind_some]
end
theorem nodeE_leaf {x : S43} (h : nodeE x = 0) : x.f3.size ≤ 400 ∧ ((x.f0 = 3 ∨ x.f0 = 4) ∧ x.f5 = [] ∨ (x.f0 ≠ 3 ∧ x.f0 ≠ 4) ∧ x.f3.size = 0) := by
  unfold nodeE at h
  by_cases c : x.f0 < 1 ∨ 5 < x.f0 ∨ bareB x = false
  · rw [if_pos c] at h; cases h
  · rw [if_neg c] at h
    by_cases c2 : x.f0 = 2 ∧ nameB x.f1 true = false
    · rw [if_pos c2] at h; cases h
    · rw [if_neg c2] at h
      by_cases c3 : 12 < x.f2.length
      · rw [if_pos c3] at h; cases h
      · rw [if_neg c3] at h
        by_cases c4 : errA x.f2 x.f2.length 0 ≠ 0
        · rw [if_pos c4] at h; exact absurd h c4
        · rw [if_neg c4] at h
          by_cases c5 : 400 < x.f3.size ∨ 400 < x.f1.size
          · rw [if_pos c5] at h; cases h
          · refine ⟨by omega, ?_⟩
            have hb : bareB x = true := by
              cases hb : bareB x
              · exact absurd (.inr (.inr hb)) c
              · rfl
            unfold bareB at hb
            rw [Bool.and_eq_true, Bool.and_eq_true, Bool.and_eq_true] at hb
            have h3 := hb.2.2.1
            have h4 := hb.2.2.2
            rw [Bool.or_eq_true, Bool.or_eq_true, decide_eq_true_eq, decide_eq_true_eq, decide_eq_true_eq] at h3 h4
            by_cases k : x.f0 = 3 ∨ x.f0 = 4
            · exact .inl ⟨k, List.eq_nil_of_length_eq_zero (h4.resolve_left (by omega))⟩
            · have ht := h3.resolve_left k
              rw [Lib.toList_data] at ht
              exact .inr ⟨⟨fun e => k (.inl e), fun e => k (.inr e)⟩, by
                have hd : x.f3.data = #[] := by simpa using congrArg List.toArray ht
                show x.f3.data.size = 0
                rw [hd]
                rfl⟩
def roomN (ns : List S43) (n : Int) : Int := if kindN ns n = 3 ∨ kindN ns n = 4 then (tl ns n : Int) else ((kidL ns n).length : Int)
section
variable {ns : List S43} (hD : DocOk ns)
include hD
theorem leaf_at {i : Int} (h0 : 0 ≤ i) (h1 : i < ns.length) : tl ns i ≤ 400 ∧ ((kindN ns i = 3 ∨ kindN ns i = 4) ∧ kidL ns i = [] ∨ (kindN ns i ≠ 3 ∧ kindN ns i ≠ 4) ∧ tl ns i = 0) := nodeE_leaf (hD.node i h0 h1)
theorem leafy_of : Leafy ns := fun i h0 h1 => by
  rcases (leaf_at hD h0 h1).2 with h | h
  · exact .inr h.2
  · exact .inl h.2
theorem room_pt {n a : Int} (h0 : 0 ≤ n) (h1 : n < ns.length) : 0 ≤ a ∧ a ≤ roomN ns n ↔ 0 ≤ a ∧ (a ≤ (kidL ns n).length ∨ a ≤ tl ns n) := by
  unfold roomN
  rcases (leaf_at hD h0 h1).2 with h | h
  · rw [if_pos h.1, h.2]
    simp only [List.length_nil]
    omega
  · rw [if_neg (by omega), h.2]
    omega
theorem room_small {n : Int} (h0 : 0 ≤ n) (h1 : n < ns.length) : roomN ns n ≤ 400 := by
  have := kids_few hD.tree h0 h1
  have := hD.many
  have := (leaf_at hD h0 h1).1
  unfold roomN
  split <;> omega
theorem mk_room (m : Int × Int) : m ∈ mk ns 0 ↔ m.1 ∈ sub ns 0 ∧ 0 ≤ m.2 ∧ m.2 ≤ roomN ns m.1 := by
  have hz : (0 : Int) < ns.length := by have := hD.some_; omega
  rw [mem_mk hD.tree (Int.le_refl 0) hz]
  constructor
  · rintro ⟨a, b⟩
    obtain ⟨x0, x1, _⟩ := q0r hD.tree (Int.le_refl 0) hz a
    exact ⟨a, (room_pt hD x0 x1).2 b⟩
  · rintro ⟨a, b⟩
    obtain ⟨x0, x1, _⟩ := q0r hD.tree (Int.le_refl 0) hz a
    exact ⟨a, (room_pt hD x0 x1).1 b⟩
end
theorem room_eq (ns : List S43) (q : Bool) {n : Int} (h0 : 0 ≤ n) (h1 : n < ns.length) : span_ranger_room.f ns q n = some (roomN ns n) := by
  unfold span_ranger_room.f roomN
  rw [if_pos h0, if_pos h1]
  show (if kindN ns n = 3 then some (tl ns n : Int) else if kindN ns n = 4 then some (tl ns n : Int) else some ((kidL ns n).length : Int)) = _
  by_cases c3 : kindN ns n = 3
  · rw [if_pos c3, if_pos (.inl c3)]
  · rw [if_neg c3]
    by_cases c4 : kindN ns n = 4
    · rw [if_pos c4, if_pos (.inr c4)]
    · rw [if_neg c4, if_neg (by omega)]
def ptI (ns : List S43) (n a : Int) : Int := if n < 0 ∨ (ns.length : Int) ≤ n ∨ a < 0 ∨ roomN ns n < a then 1 else if n ∈ sub ns 0 then 0 else 5
theorem q15 {ns : List S43} {n a : Int} (h : ptI ns n a = 0) : 0 ≤ n ∧ n < ns.length ∧ 0 ≤ a ∧ a ≤ roomN ns n ∧ n ∈ sub ns 0 := by
  unfold ptI at h
  by_cases c : n < 0 ∨ (ns.length : Int) ≤ n ∨ a < 0 ∨ roomN ns n < a
  · rw [if_pos c] at h; cases h
  · rw [if_neg c] at h
    by_cases c2 : n ∈ sub ns 0
    · exact ⟨by omega, by omega, by omega, by omega, c2⟩
    · rw [if_neg c2] at h; cases h
section
variable {ns : List S43} (hD : DocOk ns) (q : Bool)
include hD
theorem point_j0 {n a : Int} (h0 : 0 ≤ n) (h1 : n < ns.length) (ha : 0 ≤ a ∧ a ≤ roomN ns n) (k : Nat) (hk : 501 < k) : span_ranger_point.j0 k false ns q n a = some (if n ∈ sub ns 0 then 0 else 5) := by
  obtain ⟨k, rfl⟩ : ∃ z, k = z + 1 := ⟨k - 1, by omega⟩
  have hr := room_small hD h0 h1
  rw [span_ranger_point.j0, if_neg Bool.false_ne_true, path_eqs hD.tree q h0 h1 ⟨ha.1, by omega⟩ k (by omega), Option.bind_some]
  by_cases c : n ∈ sub ns 0
  · have hw := wayP_len (ns := ns) (x := n) (a := a)
    rw [if_pos c, if_pos c, if_neg (by omega)]
  · rw [if_neg c, if_neg c]
    rfl
theorem point_eqs (n a : Int) (k : Nat) (hk : 501 < k) : span_ranger_point.f k ns q n a = some (ptI ns n a) := by
  have hj : ∀ k, 0 < k → span_ranger_point.j0 k true ns q n a = some 1 := fun k hk => by
    obtain ⟨k, rfl⟩ : ∃ z, k = z + 1 := ⟨k - 1, by omega⟩
    rw [span_ranger_point.j0, if_pos rfl]
  unfold span_ranger_point.f ptI
  by_cases c1 : n < 0
  · rw [if_pos c1, hj k (by omega), if_pos (.inl c1)]
  · rw [if_neg c1]
    by_cases c2 : n ≥ (ns.length : Int)
    · rw [if_pos c2, hj k (by omega), if_pos (.inr (.inl c2))]
    · rw [if_neg c2]
      by_cases c3 : a < 0
      · rw [if_pos c3, hj k (by omega), if_pos (.inr (.inr (.inl c3)))]
      · rw [if_neg c3, room_eq ns q (by omega) (by omega), Option.bind_some]
        by_cases c4 : roomN ns n < a
        · rw [decide_eq_true (show a > roomN ns n from c4), hj k (by omega), if_pos (.inr (.inr (.inr c4)))]
        · rw [decide_eq_false (show ¬ a > roomN ns n from c4), point_j0 hD q (by omega) (by omega) ⟨by omega, by omega⟩ k hk, if_neg (show ¬ (n < 0 ∨ (ns.length : Int) ≤ n ∨ a < 0 ∨ roomN ns n < a) by omega)]
omit hD in
theorem between_eq (a b c : Int) : clerestoryref1_between.f a b c = some (decide (b ≤ a ∧ a ≤ c)) := by
  unfold clerestoryref1_between.f
  by_cases h : a ≥ b
  · rw [if_pos h]
    congr 1
    exact decide_eq_decide.2 ⟨fun e => ⟨h, e⟩, fun e => e.2⟩
  · rw [if_neg h, decide_eq_false (fun e => h e.1)]
theorem pointErr_j1 {n a x : Int} (h0 : 0 ≤ n) (h1 : n < ns.length) (k : Nat) (hk : 52 < k) : clerestoryref1_PointErr.j1 k x ns q n a = some (if 0 ≤ a ∧ a ≤ x then (if n ∈ sub ns 0 then 0 else 5) else 1) := by
  obtain ⟨k, rfl⟩ : ∃ z, k = z + 1 := ⟨k - 1, by omega⟩
  have hz : (0 : Int) < ns.length := by have := hD.some_; omega
  rw [clerestoryref1_PointErr.j1, between_eq, Option.bind_some]
  by_cases c : 0 ≤ a ∧ a ≤ x
  · rw [decide_eq_true c, if_pos rfl, if_pos c, under_sub hD.tree q (Int.le_refl 0) hz h0 h1 k (by omega), Option.bind_some]
    by_cases c2 : n ∈ sub ns 0
    · rw [decide_eq_true c2, if_pos rfl, if_pos c2]
    · rw [decide_eq_false c2, if_neg Bool.false_ne_true, if_neg c2]
  · rw [decide_eq_false c, if_neg Bool.false_ne_true, if_neg c]
theorem pointErr_eq (n a : Int) (k : Nat) (hk : 60 < k) : clerestoryref1_PointErr.f k ns q n a = some (ptI ns n a) := by
  have hm := hD.many
  have hs := hD.some_
  unfold clerestoryref1_PointErr.f ptI
  rw [show wrap64 ((ns.length : Int) - 1) = (ns.length : Int) - 1 by unfold wrap64; omega, between_eq, Option.bind_some]
  by_cases c : 0 ≤ n ∧ n ≤ (ns.length : Int) - 1
  · obtain ⟨k, rfl⟩ : ∃ z, k = z + 1 := ⟨k - 1, by omega⟩
    have fin : ∀ x : Int, x = roomN ns n → clerestoryref1_PointErr.j1 k x ns q n a = some (if n < 0 ∨ (ns.length : Int) ≤ n ∨ a < 0 ∨ roomN ns n < a then 1 else if n ∈ sub ns 0 then 0 else 5) := fun x hx => by
      subst hx
      rw [pointErr_j1 hD q (by omega) (by omega) k (by omega)]
      by_cases e : 0 ≤ a ∧ a ≤ roomN ns n
      · rw [if_pos e, if_neg (show ¬ (n < 0 ∨ (ns.length : Int) ≤ n ∨ a < 0 ∨ roomN ns n < a) by omega)]
      · rw [if_neg e, if_pos (show (n < 0 ∨ (ns.length : Int) ≤ n ∨ a < 0 ∨ roomN ns n < a) by omega)]
    rw [decide_eq_true c, if_pos rfl, if_pos c.1, if_pos (by omega)]
    show (if kindN ns n = 3 then clerestoryref1_PointErr.j0 (k + 1) ((kidL ns n).length : Int) true ns q n a _ _ _ (q00 ns n).f3 _ _ else clerestoryref1_PointErr.j0 (k + 1) ((kidL ns n).length : Int) (kindN ns n == 4) ns q n a _ _ _ (q00 ns n).f3 _ _) = _
    by_cases c3 : kindN ns n = 3
    · rw [if_pos c3, clerestoryref1_PointErr.j0, if_pos rfl]
      exact fin _ (by unfold roomN; rw [if_pos (.inl c3)]; rfl)
    · rw [if_neg c3]
      by_cases c4 : kindN ns n = 4
      · rw [beq_iff_eq.2 c4, clerestoryref1_PointErr.j0, if_pos rfl]
        exact fin _ (by unfold roomN; rw [if_pos (.inr c4)]; rfl)
      · rw [beq_eq_false_iff_ne.2 c4, clerestoryref1_PointErr.j0, if_neg Bool.false_ne_true]
        exact fin _ (by unfold roomN; rw [if_neg (by omega)])
  · rw [decide_eq_false c, if_neg Bool.false_ne_true, if_pos (by omega)]
def asP (m : Int × Int) : S50 := ⟨m.1, m.2⟩
theorem mk_few : ∀ (d : Nat) (i : Int), 41 - q0s ns i ≤ d → 0 ≤ i → i < ns.length → (mk ns i).length ≤ 700 * (sub ns i).length
  | 0, i, hd, h0, h1 => by
    have := (hD.deep i h0 h1).1
    omega
  | d + 1, i, hd, h0, h1 => by
    have hdi := (hD.deep i h0 h1).1
    have hk := kids_few hD.tree h0 h1
    have hm := hD.many
    have ht := (leaf_at hD h0 h1).1
    have step : ∀ (l : List Int) (j : Nat), (∀ c ∈ l, c ∈ kidL ns i) → (q1f (mk ns) i j l).length ≤ l.length + 700 * (l.flatMap (sub ns)).length := by
      intro l
      induction l with
      | nil => intro j _; simp [q1f]
      | cons c t ih =>
        intro j hc
        have h1' := ih (j + 1) fun c hc' => hc c (by simp [hc'])
        obtain ⟨c0, c1, _⟩ := hD.kid i c h0 h1 (hc c (by simp))
        have := mk_few d c (by have := q0x hD.tree h0 h1 (hc c (by simp)); omega) c0 c1
        rw [q1f, List.length_append, List.length_cons, List.flatMap_cons, List.length_append, List.length_cons]
        omega
    have := step (kidL ns i) 0 fun c hc => hc
    rw [mk_eq hD.tree h0 h1, q1h hD.tree h0 h1, List.length_cons, List.length_append, List.length_cons]
    unfold txtM
    rw [List.length_map, List.length_range]
    omega
omit hD in
theorem marks_l1 (i : Int) (y0 : Int) (y1 : ByteArray) (y2 : List S122) (y3 : ByteArray) (y4 : Int) (y5 : List Int) (h5 : y0 ≠ 5 ∨ y3.size = 0) (hs : y3.size ≤ 400) (d : Nat) : ∀ (j k : Nat) (o : List S50), j + d = y3.size → d < k → o.length + d ≤ 1000000 →
    clerestoryref1_marks.l1 k i o ((j : Int) + 1) y0 y1 y2 y3 y4 y5 = some (o ++ (List.range d).map fun t => asP (i, ((j + t : Nat) : Int) + 1)) := by
  induction d with
  | zero =>
    intro j k o h hk ho
    obtain ⟨k, rfl⟩ : ∃ z, k = z + 1 := ⟨k - 1, by omega⟩
    rw [clerestoryref1_marks.l1, if_neg (by omega)]
    simp
  | succ d ih =>
    intro j k o h hk ho
    obtain ⟨k, rfl⟩ : ∃ z, k = z + 1 := ⟨k - 1, by omega⟩
    rw [clerestoryref1_marks.l1, if_pos (by omega), if_neg (h5.resolve_right (by omega)), if_pos (by omega), show wrap64 ((j : Int) + 1 + 1) = ((j + 1 : Nat) : Int) + 1 by unfold wrap64; omega, ih (j + 1) k _ (by omega) (by omega) (by rw [List.length_append]; simp only [List.length_cons, List.length_nil]; omega), List.append_assoc, List.range_succ_eq_map, List.map_cons, List.map_map]
    congr 2
    show [_] ++ _ = _ :: _
    rw [List.singleton_append]
    congr 1
    refine List.map_congr_left fun t _ => ?_
    show asP (i, _) = asP (i, _)
    congr 2
    simp only [Nat.succ_eq_add_one]
    omega
theorem marks_l0 {i : Int} (h0 : 0 ≤ i) (h1 : i < ns.length) (B : Nat) (H : ∀ c ∈ kidL ns i, ∀ k, B < k → clerestoryref1_marks.f k ns q c = some ((mk ns c).map asP)) (d : Nat) : ∀ (j k : Nat) (o : List S50), j + d = (kidL ns i).length → B + 402 + d < k → o.length + (q1f (mk ns) i j ((kidL ns i).drop j)).length + tl ns i ≤ 1000000 →
    clerestoryref1_marks.l0 k i o (j : Int) ns q (q00 ns i).f0 (q00 ns i).f1 (q00 ns i).f2 (q00 ns i).f3 (q00 ns i).f4 (kidL ns i) = some (o ++ (q1f (mk ns) i j ((kidL ns i).drop j) ++ txtM i (tl ns i)).map asP) := by
  have ht := (leaf_at hD h0 h1).1
  induction d with
  | zero =>
    intro j k o h hk ho
    obtain ⟨k, rfl⟩ : ∃ z, k = z + 1 := ⟨k - 1, by omega⟩
    have hn : (kidL ns i).drop j = [] := List.drop_eq_nil_of_le (by omega)
    rw [hn] at ho ⊢
    simp only [q1f, List.length_nil] at ho
    rw [clerestoryref1_marks.l0, if_neg (by omega)]
    have := marks_l1 i (q00 ns i).f0 (q00 ns i).f1 (q00 ns i).f2 (q00 ns i).f3 (q00 ns i).f4 (kidL ns i)
      (by
        rcases (leaf_at hD h0 h1).2 with e | e
        · exact .inl (by rcases e.1 with e | e <;> (unfold kindN at e; omega))
        · exact .inr e.2) ht (tl ns i) 0 k o (by unfold tl; omega) (by omega) (by omega)
    rw [show ((0 : Nat) : Int) + 1 = 1 from rfl] at this
    rw [this]
    simp only [q1f, List.nil_append, txtM, List.map_map]
    congr 2
    refine List.map_congr_left fun t _ => ?_
    show asP (i, _) = asP (i, _)
    rw [Nat.zero_add]
  | succ d ih =>
    intro j k o h hk ho
    obtain ⟨k, rfl⟩ : ∃ z, k = z + 1 := ⟨k - 1, by omega⟩
    have hj : j < (kidL ns i).length := by omega
    have hm : rd (kidL ns i) (j : Int) ∈ kidL ns i := by
      have := dropK (kidL ns i) j hj
      exact List.mem_of_mem_drop (i := j) (by rw [this]; simp)
    have hk2 := kids_few hD.tree h0 h1
    have hm2 := hD.many
    rw [dropK _ _ hj] at ho ⊢
    rw [q1f, List.length_append, List.length_cons] at ho
    rw [clerestoryref1_marks.l0, if_pos (by omega), if_pos (by omega), H _ hm k (by omega), Option.bind_some, List.length_map, if_pos (by omega), Option.bind_some, List.length_append, List.length_map, if_pos (by omega), w1 j (by omega)]
    rw [ih (j + 1) k _ (by omega) (by omega) (by rw [List.length_append, List.length_append, List.length_map]; simp only [List.length_cons, List.length_nil]; omega)]
    congr 1
    rw [q1f, show (⟨i, ((j + 1 : Nat) : Int)⟩ : S50) = asP (i, (j : Int) + 1) by unfold asP; congr 1]
    simp [List.append_assoc]
set_option maxRecDepth 10000 in
theorem marks_eq : ∀ (d : Nat) (i : Int), 41 - q0s ns i ≤ d → 0 ≤ i → i < ns.length → ∀ k, 700 * d < k → clerestoryref1_marks.f k ns q i = some ((mk ns i).map asP)
  | 0, i, hd, h0, h1, k, hk => by
    have := (hD.deep i h0 h1).1
    omega
  | d + 1, i, hd, h0, h1, k, hk => by
    have hdi := (hD.deep i h0 h1).1
    obtain ⟨k, rfl⟩ : ∃ z, k = z + 1 := ⟨k - 1, by omega⟩
    have hk2 := kids_few hD.tree h0 h1
    have hm2 := hD.many
    have hf := mk_few hD _ i (Nat.le_refl _) h0 h1
    have hsf := sub_few hD.tree h0 h1
    have hme := mk_eq hD.tree h0 h1
    have hle : (mk ns i).length = (q1f (mk ns) i 0 (kidL ns i) ++ txtM i (tl ns i)).length + 1 := by rw [hme]; rfl
    have htl : (txtM i (tl ns i)).length = tl ns i := by unfold txtM; rw [List.length_map, List.length_range]
    rw [List.length_append, htl] at hle
    rw [clerestoryref1_marks.f, if_pos h0, if_pos h1]
    have := marks_l0 hD q h0 h1 (700 * d) (fun c hc k hk => marks_eq d c (by have := q0x hD.tree h0 h1 hc; omega) (hD.kid i c h0 h1 hc).1 (hD.kid i c h0 h1 hc).2.1 k hk) (kidL ns i).length 0 k [asP (i, 0)] (by omega) (by omega) (by rw [List.drop_zero]; simp only [List.length_cons, List.length_nil]; omega)
    rw [List.drop_zero] at this
    refine Eq.trans this ?_
    rw [hme]
    rfl
theorem marks_all (k : Nat) (hk : 28700 < k) : clerestoryref1_marks.f k ns q 0 = some ((mk ns 0).map asP) := by
  have hz : (0 : Int) < ns.length := by have := hD.some_; omega
  exact marks_eq hD q 41 0 (by omega) (Int.le_refl 0) hz k (by omega)
omit hD in
theorem markOf_l0 (L : List (Int × Int)) (n a : Int) (hl : L.length ≤ 1000000) (d : Nat) : ∀ (i k : Nat), i + d = L.length → d < k → (∀ m ∈ L.take i, m ≠ (n, a)) →
    clerestoryref1_markOf.l0 k (L.map asP) (i : Int) n a = some (if (n, a) ∈ L then (L.idxOf (n, a) : Int) else -1) := by
  induction d with
  | zero =>
    intro i k h hk hn
    obtain ⟨k, rfl⟩ : ∃ z, k = z + 1 := ⟨k - 1, by omega⟩
    rw [clerestoryref1_markOf.l0, if_neg (by rw [List.length_map]; omega), if_neg]
    intro hm
    rw [List.take_of_length_le (by omega)] at hn
    exact hn _ hm rfl
  | succ d ih =>
    intro i k h hk hn
    obtain ⟨k, rfl⟩ : ∃ z, k = z + 1 := ⟨k - 1, by omega⟩
    have hlt : i < L.length := by omega
    have hr : q11 (L.map asP) (i : Int) = asP L[i] := by
      unfold q11
      rw [List.getD_eq_getElem?_getD, Int.toNat_natCast, List.getElem?_map, List.getElem?_eq_getElem hlt]
      rfl
    rw [clerestoryref1_markOf.l0, if_pos (by rw [List.length_map]; omega), if_pos (by omega), hr, w1 i (by omega)]
    by_cases c : L[i] = (n, a)
    · rw [if_pos (by rw [c]; simp [asP]), if_pos (c ▸ List.getElem_mem hlt)]
      congr 2
      have hsplit : L = L.take i ++ L.drop i := (List.take_append_drop i L).symm
      have hno : (n, a) ∉ L.take i := fun hm => hn _ hm rfl
      rw [hsplit, List.idxOf_append, if_neg hno, List.drop_eq_getElem_cons hlt, List.idxOf_cons, c]
      simp only [BEq.rfl, cond_true, List.length_take]
      omega
    · rw [if_neg (by
        intro e
        rw [Bool.and_eq_true, beq_iff_eq, beq_iff_eq] at e
        exact c (Prod.ext e.1 e.2))]
      refine ih (i + 1) k (by omega) (by omega) fun m hm => ?_
      rw [List.take_add_one, List.getElem?_eq_getElem hlt] at hm
      rcases List.mem_append.1 hm with hm | hm
      · exact hn m hm
      · simp only [Option.toList_some, List.mem_singleton] at hm
        exact hm ▸ c
def mkI (ns : List S43) (n a : Int) : Int := if (n, a) ∈ mk ns 0 then ((mk ns 0).idxOf (n, a) : Int) else -1
theorem mk_many : (mk ns 0).length ≤ 140000 := by
  have hz : (0 : Int) < ns.length := by have := hD.some_; omega
  have h1 := mk_few hD _ 0 (Nat.le_refl _) (Int.le_refl 0) hz
  have h2 := sub_few hD.tree (Int.le_refl 0) hz
  have h3 := hD.many
  omega
theorem markOf_eq (n a : Int) (k : Nat) (hk : 200000 < k) : clerestoryref1_markOf.f k ns q n a = some (mkI ns n a) := by
  have hm := mk_many hD
  unfold clerestoryref1_markOf.f
  rw [marks_all hD q k (by omega), Option.bind_some]
  exact markOf_l0 _ n a (by omega) _ 0 k (Nat.zero_add _) (by omega) fun m hm => by simp at hm
theorem mkI_lt {n a m b : Int} (hn : ptI ns n a = 0) (hm : ptI ns m b = 0) : mkI ns n a < mkI ns m b ↔ cmpL (wayP ns (n, a)) (wayP ns (m, b)) = -1 := by
  have hz : (0 : Int) < ns.length := by have := hD.some_; omega
  obtain ⟨_, _, a0, a1, an⟩ := q15 hn
  obtain ⟨_, _, b0, b1, bn⟩ := q15 hm
  have ha := (mk_room hD (n, a)).2 ⟨an, a0, a1⟩
  have hb := (mk_room hD (m, b)).2 ⟨bn, b0, b1⟩
  unfold mkI
  rw [if_pos ha, if_pos hb, ← sorted_lt (mk_sorted hD.tree (leafy_of hD) _ 0 (Nat.le_refl _) (Int.le_refl 0) hz) ha hb]
  omega
theorem ptL_two {n a m b : Int} (k : Nat) (hk : 600 < k) : ptL k ns q [⟨n, a⟩, ⟨m, b⟩] 0 = some (if ptI ns n a ≠ 0 then ptI ns n a else ptI ns m b) := by
  obtain ⟨k, rfl⟩ : ∃ z, k = z + 3 := ⟨k - 3, by omega⟩
  have hl : (([⟨n, a⟩, ⟨m, b⟩] : List S50).length : Int) = 2 := rfl
  have e0 : q11 [⟨n, a⟩, ⟨m, b⟩] 0 = ⟨n, a⟩ := rfl
  have e1 : q11 [⟨n, a⟩, ⟨m, b⟩] 1 = ⟨m, b⟩ := rfl
  have w0 : wrap64 (0 + 1) = 1 := by unfold wrap64; omega
  have w2 : wrap64 (1 + 1) = 2 := by unfold wrap64; omega
  rw [ptL, hl, if_pos (by decide), if_pos (by decide), e0, w0, point_eqs hD q n a _ (by omega), Option.bind_some]
  by_cases c : ptI ns n a ≠ 0
  · rw [if_pos c, if_pos c]
  · rw [if_neg c, if_neg c, ptL, hl, if_pos (by decide), if_pos (by decide), e1, w2, point_eqs hD q m b _ (by omega), Option.bind_some]
    by_cases c2 : ptI ns m b ≠ 0
    · rw [if_pos c2]
    · rw [if_neg c2, ptL, hl, if_neg (by decide)]
      congr 1
      omega
end
def twoE (ns : List S43) (n a m b : Int) : Int := if docE ns ≠ 0 then docE ns else if ptI ns n a ≠ 0 then ptI ns n a else ptI ns m b
def spanE (ns : List S43) (n a m b : Int) : Int := if twoE ns n a m b ≠ 0 then twoE ns n a m b else if cmpL (wayP ns (n, a)) (wayP ns (m, b)) = 1 then 9 else 0
theorem q1x {ns : List S43} {n a m b : Int} (h : twoE ns n a m b = 0) : DocOk ns ∧ ptI ns n a = 0 ∧ ptI ns m b = 0 := by
  unfold twoE at h
  by_cases c : docE ns ≠ 0
  · rw [if_pos c] at h; exact absurd h c
  · rw [if_neg c] at h
    by_cases c2 : ptI ns n a ≠ 0
    · rw [if_pos c2] at h; exact absurd h c2
    · rw [if_neg c2] at h
      exact ⟨(docE_iff ns).1 (Classical.not_not.1 c), Classical.not_not.1 c2, h⟩
theorem ptE_eq (ns : List S43) (q : Bool) (n a m b : Int) (k : Nat) (hk : 600 < k) (hc : dom_Check.f k ns q = some (docE ns)) : ptE k ns q [⟨n, a⟩, ⟨m, b⟩] = some (twoE ns n a m b) := by
  unfold ptE twoE
  rw [hc, Option.bind_some]
  by_cases c : docE ns ≠ 0
  · rw [if_pos c, if_pos c]
  · rw [if_neg c, if_neg c, ptL_two ((docE_iff ns).1 (Classical.not_not.1 c)) q k hk]
theorem cmpL_val : ∀ a b : List Int, cmpL a b = -1 ∨ cmpL a b = 0 ∨ cmpL a b = 1
  | [], [] => .inr (.inl rfl)
  | [], _ :: _ => .inl rfl
  | _ :: _, [] => .inr (.inr rfl)
  | x :: a, y :: b => by
    rw [cmpL]
    by_cases c : x < y
    · rw [if_pos c]; exact .inl rfl
    · rw [if_neg c]
      by_cases c2 : y < x
      · rw [if_pos c2]; exact .inr (.inr rfl)
      · rw [if_neg c2]; exact cmpL_val a b
theorem order_two {ns : List S43} (q : Bool) {n a m b : Int} (h : twoE ns n a m b = 0) (k : Nat) (hk : 600 < k) : span_ranger_order.f k ns q n a m b = some (cmpL (wayP ns (n, a)) (wayP ns (m, b))) := by
  obtain ⟨hD, h1, h2⟩ := q1x h
  obtain ⟨n0, n1, a0, a1, an⟩ := q15 h1
  obtain ⟨m0, m1, b0, b1, bm⟩ := q15 h2
  have r1 := room_small hD n0 n1
  have r2 := room_small hD m0 m1
  exact order_eqs hD.tree q n0 n1 ⟨a0, by omega⟩ an m0 m1 ⟨b0, by omega⟩ bm k (by omega)
theorem spE_eq (ns : List S43) (q : Bool) (n a m b : Int) (k : Nat) (hk : 600 < k) (hc : dom_Check.f k ns q = some (docE ns)) : spE k ns q n a m b = some (spanE ns n a m b) := by
  unfold spE spanE
  rw [ptE_eq ns q n a m b k hk hc, Option.bind_some]
  by_cases c : twoE ns n a m b ≠ 0
  · rw [if_pos c, if_pos c]
  · rw [if_neg c, if_neg c, order_two q (Classical.not_not.1 c) k hk, Option.bind_some]
    rcases cmpL_val (wayP ns (n, a)) (wayP ns (m, b)) with e | e | e <;> rw [e] <;> rfl
theorem spanErr_eq (ns : List S43) (q : Bool) (n a m b : Int) (k : Nat) (hk : 200010 < k) (hc : clerestoryref1_DocErr.f k ns q = some (docE ns)) : clerestoryref1_SpanErr.f k ns q n a m b = some (spanE ns n a m b) := by
  obtain ⟨k, rfl⟩ : ∃ z, k = z + 2 := ⟨k - 2, by omega⟩
  unfold clerestoryref1_SpanErr.f spanE twoE
  rw [hc, Option.bind_some]
  by_cases c : docE ns = 0
  · have hD := (docE_iff ns).1 c
    rw [if_pos c, pointErr_eq hD q n a _ (by omega), Option.bind_some, clerestoryref1_SpanErr.j0]
    simp only [c, ne_eq, not_true_eq_false, if_false]
    by_cases c1 : ptI ns n a = 0
    · rw [if_pos c1, pointErr_eq hD q m b _ (by omega), Option.bind_some, clerestoryref1_SpanErr.j1]
      simp only [c1, not_true_eq_false, if_false]
      by_cases c2 : ptI ns m b = 0
      · rw [if_pos c2, markOf_eq hD q m b _ (by omega), Option.bind_some, markOf_eq hD q n a _ (by omega), Option.bind_some]
        simp only [c2, not_true_eq_false, if_false]
        have hl := mkI_lt hD c2 c1
        by_cases c3 : mkI ns m b < mkI ns n a
        · have := hl.1 c3
          rw [if_pos c3, if_pos (by rw [cmpL_swap, this]; rfl)]
        · rw [if_neg c3, if_neg]
          intro e
          exact c3 (hl.2 (by rw [cmpL_swap, e]))
      · simp only [c2, not_false_eq_true, if_true, if_false]
    · rw [if_neg c1, clerestoryref1_SpanErr.j1, if_neg c1]
      simp only [c1, not_false_eq_true, if_true]
  · rw [if_neg c, clerestoryref1_SpanErr.j0, if_neg c, clerestoryref1_SpanErr.j1, if_neg c]
    simp only [c, ne_eq, not_false_eq_true, if_true]
theorem extract_list (b : ByteArray) (i j : Nat) : (b.extract i j).data.toList = (b.data.toList.drop i).take (j - i) := by
  rw [ByteArray.data_extract, Array.toList_extract]
theorem range_cmp {ns : List S43} {f fa t ta : Int} (h : spanE ns f fa t ta = 0) : twoE ns f fa t ta = 0 ∧ cmpL (wayP ns (f, fa)) (wayP ns (t, ta)) ≠ 1 := by
  unfold spanE at h
  by_cases c : twoE ns f fa t ta ≠ 0
  · rw [if_pos c] at h; exact absurd h c
  · rw [if_neg c] at h
    by_cases c2 : cmpL (wayP ns (f, fa)) (wayP ns (t, ta)) = 1
    · rw [if_pos c2] at h; cases h
    · exact ⟨Classical.not_not.1 c, c2⟩
section
variable {ns : List S43} (hD : DocOk ns)
include hD
theorem mk0_nodup : (mk ns 0).Nodup := by
  have hz : (0 : Int) < ns.length := by have := hD.some_; omega
  exact sorted_nodup (mk_sorted hD.tree (leafy_of hD) _ 0 (Nat.le_refl _) (Int.le_refl 0) hz)
theorem block {n : Int} (hn : n ∈ sub ns 0) (hk : kidL ns n = []) : ∃ s : Nat, s + tl ns n < (mk ns 0).length ∧ ∀ j : Nat, j ≤ tl ns n → (mk ns 0)[s + j]? = some (n, (j : Int)) := by
  have hz : (0 : Int) < ns.length := by have := hD.some_; omega
  obtain ⟨x0, x1, _⟩ := q0r hD.tree (Int.le_refl 0) hz hn
  obtain ⟨P, Q, e⟩ := mk_in hD.tree _ 0 (Nat.le_refl _) (Int.le_refl 0) hz n hn
  have hm := mk_eq hD.tree x0 x1
  rw [hk] at hm
  simp only [q1f, List.nil_append] at hm
  have hlen : (mk ns n).length = tl ns n + 1 := by
    rw [hm, List.length_cons]
    unfold txtM
    rw [List.length_map, List.length_range]
  refine ⟨P.length, by rw [e, List.length_append, List.length_append, hlen]; omega, fun j hj => ?_⟩
  rw [e, List.append_assoc, List.getElem?_append_right (by omega), show P.length + j - P.length = j by omega, List.getElem?_append_left (by omega), hm]
  cases j with
  | zero => rfl
  | succ j =>
    rw [List.getElem?_cons_succ]
    unfold txtM
    rw [List.getElem?_map, List.getElem?_range (by omega)]
    rfl
variable (q : Bool)
end
def editT (c : Int) (t : ByteArray) : S87 := ⟨3, c, 0, 0, ⟨#[]⟩, t, ⟨0, ⟨#[]⟩, [], ⟨#[]⟩, 0, []⟩⟩
def editR (c : Int) : S87 := ⟨6, c, 0, 0, ⟨#[]⟩, ⟨#[]⟩, ⟨0, ⟨#[]⟩, [], ⟨#[]⟩, 0, []⟩⟩
def texty (ns : List S43) (c : Int) : Prop := kindN ns c = 3 ∨ kindN ns c = 4
instance (ns : List S43) (c : Int) : Decidable (texty ns c) := by unfold texty; infer_instance
section
variable (ns : List S43) (f fa t ta : Int)
def leftB (c : Int) : ByteArray := (q00 ns c).f3.extract 0 (if f = c then fa.toNat else 0) ++ (q00 ns c).f3.extract (if t = c then ta.toNat else tl ns c) (tl ns c)
def touch (c : Int) : Prop := f ∈ sub ns c ∨ t ∈ sub ns c
instance (c : Int) : Decidable (touch ns f t c) := by unfold touch; infer_instance
def inB (n : Int) (i : Nat) : Prop := cmpL (wayP ns (f, fa)) (wayP ns (n, (i : Int))) ≤ 0 ∧ cmpL (wayP ns (n, (i : Int) + 1)) (wayP ns (t, ta)) ≤ 0
instance (n : Int) (i : Nat) : Decidable (inB ns f fa t ta n i) := by unfold inB; infer_instance
def cutE (c : Int) : List S87 := if (leftB ns f fa t ta c).toList = ((q00 ns c).f3).toList then [] else [editT c (leftB ns f fa t ta c)]
def cutK (g : Int → List S87) (n : Int) : Nat → List Int → List S87
  | _, [] => []
  | i, c :: r => (if touch ns f t c then (if texty ns c then cutE ns f fa t ta c else g c) else if inB ns f fa t ta n i then [editR c] else []) ++ cutK g n (i + 1) r
def cutD : Nat → Int → List S87
  | 0, _ => []
  | d + 1, n => cutK ns f fa t ta (cutD d) n 0 (kidL ns n)
def cutN (n : Int) : List S87 := cutD ns f fa t ta (41 - q0s ns n) n
end
section
variable {ns : List S43} (hD : DocOk ns) {f fa t ta : Int}
include hD
omit hD in
theorem cutK_congr {g g' : Int → List S87} (n : Int) : ∀ (l : List Int) (i : Nat), (∀ c ∈ l, g c = g' c) → cutK ns f fa t ta g n i l = cutK ns f fa t ta g' n i l
  | [], _, _ => rfl
  | c :: r, i, h => by rw [cutK, cutK, h c (by simp), cutK_congr n r (i + 1) fun x hx => h x (by simp [hx])]
theorem cutN_eq {n : Int} (h0 : 0 ≤ n) (h1 : n < ns.length) : cutN ns f fa t ta n = cutK ns f fa t ta (cutN ns f fa t ta) n 0 (kidL ns n) := by
  have hd := (hD.deep n h0 h1).1
  obtain ⟨m, hm⟩ : ∃ m, 41 - q0s ns n = m + 1 := ⟨40 - q0s ns n, by omega⟩
  have e : cutN ns f fa t ta n = cutK ns f fa t ta (cutD ns f fa t ta m) n 0 (kidL ns n) := by unfold cutN; rw [hm]; rfl
  rw [e]
  refine cutK_congr n _ _ fun c hc => ?_
  unfold cutN
  rw [q0x hD.tree h0 h1 hc, show 41 - (q0s ns n + 1) = m by omega]
theorem kid_block {n : Int} (hn : n ∈ sub ns 0) (U V : List Int) (c : Int) (e : kidL ns n = U ++ c :: V) : ∃ P Q, mk ns 0 = P ++ (n, (U.length : Int)) :: (mk ns c ++ (n, (U.length : Int) + 1) :: Q) := by
  have hz : (0 : Int) < ns.length := by have := hD.some_; omega
  obtain ⟨n0, n1, _⟩ := q0r hD.tree (Int.le_refl 0) hz hn
  obtain ⟨P, Q, hm⟩ := mk_in hD.tree _ 0 (Nat.le_refl _) (Int.le_refl 0) hz n hn
  have hk : ∀ (U : List Int) (j : Nat), ∃ P', (n, (j : Int)) :: q1f (mk ns) n j (U ++ c :: V) = P' ++ (n, ((j + U.length : Nat) : Int)) :: (mk ns c ++ (n, ((j + U.length : Nat) : Int) + 1) :: q1f (mk ns) n (j + U.length + 1) V) := by
    intro U
    induction U with
    | nil => intro j; exact ⟨[], by simp [q1f]⟩
    | cons u U ih =>
      intro j
      obtain ⟨P', hP⟩ := ih (j + 1)
      refine ⟨(n, (j : Int)) :: (mk ns u ++ P'), ?_⟩
      rw [List.cons_append, q1f, show ((j : Int) + 1) = ((j + 1 : Nat) : Int) by omega, hP]
      simp only [List.length_cons, List.cons_append, List.append_assoc]
      rw [show j + 1 + U.length = j + (U.length + 1) by omega]
  obtain ⟨P', hP⟩ := hk U 0
  refine ⟨P ++ P', q1f (mk ns) n (U.length + 1) V ++ txtM n (tl ns n) ++ Q, ?_⟩
  rw [hm, mk_eq hD.tree n0 n1, e, ← List.cons_append, show ((n, (0 : Int)) :: q1f (mk ns) n 0 (U ++ c :: V)) = _ from hP]
  simp [List.append_assoc]
theorem kid_side {n c : Int} (hn : n ∈ sub ns 0) (U V : List Int) (e : kidL ns n = U ++ c :: V) {m x : Int × Int} (hx : x ∈ mk ns c) (hmc : m ∉ mk ns c) :
    ((mk ns 0).idxOf m ≤ (mk ns 0).idxOf x ↔ (mk ns 0).idxOf m ≤ (mk ns 0).idxOf (n, (U.length : Int))) ∧ ((mk ns 0).idxOf x ≤ (mk ns 0).idxOf m ↔ (mk ns 0).idxOf (n, (U.length : Int) + 1) ≤ (mk ns 0).idxOf m) := by
  obtain ⟨P, Q, hE⟩ := kid_block hD hn U V c e
  have hnd := mk0_nodup hD
  rw [hE] at hnd ⊢
  have n1 := List.nodup_append.1 hnd
  have n2 := List.nodup_cons.1 n1.2.1
  have n3 := List.nodup_append.1 n2.2
  have n4 := List.nodup_cons.1 n3.2.1
  have pa : (n, (U.length : Int)) ∉ P := fun h => n1.2.2 _ h _ (by simp) rfl
  have px : x ∉ P := fun h => n1.2.2 _ h _ (by simp [hx]) rfl
  have pb : (n, (U.length : Int) + 1) ∉ P := fun h => n1.2.2 _ h _ (by simp) rfl
  have ax : ((n, (U.length : Int)) == x) = false := beq_false_of_ne fun h => n2.1 (by rw [h]; simp [hx])
  have ab : ((n, (U.length : Int)) == (n, (U.length : Int) + 1)) = false := beq_false_of_ne fun h => n2.1 (by rw [h]; simp)
  have bc : (n, (U.length : Int) + 1) ∉ mk ns c := fun h => n3.2.2 _ h _ (by simp) rfl
  have ia : (P ++ (n, (U.length : Int)) :: (mk ns c ++ (n, (U.length : Int) + 1) :: Q)).idxOf (n, (U.length : Int)) = P.length := by
    rw [List.idxOf_append, if_neg pa, List.idxOf_cons, beq_self_eq_true, cond_true]
    omega
  have ix : (P ++ (n, (U.length : Int)) :: (mk ns c ++ (n, (U.length : Int) + 1) :: Q)).idxOf x = P.length + 1 + (mk ns c).idxOf x := by
    rw [List.idxOf_append, if_neg px, List.idxOf_cons, ax, cond_false, List.idxOf_append, if_pos hx]
    omega
  have ib : (P ++ (n, (U.length : Int)) :: (mk ns c ++ (n, (U.length : Int) + 1) :: Q)).idxOf (n, (U.length : Int) + 1) = P.length + 1 + (mk ns c).length := by
    rw [List.idxOf_append, if_neg pb, List.idxOf_cons, ab, cond_false, List.idxOf_append, if_neg bc, List.idxOf_cons, beq_self_eq_true, cond_true]
    omega
  have lx := List.idxOf_lt_length_iff.2 hx
  rw [ia, ix, ib]
  by_cases pm : m ∈ P
  · have := List.idxOf_lt_length_iff.2 pm
    rw [List.idxOf_append, if_pos pm]
    omega
  · rw [List.idxOf_append, if_neg pm, List.idxOf_cons]
    by_cases am : (n, (U.length : Int)) = m
    · rw [beq_iff_eq.2 am, cond_true]
      omega
    · rw [beq_false_of_ne am, cond_false, List.idxOf_append, if_neg hmc]
      omega
end
section
variable {ns : List S43} (hD : DocOk ns) {f fa t ta : Int} (h : spanE ns f fa t ta = 0)
include hD h
theorem left_eq {c : Int} (h0 : 0 ≤ c) (h1 : c < ns.length) (hx : texty ns c) : span_left.f (q00 ns c).f3 c f fa t ta = some (leftB ns f fa t ta c) := by
  obtain ⟨_, p1, p2⟩ := q1x (range_cmp h).1
  obtain ⟨f0, f1, fa0, fa1, fn⟩ := q15 p1
  obtain ⟨t0, t1, ta0, ta1, tn⟩ := q15 p2
  have hs := (leaf_at hD h0 h1).1
  have hr : roomN ns c = (tl ns c : Int) := if_pos hx
  unfold span_left.f leftB
  rw [if_pos ⟨by unfold tl at hs; omega, fun e => ⟨fa0, by rw [e, hr] at fa1; exact fa1⟩, fun e => ⟨ta0, by rw [e, hr] at ta1; exact ta1⟩⟩]
  rfl
theorem cutT_eq (q : Bool) {c : Int} (h0 : 0 ≤ c) (h1 : c < ns.length) (k : Nat) (hk : 50 < k) : cutT k ns q f t c = some (decide (touch ns f t c)) := by
  obtain ⟨_, p1, p2⟩ := q1x (range_cmp h).1
  obtain ⟨f0, f1, fa0, fa1, fn⟩ := q15 p1
  obtain ⟨t0, t1, ta0, ta1, tn⟩ := q15 p2
  unfold cutT
  rw [within_sub hD.tree q h0 h1 f0 f1 k hk, Option.bind_some]
  by_cases c1 : f ∈ sub ns c
  · rw [decide_eq_true c1, if_pos rfl, decide_eq_true (show touch ns f t c from .inl c1)]
  · rw [decide_eq_false c1, if_neg Bool.false_ne_true, within_sub hD.tree q h0 h1 t0 t1 k hk]
    congr 1
    exact decide_eq_decide.2 ⟨fun e => .inr e, fun e => e.resolve_left c1⟩
theorem cutB_eq (q : Bool) {n : Int} (hn : n ∈ sub ns 0) (i : Nat) (hi : i < (kidL ns n).length) (k : Nat) (hk : 500 < k) : cutB k ns q f fa t ta n (i : Int) = some (decide (inB ns f fa t ta n i)) := by
  have hz : (0 : Int) < ns.length := by have := hD.some_; omega
  obtain ⟨_, p1, p2⟩ := q1x (range_cmp h).1
  obtain ⟨f0, f1, fa0, fa1, fn⟩ := q15 p1
  obtain ⟨t0, t1, ta0, ta1, tn⟩ := q15 p2
  obtain ⟨n0, n1, _⟩ := q0r hD.tree (Int.le_refl 0) hz hn
  have r1 := room_small hD f0 f1
  have r2 := room_small hD t0 t1
  have hkf := kids_few hD.tree n0 n1
  have hm := hD.many
  unfold cutB
  rw [order_eqs hD.tree q f0 f1 ⟨fa0, by omega⟩ fn n0 n1 ⟨by omega, by omega⟩ hn k hk, Option.bind_some, w1 i (by omega), show ((i + 1 : Nat) : Int) = (i : Int) + 1 by omega]
  by_cases c1 : cmpL (wayP ns (f, fa)) (wayP ns (n, (i : Int))) ≤ 0
  · rw [if_pos c1, order_eqs hD.tree q n0 n1 ⟨by omega, by omega⟩ hn t0 t1 ⟨ta0, by omega⟩ tn k hk, Option.bind_some]
    congr 1
    exact decide_eq_decide.2 ⟨fun e => ⟨c1, e⟩, fun e => e.2⟩
  · rw [if_neg c1]
    exact congrArg some (decide_eq_false fun e : inB ns f fa t ta n i => c1 e.1).symm
omit h in
theorem cut_few : ∀ (D : Nat) (n : Int), 41 - q0s ns n ≤ D → 0 ≤ n → n < ns.length → (cutN ns f fa t ta n).length + 1 ≤ (sub ns n).length
  | 0, n, hd, h0, h1 => by
    have := (hD.deep n h0 h1).1
    omega
  | D + 1, n, hd, h0, h1 => by
    have hdn := (hD.deep n h0 h1).1
    have step : ∀ (l : List Int) (i : Nat), (∀ c ∈ l, c ∈ kidL ns n) → (cutK ns f fa t ta (cutN ns f fa t ta) n i l).length ≤ (l.flatMap (sub ns)).length := by
      intro l
      induction l with
      | nil => intro i _; simp [cutK]
      | cons c r ih =>
        intro i hc
        have h1' := ih (i + 1) fun x hx => hc x (by simp [hx])
        obtain ⟨c0, c1, _⟩ := hD.kid n c h0 h1 (hc c (by simp))
        have hdk := q0x hD.tree h0 h1 (hc c (by simp))
        have h2 := cut_few D c (by omega) c0 c1
        have h3 : (cutE ns f fa t ta c).length ≤ 1 := by unfold cutE; split <;> simp
        rw [cutK, List.length_append, List.flatMap_cons, List.length_append]
        have h4 : (if touch ns f t c then (if texty ns c then cutE ns f fa t ta c else cutN ns f fa t ta c) else if inB ns f fa t ta n i then [editR c] else []).length ≤ (sub ns c).length := by
          split
          · split <;> omega
          · split
            · simp only [List.length_cons, List.length_nil]; omega
            · simp
        omega
    have := step (kidL ns n) 0 fun c hc => hc
    rw [cutN_eq hD h0 h1, q1h hD.tree h0 h1, List.length_cons]
    omega
theorem cutL_l0 (q : Bool) {n : Int} (hn : n ∈ sub ns 0) (B : Nat) (H : ∀ c ∈ kidL ns n, ∀ k lo, B < k → lo.length + (sub ns c).length ≤ 100000 → cutL k ns q f fa t ta c 0 lo = some (lo ++ cutN ns f fa t ta c)) (d : Nat) : ∀ (i k : Nat) (lo : List S87), i + d = (kidL ns n).length → B + d + 600 < k → lo.length + (((kidL ns n).drop i).flatMap (sub ns)).length ≤ 100000 →
    cutL k ns q f fa t ta n (i : Int) lo = some (lo ++ cutK ns f fa t ta (cutN ns f fa t ta) n i ((kidL ns n).drop i)) := by
  have hz : (0 : Int) < ns.length := by have := hD.some_; omega
  obtain ⟨n0, n1, _⟩ := q0r hD.tree (Int.le_refl 0) hz hn
  have hkf := kids_few hD.tree n0 n1
  have hm := hD.many
  induction d with
  | zero =>
    intro i k lo hi hk hl
    obtain ⟨k, rfl⟩ : ∃ z, k = z + 1 := ⟨k - 1, by omega⟩
    have hnil : (kidL ns n).drop i = [] := List.drop_eq_nil_of_le (by omega)
    rw [cutL]
    show (if (i : Int) < ((kidL ns n).length : Int) then _ else _) = _
    rw [if_neg (by omega), hnil]
    simp [cutK]
  | succ d ih =>
    intro i k lo hi hk hl
    obtain ⟨k, rfl⟩ : ∃ z, k = z + 1 := ⟨k - 1, by omega⟩
    have hlt : i < (kidL ns n).length := by omega
    have hd := dropK (kidL ns n) i hlt
    have hc : rd (kidL ns n) (i : Int) ∈ kidL ns n := List.mem_of_mem_drop (i := i) (by rw [hd]; simp)
    rw [hd, List.flatMap_cons, List.length_append] at hl
    rw [hd]
    generalize hcc : rd (kidL ns n) (i : Int) = c at hc hl ⊢
    obtain ⟨c0, c1, _⟩ := hD.kid n c n0 n1 hc
    have ht := cutT_eq hD h q c0 c1 k (by omega)
    have hb := cutB_eq hD h q hn i hlt k (by omega)
    have rest : ∀ o : List S87, o.length ≤ lo.length + (sub ns c).length → cutL k ns q f fa t ta n ((i + 1 : Nat) : Int) o = some (o ++ cutK ns f fa t ta (cutN ns f fa t ta) n (i + 1) ((kidL ns n).drop (i + 1))) := fun o ho => ih (i + 1) k o (by omega) (by omega) (by omega)
    have hs1 : 1 ≤ (sub ns c).length := by rw [q1h hD.tree c0 c1]; simp
    rw [cutL]
    show (if (i : Int) < ((kidL ns n).length : Int) then (if 0 ≤ (i : Int) then (if 0 ≤ rd (kidL ns n) (i : Int) then (if rd (kidL ns n) (i : Int) < (ns.length : Int) then ((cutT k ns q f t (rd (kidL ns n) (i : Int))).bind fun b => if b = true ∧ texty ns (rd (kidL ns n) (i : Int)) then ((span_left.f (q00 ns (rd (kidL ns n) (i : Int))).f3 (rd (kidL ns n) (i : Int)) f fa t ta).bind fun u => if u.toList = ((q00 ns (rd (kidL ns n) (i : Int))).f3).toList then cutL k ns q f fa t ta n (wrap64 ((i : Int) + 1)) lo else if lo.length < 879609302220 then cutL k ns q f fa t ta n (wrap64 ((i : Int) + 1)) (lo ++ [editT (rd (kidL ns n) (i : Int)) u]) else none) else if b = true then (cutL k ns q f fa t ta (rd (kidL ns n) (i : Int)) 0 lo).bind fun o => cutL k ns q f fa t ta n (wrap64 ((i : Int) + 1)) o else (cutB k ns q f fa t ta n (i : Int)).bind fun z => if z = true then (if lo.length < 879609302220 then cutL k ns q f fa t ta n (wrap64 ((i : Int) + 1)) (lo ++ [editR (rd (kidL ns n) (i : Int))]) else none) else cutL k ns q f fa t ta n (wrap64 ((i : Int) + 1)) lo) else none) else none) else none) else some lo) = _
    rw [hcc, if_pos (by omega), if_pos (by omega), if_pos c0, if_pos c1, ht, Option.bind_some, w1 i (by omega), cutK]
    by_cases e1 : touch ns f t c
    · rw [decide_eq_true e1, if_pos e1]
      by_cases e2 : texty ns c
      · rw [if_pos ⟨rfl, e2⟩, if_pos e2, left_eq hD h c0 c1 e2, Option.bind_some]
        unfold cutE
        by_cases e3 : (leftB ns f fa t ta c).toList = ((q00 ns c).f3).toList
        · rw [if_pos e3, if_pos e3, rest lo (by omega), List.nil_append]
        · rw [if_neg e3, if_neg e3, if_pos (by omega), rest _ (by rw [List.length_append]; simp only [List.length_cons, List.length_nil]; omega), List.append_assoc]
      · have hcf := cut_few hD (f := f) (fa := fa) (t := t) (ta := ta) _ c (Nat.le_refl _) c0 c1
        rw [if_neg (fun e => e2 e.2), if_pos rfl, if_neg e2, H c hc k lo (by omega) (by omega), Option.bind_some, rest _ (by rw [List.length_append]; omega), List.append_assoc]
    · rw [decide_eq_false e1, if_neg (fun e => Bool.false_ne_true e.1), if_neg Bool.false_ne_true, if_neg e1, hb, Option.bind_some]
      by_cases e2 : inB ns f fa t ta n i
      · rw [decide_eq_true e2, if_pos rfl, if_pos e2, if_pos (by omega), rest _ (by rw [List.length_append]; simp only [List.length_cons, List.length_nil]; omega), List.append_assoc]
      · rw [decide_eq_false e2, if_neg Bool.false_ne_true, if_neg e2, rest lo (by omega), List.nil_append]
theorem cutL_eq (q : Bool) : ∀ (D : Nat) (n : Int), 41 - q0s ns n ≤ D → n ∈ sub ns 0 → ∀ k lo, 900 * D + 600 < k → lo.length + (sub ns n).length ≤ 100000 → cutL k ns q f fa t ta n 0 lo = some (lo ++ cutN ns f fa t ta n)
  | 0, n, hd, hn, k, lo, hk, hl => by
    have hz : (0 : Int) < ns.length := by have := hD.some_; omega
    obtain ⟨n0, n1, _⟩ := q0r hD.tree (Int.le_refl 0) hz hn
    have := (hD.deep n n0 n1).1
    omega
  | D + 1, n, hd, hn, k, lo, hk, hl => by
    have hz : (0 : Int) < ns.length := by have := hD.some_; omega
    obtain ⟨n0, n1, _⟩ := q0r hD.tree (Int.le_refl 0) hz hn
    have hkf := kids_few hD.tree n0 n1
    have hm := hD.many
    have hdn := (hD.deep n n0 n1).1
    have := cutL_l0 hD h q hn (900 * D + 600) (fun c hc k lo hk hl => cutL_eq q D c (by have := q0x hD.tree n0 n1 hc; omega) (sub_step hD.tree _ 0 (Nat.le_refl _) (Int.le_refl 0) hz n c hn hc) k lo hk hl) (kidL ns n).length 0 k lo (by omega) (by omega) (by
      rw [q1h hD.tree n0 n1, List.length_cons] at hl
      rw [List.drop_zero]
      omega)
    rw [List.drop_zero, ← cutN_eq hD n0 n1] at this
    exact this
end
def keepF (lo hi : Nat) : Nat → List UInt8 → List UInt8
  | _, [] => []
  | i, b :: r => (if lo ≤ i ∧ i < hi then [] else [b]) ++ keepF lo hi (i + 1) r
theorem keep_eq (lo hi : Nat) (l : List UInt8) (h1 : lo ≤ hi) (h2 : hi ≤ l.length) (d : Nat) : ∀ i : Nat, i + d = l.length → keepF lo hi i (l.drop i) = (l.take lo).drop i ++ l.drop (max hi i) := by
  induction d with
  | zero =>
    intro i hi'
    rw [List.drop_eq_nil_of_le (show l.length ≤ i by omega), List.drop_eq_nil_of_le (show (l.take lo).length ≤ i by rw [List.length_take]; omega), List.drop_eq_nil_of_le (show l.length ≤ max hi i by omega)]
    rfl
  | succ d ih =>
    intro i hi'
    have hlt : i < l.length := by omega
    rw [List.drop_eq_getElem_cons hlt, keepF, ih (i + 1) (by omega)]
    by_cases c : lo ≤ i ∧ i < hi
    · rw [if_pos c, List.nil_append, List.drop_eq_nil_of_le (show (l.take lo).length ≤ i + 1 by rw [List.length_take]; omega), List.drop_eq_nil_of_le (show (l.take lo).length ≤ i by rw [List.length_take]; omega), show max hi (i + 1) = max hi i by omega]
    · rw [if_neg c]
      by_cases c2 : i < lo
      · have hl2 : i < (l.take lo).length := by rw [List.length_take]; omega
        rw [List.drop_eq_getElem_cons hl2, List.getElem_take, show max hi (i + 1) = max hi i by omega]
        rfl
      · rw [List.drop_eq_nil_of_le (show (l.take lo).length ≤ i + 1 by rw [List.length_take]; omega), List.drop_eq_nil_of_le (show (l.take lo).length ≤ i by rw [List.length_take]; omega), show max hi (i + 1) = i + 1 by omega, show max hi i = i by omega, List.drop_eq_getElem_cons hlt]
        rfl
theorem sub_trans' {ns : List S43} (h : Tree ns) {a b y : Int} (ha : 0 ≤ a ∧ a < ns.length) (hb : b ∈ sub ns a) (hy : y ∈ sub ns b) : y ∈ sub ns a := by
  · obtain ⟨b0, b1, _⟩ := q0r h ha.1 ha.2 hb
    have go : ∀ (D : Nat) (b : Int), 41 - q0s ns b ≤ D → 0 ≤ b → b < ns.length → b ∈ sub ns a → ∀ y, y ∈ sub ns b → y ∈ sub ns a := by
      intro D
      induction D with
      | zero => intro b hd b0 b1; have := (h.deep b b0 b1).1; omega
      | succ D ih =>
        intro b hd b0 b1 hb y hy
        rw [q1h h b0 b1] at hy
        rcases List.mem_cons.1 hy with rfl | hy
        · exact hb
        · obtain ⟨c, hc, hy⟩ := List.mem_flatMap.1 hy
          obtain ⟨c0, c1, _⟩ := h.kid b c b0 b1 hc
          have hk := q0x h b0 b1 hc
          have hdb := (h.deep b b0 b1).1
          exact ih c (by omega) c0 c1 (sub_step h _ a (Nat.le_refl _) ha.1 ha.2 b c hb hc) y hy
    exact go _ b (Nat.le_refl _) b0 b1 hb y hy
section
variable (ns : List S43) (f fa t ta : Int)
def lies (n : Int) : Prop := 0 ≤ par ns n ∧ ¬ touch ns f t n ∧ inB ns f fa t ta (par ns n) (idx (kidL ns (par ns n)) n)
instance (n : Int) : Decidable (lies ns f fa t ta n) := by unfold lies; infer_instance
def refE (n : Int) : List S87 := if lies ns f fa t ta n then (if lies ns f fa t ta (par ns n) then [] else [editR n]) else if texty ns n ∧ (f = n ∨ t = n) then cutE ns f fa t ta n else []
end
section
variable {ns : List S43} (hD : DocOk ns) {f fa t ta : Int} (h : spanE ns f fa t ta = 0)
include hD h
omit h in
theorem pt_kid {n : Int} (hn : n ∈ sub ns 0) {i : Nat} (hi : i ≤ (kidL ns n).length) (hk : kidL ns n ≠ []) : ptI ns n (i : Int) = 0 := by
  have hz : (0 : Int) < ns.length := by have := hD.some_; omega
  obtain ⟨n0, n1, _⟩ := q0r hD.tree (Int.le_refl 0) hz hn
  have hr : roomN ns n = ((kidL ns n).length : Int) := by
    unfold roomN
    rcases (leaf_at hD n0 n1).2 with e | e
    · exact absurd e.2 hk
    · rw [if_neg (by omega)]
  unfold ptI
  rw [if_neg (show ¬ (n < 0 ∨ (ns.length : Int) ≤ n ∨ (i : Int) < 0 ∨ roomN ns n < (i : Int)) by omega), if_pos hn]
theorem inB_idx {n : Int} (hn : n ∈ sub ns 0) {i : Nat} (hi : i < (kidL ns n).length) : inB ns f fa t ta n i ↔ (mk ns 0).idxOf (f, fa) ≤ (mk ns 0).idxOf (n, (i : Int)) ∧ (mk ns 0).idxOf (n, (i : Int) + 1) ≤ (mk ns 0).idxOf (t, ta) := by
  have hz : (0 : Int) < ns.length := by have := hD.some_; omega
  obtain ⟨_, p1, p2⟩ := q1x (range_cmp h).1
  have hk : kidL ns n ≠ [] := fun e => by rw [e] at hi; exact absurd hi (Nat.not_lt_zero _)
  have q1 := pt_kid hD hn (i := i) (by omega) hk
  have q2 := pt_kid hD hn (i := i + 1) (by omega) hk
  rw [show ((i + 1 : Nat) : Int) = (i : Int) + 1 by omega] at q2
  have mem : ∀ {a b : Int}, ptI ns a b = 0 → (a, b) ∈ mk ns 0 := fun e => by
    obtain ⟨_, _, b0, b1, an⟩ := q15 e
    exact (mk_room hD _).2 ⟨an, b0, b1⟩
  have hs := mk_sorted hD.tree (leafy_of hD) _ 0 (Nat.le_refl _) (Int.le_refl 0) hz
  have e1 := sorted_lt hs (mem q1) (mem p1)
  have e2 := sorted_lt hs (mem p2) (mem q2)
  have v1 := cmpL_val (wayP ns (f, fa)) (wayP ns (n, (i : Int)))
  have v2 := cmpL_val (wayP ns (n, (i : Int) + 1)) (wayP ns (t, ta))
  rw [cmpL_swap (wayP ns (f, fa)) (wayP ns (n, (i : Int)))] at e1
  rw [cmpL_swap (wayP ns (n, (i : Int) + 1)) (wayP ns (t, ta))] at e2
  unfold inB
  omega
omit h in
theorem not_mem_kid {c : Int} (c0 : 0 ≤ c) (c1 : c < ns.length) (hc : ¬ touch ns f t c) : (f, fa) ∉ mk ns c ∧ (t, ta) ∉ mk ns c :=
  ⟨fun e => hc (.inl ((mem_mk hD.tree c0 c1 _).1 e).1), fun e => hc (.inr ((mem_mk hD.tree c0 c1 _).1 e).1)⟩
theorem lies_below {n c x : Int} (hn : n ∈ sub ns 0) (hc : c ∈ kidL ns n) (ht : ¬ touch ns f t c) (hx : x ∈ sub ns c) (hne : x ≠ c) : lies ns f fa t ta x ↔ inB ns f fa t ta n (idx (kidL ns n) c) := by
  have hz : (0 : Int) < ns.length := by have := hD.some_; omega
  obtain ⟨n0, n1, _⟩ := q0r hD.tree (Int.le_refl 0) hz hn
  obtain ⟨c0, c1, _⟩ := hD.kid n c n0 n1 hc
  obtain ⟨x0, x1, _⟩ := q0r hD.tree c0 c1 hx
  obtain ⟨hu, u0⟩ := sub_upw hD.tree _ c (Nat.le_refl _) c0 c1 x hx hne
  have hc0 := sub_step hD.tree _ 0 (Nat.le_refl _) (Int.le_refl 0) hz n c hn hc
  rcases hD.up x x0 x1 with hr | ⟨p0, p1, hxk⟩
  · omega
  have hu0 : par ns x ∈ sub ns 0 := sub_trans' hD.tree ⟨Int.le_refl 0, hz⟩ hc0 hu
  have hi := idx_lt hxk
  have hic := idx_lt hc
  have hsub : ∀ y, y ∈ sub ns x → y ∈ sub ns c := fun y hy => sub_trans' hD.tree ⟨c0, c1⟩ hx hy
  have hnt : ¬ touch ns f t x := fun e => ht (e.elim (fun e => .inl (hsub _ e)) (fun e => .inr (hsub _ e)))
  obtain ⟨U, V, e⟩ := List.append_of_mem hc
  have hU : idx (kidL ns n) c = U.length := by
    have hn' := hD.once n n0 n1
    rw [e] at hn' ⊢
    exact idx_at hn'
  obtain ⟨nf, nt⟩ := not_mem_kid (fa := fa) (ta := ta) hD c0 c1 ht
  have inm : ∀ j : Nat, j ≤ (kidL ns (par ns x)).length → (par ns x, (j : Int)) ∈ mk ns c := fun j hj => (mem_mk hD.tree c0 c1 _).2 ⟨hu, by simp only; omega, .inl (by simp only; omega)⟩
  have s1 := (kid_side hD hn U V e (m := (f, fa)) (inm _ (Nat.le_of_lt hi)) nf).1
  have s2 := (kid_side hD hn U V e (m := (t, ta)) (inm (idx (kidL ns (par ns x)) x + 1) hi) nt).2
  rw [show ((idx (kidL ns (par ns x)) x + 1 : Nat) : Int) = (idx (kidL ns (par ns x)) x : Int) + 1 by omega] at s2
  unfold lies
  rw [inB_idx hD h hu0 hi, inB_idx hD h hn hic, hU, s1, s2]
  exact ⟨fun e => e.2.2, fun e => ⟨u0, hnt, e⟩⟩
omit h in
theorem lies_kid {n c : Int} (hn : n ∈ sub ns 0) (hc : c ∈ kidL ns n) : lies ns f fa t ta c ↔ ¬ touch ns f t c ∧ inB ns f fa t ta n (idx (kidL ns n) c) := by
  have hz : (0 : Int) < ns.length := by have := hD.some_; omega
  obtain ⟨n0, n1, _⟩ := q0r hD.tree (Int.le_refl 0) hz hn
  obtain ⟨c0, c1, cp⟩ := hD.kid n c n0 n1 hc
  unfold lies
  rw [cp]
  exact ⟨fun e => e.2, fun e => ⟨n0, e⟩⟩
theorem ref_cut : ∀ (D : Nat) (n : Int), 41 - q0s ns n ≤ D → n ∈ sub ns 0 → ¬ lies ns f fa t ta n → ¬ texty ns n → (sub ns n).flatMap (refE ns f fa t ta) = cutN ns f fa t ta n
  | 0, n, hd, hn, _, _ => by
    have hz : (0 : Int) < ns.length := by have := hD.some_; omega
    obtain ⟨n0, n1, _⟩ := q0r hD.tree (Int.le_refl 0) hz hn
    have := (hD.deep n n0 n1).1
    omega
  | D + 1, n, hd, hn, hnl, hnt => by
    have hz : (0 : Int) < ns.length := by have := hD.some_; omega
    obtain ⟨n0, n1, _⟩ := q0r hD.tree (Int.le_refl 0) hz hn
    have hdn := (hD.deep n n0 n1).1
    have step : ∀ (V U : List Int), kidL ns n = U ++ V → (V.flatMap (sub ns)).flatMap (refE ns f fa t ta) = cutK ns f fa t ta (cutN ns f fa t ta) n U.length V := by
      intro V
      induction V with
      | nil => intro U _; rfl
      | cons c V ih =>
        intro U e
        have hc : c ∈ kidL ns n := by rw [e]; simp
        obtain ⟨c0, c1, cp⟩ := hD.kid n c n0 n1 hc
        have hc0 := sub_step hD.tree _ 0 (Nat.le_refl _) (Int.le_refl 0) hz n c hn hc
        have hdk := q0x hD.tree n0 n1 hc
        have hU : idx (kidL ns n) c = U.length := by
          have hn' := hD.once n n0 n1
          rw [e] at hn' ⊢
          exact idx_at hn'
        have ih' := ih (U ++ [c]) (by rw [e]; simp)
        rw [List.length_append, List.length_singleton] at ih'
        rw [List.flatMap_cons, List.flatMap_append, ih', cutK]
        congr 1
        have hlk := lies_kid (f := f) (fa := fa) (t := t) (ta := ta) hD hn hc
        rw [hU] at hlk
        by_cases ht : touch ns f t c
        · have hl : ¬ lies ns f fa t ta c := fun e => (hlk.1 e).1 ht
          rw [if_pos ht]
          by_cases hx : texty ns c
          · have hkc : kidL ns c = [] := by
              rcases (leaf_at hD c0 c1).2 with e | e
              · exact e.2
              · exact absurd hx (by unfold texty; omega)
            have hsc : sub ns c = [c] := by rw [q1h hD.tree c0 c1, hkc]; rfl
            have hft : f = c ∨ t = c := by
              unfold touch at ht
              rw [hsc] at ht
              simpa using ht
            rw [if_pos hx, hsc, List.flatMap_singleton]
            unfold refE
            rw [if_neg hl, if_pos ⟨hx, hft⟩]
          · rw [if_neg hx]
            exact ref_cut D c (by omega) hc0 hl hx
        · rw [if_neg ht]
          by_cases hb : inB ns f fa t ta n U.length
          · have hl : lies ns f fa t ta c := hlk.2 ⟨ht, hb⟩
            rw [if_pos hb, q1h hD.tree c0 c1, List.flatMap_cons]
            have h1 : refE ns f fa t ta c = [editR c] := by
              unfold refE
              rw [if_pos hl, cp, if_neg hnl]
            have h2 : ((kidL ns c).flatMap (sub ns)).flatMap (refE ns f fa t ta) = [] := by
              rw [List.flatMap_eq_nil_iff]
              intro x hx
              have hxc : x ∈ sub ns c := by rw [q1h hD.tree c0 c1]; exact List.mem_cons_of_mem _ hx
              have hne : x ≠ c := fun ex => by
                obtain ⟨y, hy, hxy⟩ := List.mem_flatMap.1 hx
                obtain ⟨y0, y1, _⟩ := hD.kid c y c0 c1 hy
                have g1 := (q0r hD.tree y0 y1 hxy).2.2.1
                have g2 := q0x hD.tree c0 c1 hy
                rw [ex] at g1
                omega
              have hlx := (lies_below hD h hn hc ht hxc hne).2 (by rw [hU]; exact hb)
              obtain ⟨hpu, _⟩ := sub_upw hD.tree _ c (Nat.le_refl _) c0 c1 x hxc hne
              have hlp : lies ns f fa t ta (par ns x) := by
                by_cases ep : par ns x = c
                · rw [ep]; exact hl
                · exact (lies_below hD h hn hc ht hpu ep).2 (by rw [hU]; exact hb)
              unfold refE
              rw [if_pos hlx, if_pos hlp]
            rw [h1, h2]
            rfl
          · rw [if_neg hb, List.flatMap_eq_nil_iff]
            intro x hx
            have hlx : ¬ lies ns f fa t ta x := by
              by_cases ex : x = c
              · rw [ex]; exact fun e => hb (hlk.1 e).2
              · exact fun e => hb (by have := (lies_below hD h hn hc ht hx ex).1 e; rwa [hU] at this)
            unfold refE
            rw [if_neg hlx, if_neg (fun e => by
              obtain ⟨x0, x1, _⟩ := q0r hD.tree c0 c1 hx
              exact ht (e.2.elim (fun ef => .inl (by rw [ef]; exact hx)) (fun et => .inr (by rw [et]; exact hx))))]
    have hr : refE ns f fa t ta n = [] := by
      unfold refE
      rw [if_neg hnl, if_neg (fun e => hnt e.1)]
    rw [q1h hD.tree n0 n1, List.flatMap_cons, hr, List.nil_append, cutN_eq hD n0 n1]
    exact step (kidL ns n) [] rfl
end
section
variable {ns : List S43} (hD : DocOk ns) {f fa t ta : Int} (h : spanE ns f fa t ta = 0) (q : Bool)
include hD h
theorem liesIn_eq {n : Int} (hn : n ∈ sub ns 0) (k : Nat) (hk : 200001 < k) : clerestoryref1_liesIn.f k ns q n f fa t ta = some (decide (lies ns f fa t ta n)) := by
  have hz : (0 : Int) < ns.length := by have := hD.some_; omega
  obtain ⟨n0, n1, _⟩ := q0r hD.tree (Int.le_refl 0) hz hn
  obtain ⟨_, p1, p2⟩ := q1x (range_cmp h).1
  obtain ⟨f0, f1, fa0, fa1, fn⟩ := q15 p1
  obtain ⟨t0, t1, ta0, ta1, tn⟩ := q15 p2
  obtain ⟨k, rfl⟩ : ∃ z, k = z + 1 := ⟨k - 1, by omega⟩
  have jt : ∀ x7 : Int, clerestoryref1_liesIn.j0 (k + 1) n x7 true ns q f fa t ta = some false := fun x7 => by rw [clerestoryref1_liesIn.j0, if_pos rfl]
  unfold clerestoryref1_liesIn.f
  rw [if_pos n0, if_pos n1]
  show (if par ns n < 0 then clerestoryref1_liesIn.j0 (k + 1) n (par ns n) true ns q f fa t ta else ((clerestoryref1_Under.f (k + 1) ns q f n).bind fun a => if a = true then clerestoryref1_liesIn.j0 (k + 1) n (par ns n) true ns q f fa t ta else ((clerestoryref1_Under.f (k + 1) ns q t n).bind fun b => clerestoryref1_liesIn.j0 (k + 1) n (par ns n) b ns q f fa t ta))) = _
  by_cases c : par ns n < 0
  · rw [if_pos c, jt, decide_eq_false (fun e : lies ns f fa t ta n => by have := e.1; omega)]
  · rw [if_neg c, under_sub hD.tree q n0 n1 f0 f1 _ (by omega), Option.bind_some]
    by_cases cf : f ∈ sub ns n
    · rw [decide_eq_true cf, if_pos rfl, jt, decide_eq_false (fun e : lies ns f fa t ta n => e.2.1 (.inl cf))]
    · rw [decide_eq_false cf, if_neg Bool.false_ne_true, under_sub hD.tree q n0 n1 t0 t1 _ (by omega), Option.bind_some]
      by_cases ct : t ∈ sub ns n
      · rw [decide_eq_true ct, jt, decide_eq_false (fun e : lies ns f fa t ta n => e.2.1 (.inr ct))]
      · rcases hD.up n n0 n1 with hr | ⟨u0, u1, hx⟩
        · omega
        have hne : n ≠ 0 := fun e => by rw [e, hD.root] at c; exact c (by decide)
        obtain ⟨hu, _⟩ := sub_upw hD.tree _ 0 (Nat.le_refl _) (Int.le_refl 0) hz n hn hne
        have hkf := kids_few hD.tree u0 u1
        have hm := hD.many
        have hi := idx_lt hx
        have hnt : ¬ touch ns f t n := fun e => e.elim cf ct
        have hkne : kidL ns (par ns n) ≠ [] := fun e => by rw [e] at hx; simp at hx
        have m1 := pt_kid hD hu (Nat.le_of_lt hi) hkne
        have m2 := pt_kid hD hu (i := idx (kidL ns (par ns n)) n + 1) hi hkne
        rw [show ((idx (kidL ns (par ns n)) n + 1 : Nat) : Int) = (idx (kidL ns (par ns n)) n : Int) + 1 by omega] at m2
        have mi : ∀ {a b : Int}, ptI ns a b = 0 → mkI ns a b = ((mk ns 0).idxOf (a, b) : Int) := fun e => by
          obtain ⟨_, _, b0, b1, an⟩ := q15 e
          unfold mkI
          rw [if_pos ((mk_room hD _).2 ⟨an, b0, b1⟩)]
        have hlies : lies ns f fa t ta n ↔ inB ns f fa t ta (par ns n) (idx (kidL ns (par ns n)) n) := ⟨fun e => e.2.2, fun e => ⟨u0, hnt, e⟩⟩
        have hb := inB_idx hD h hu hi
        rw [decide_eq_false ct, clerestoryref1_liesIn.j0, if_neg Bool.false_ne_true, if_pos u0, if_pos u1]
        show ((clerestoryref1_placeIn.f k (kidL ns (par ns n)) n).bind _) = _
        rw [place_eq _ _ (by omega) k (by omega), Option.bind_some, idxI_mem hx, markOf_eq hD q f fa k (by omega), Option.bind_some, markOf_eq hD q _ _ k (by omega), Option.bind_some, show wrap64 ((idx (kidL ns (par ns n)) n : Int) + 1) = (idx (kidL ns (par ns n)) n : Int) + 1 by unfold wrap64; omega, mi p1, mi m1]
        by_cases e1 : ((mk ns 0).idxOf (f, fa) : Int) ≤ ((mk ns 0).idxOf (par ns n, (idx (kidL ns (par ns n)) n : Int)) : Int)
        · rw [if_pos e1, markOf_eq hD q _ _ k (by omega), Option.bind_some, markOf_eq hD q t ta k (by omega), Option.bind_some, mi m2, mi p2]
          congr 1
          refine decide_eq_decide.2 ?_
          rw [hlies, hb]
          omega
        · rw [if_neg e1]
          refine congrArg some (decide_eq_false fun e => ?_).symm
          have := (hb.1 (hlies.1 e)).1
          omega
omit hD in
theorem left_data {n : Int} (n0 : 0 ≤ n) (n1 : n < ns.length) (hx : texty ns n) :
    (if f = n then fa.toNat else 0) ≤ (if t = n then ta.toNat else tl ns n) ∧ (if t = n then ta.toNat else tl ns n) ≤ tl ns n ∧ (leftB ns f fa t ta n).data.toList = keepF (if f = n then fa.toNat else 0) (if t = n then ta.toNat else tl ns n) 0 (textL ns n) := by
  obtain ⟨h2, hc⟩ := range_cmp h
  obtain ⟨_, p1, p2⟩ := q1x h2
  obtain ⟨f0, f1, fa0, fa1, fn⟩ := q15 p1
  obtain ⟨t0, t1, ta0, ta1, tn⟩ := q15 p2
  have hr : roomN ns n = (tl ns n : Int) := if_pos hx
  have hlen := textL_len ns n
  have hle : (if f = n then fa.toNat else 0) ≤ (if t = n then ta.toNat else tl ns n) := by
    by_cases e1 : f = n
    · rw [if_pos e1]
      subst e1
      rw [hr] at fa1
      by_cases e2 : t = f
      · rw [if_pos e2]
        subst e2
        unfold wayP at hc
        rw [cmpL_app, cmpL] at hc
        by_cases g1 : 2 * fa < 2 * ta
        · omega
        · rw [if_neg (show ¬ 2 * (t, fa).2 < 2 * (t, ta).2 from g1)] at hc
          by_cases g2 : 2 * ta < 2 * fa
          · rw [if_pos (show 2 * (t, ta).2 < 2 * (t, fa).2 from g2)] at hc
            exact absurd rfl hc
          · omega
      · rw [if_neg e2]
        omega
    · rw [if_neg e1]
      omega
  have hhi : (if t = n then ta.toNat else tl ns n) ≤ tl ns n := by
    by_cases e2 : t = n
    · rw [if_pos e2]
      subst e2
      rw [hr] at ta1
      omega
    · rw [if_neg e2]
      omega
  refine ⟨hle, hhi, ?_⟩
  have hke := keep_eq _ _ (textL ns n) hle (by rw [hlen]; exact hhi) (textL ns n).length 0 (by omega)
  rw [List.drop_zero, List.drop_zero] at hke
  rw [hke]
  unfold leftB
  rw [ByteArray.data_append, Array.toList_append, extract_list, extract_list]
  show ((textL ns n).drop 0).take _ ++ ((textL ns n).drop _).take _ = _
  rw [List.drop_zero, Nat.sub_zero, List.take_of_length_le (l := (textL ns n).drop (if t = n then ta.toNat else tl ns n)) (by rw [List.length_drop, hlen]; exact Nat.le_refl _), show max (if t = n then ta.toNat else tl ns n) 0 = (if t = n then ta.toNat else tl ns n) by omega]
theorem cut_l1 {n : Int} (n0 : 0 ≤ n) (n1 : n < ns.length) (o : List S87) (l : List Int) (j : Int) (B : Nat) (R : List S87)
    (H : ∀ k, B < k → (if (leftB ns f fa t ta n).toList = ((q00 ns n).f3).toList then clerestoryref1_SpanCut.l0 k o l (wrap64 (j + 1)) ns q f fa t ta else if o.length < 879609302220 then clerestoryref1_SpanCut.l0 k (o ++ [editT n (leftB ns f fa t ta n)]) l (wrap64 (j + 1)) ns q f fa t ta else none) = some R) (d : Nat) :
    ∀ (i k : Nat) (a : ByteArray), i + d = tl ns n → B + d + 1 < k → a.size + d ≤ 1000 → a.data.toList ++ keepF (if f = n then fa.toNat else 0) (if t = n then ta.toNat else tl ns n) i ((textL ns n).drop i) = (leftB ns f fa t ta n).data.toList →
      clerestoryref1_SpanCut.l1 k o l j n a (i : Int) ns q f fa t ta (q00 ns n).f0 (q00 ns n).f1 (q00 ns n).f2 (q00 ns n).f3 (q00 ns n).f4 (q00 ns n).f5 = some R := by
  obtain ⟨_, p1, p2⟩ := q1x (range_cmp h).1
  obtain ⟨f0, f1, fa0, fa1, fn⟩ := q15 p1
  obtain ⟨t0, t1, ta0, ta1, tn⟩ := q15 p2
  have hlen := textL_len ns n
  have hsz : ((q00 ns n).f3).size = tl ns n := rfl
  have hs4 := (leaf_at hD n0 n1).1
  induction d with
  | zero =>
    intro i k a hi hk ha he
    obtain ⟨k, rfl⟩ : ∃ z, k = z + 1 := ⟨k - 1, by omega⟩
    rw [List.drop_eq_nil_of_le (by omega)] at he
    simp only [keepF, List.append_nil] at he
    have hab : a = leftB ns f fa t ta n := by
      apply ByteArray.ext
      exact Array.toList_inj.1 he
    subst hab
    rw [clerestoryref1_SpanCut.l1, if_neg (by rw [hsz]; omega)]
    exact H k (by omega)
  | succ d ih =>
    intro i k a hi hk ha he
    obtain ⟨k, rfl⟩ : ∃ z, k = z + 1 := ⟨k - 1, by omega⟩
    have hlt : i < (textL ns n).length := by omega
    rw [List.drop_eq_getElem_cons hlt, keepF] at he
    have hex : ((q00 ns n).f3.extract ((i : Nat) : Int).toNat ((i + 1 : Nat) : Int).toNat).data.toList = [(textL ns n)[i]] := by
      rw [extract_list]
      show ((textL ns n).drop i).take (i + 1 - i) = _
      rw [List.drop_eq_getElem_cons hlt, show i + 1 - i = 1 by omega]
      rfl
    have hes : ((q00 ns n).f3.extract ((i : Nat) : Int).toNat ((i + 1 : Nat) : Int).toNat).size = 1 := by
      have : ((q00 ns n).f3.extract ((i : Nat) : Int).toNat ((i + 1 : Nat) : Int).toNat).data.toList.length = 1 := by rw [hex]; rfl
      exact this
    have skip : ((if f = n then fa.toNat else 0) ≤ i ∧ i < (if t = n then ta.toNat else tl ns n)) → clerestoryref1_SpanCut.l1 k o l j n a ((i + 1 : Nat) : Int) ns q f fa t ta (q00 ns n).f0 (q00 ns n).f1 (q00 ns n).f2 (q00 ns n).f3 (q00 ns n).f4 (q00 ns n).f5 = some R := fun c => by
      rw [if_pos c, List.nil_append] at he
      exact ih (i + 1) k a (by omega) (by omega) (by omega) he
    have take_ : ¬ ((if f = n then fa.toNat else 0) ≤ i ∧ i < (if t = n then ta.toNat else tl ns n)) → (if 0 ≤ (i : Int) then (if (i : Int) ≤ ((i + 1 : Nat) : Int) then (if ((i + 1 : Nat) : Int) ≤ ((q00 ns n).f3.size : Int) then (if a.size + ((q00 ns n).f3.extract ((i : Nat) : Int).toNat ((i + 1 : Nat) : Int).toNat).size ≤ 9223372036854775807 then clerestoryref1_SpanCut.l1 k o l j n (a ++ (q00 ns n).f3.extract ((i : Nat) : Int).toNat ((i + 1 : Nat) : Int).toNat) ((i + 1 : Nat) : Int) ns q f fa t ta (q00 ns n).f0 (q00 ns n).f1 (q00 ns n).f2 (q00 ns n).f3 (q00 ns n).f4 (q00 ns n).f5 else none) else none) else none) else none) = some R := fun c => by
      rw [if_neg c] at he
      rw [if_pos (by omega), if_pos (by omega), if_pos (by rw [hsz]; omega), if_pos (by rw [hes]; omega)]
      exact ih (i + 1) k _ (by omega) (by omega) (by rw [ByteArray.size_append, hes]; omega) (by rw [ByteArray.data_append, Array.toList_append, hex, List.append_assoc]; exact he)
    rw [clerestoryref1_SpanCut.l1, if_pos (by rw [hsz]; omega), w1 i (by omega)]
    by_cases e1 : f = n
    · rw [if_pos e1]
      rw [if_pos e1] at skip take_
      by_cases g1 : (i : Int) ≥ fa
      · rw [if_pos g1]
        by_cases e2 : t = n
        · rw [if_pos e2]
          rw [if_pos e2] at skip take_
          by_cases g2 : (i : Int) < ta
          · rw [if_pos g2]
            exact skip ⟨by omega, by omega⟩
          · rw [if_neg g2]
            exact take_ (by omega)
        · rw [if_neg e2]
          rw [if_neg e2] at skip take_
          exact skip ⟨by omega, by omega⟩
      · rw [if_neg g1]
        exact take_ (by omega)
    · rw [if_neg e1]
      rw [if_neg e1] at skip take_
      by_cases e2 : t = n
      · rw [if_pos e2]
        rw [if_pos e2] at skip take_
        by_cases g2 : (i : Int) < ta
        · rw [if_pos g2]
          exact skip ⟨by omega, by omega⟩
        · rw [if_neg g2]
          exact take_ (by omega)
      · rw [if_neg e2]
        rw [if_neg e2] at skip take_
        exact skip ⟨by omega, by omega⟩
end
section
variable {ns : List S43} (hD : DocOk ns) {f fa t ta : Int} (h : spanE ns f fa t ta = 0) (q : Bool)
include hD h
theorem cut_ref_l0 (l : List Int) (hl : l.length ≤ 200) (hr : ∀ x ∈ l, x ∈ sub ns 0) (d : Nat) : ∀ (j k : Nat) (o : List S87), j + d = l.length → 420 * d + 200100 < k → o.length + d ≤ 100000 →
    clerestoryref1_SpanCut.l0 k o l (j : Int) ns q f fa t ta = some (o ++ (l.drop j).flatMap (refE ns f fa t ta)) := by
  have hz : (0 : Int) < ns.length := by have := hD.some_; omega
  induction d with
  | zero =>
    intro j k o hj hk ho
    obtain ⟨k, rfl⟩ : ∃ z, k = z + 1 := ⟨k - 1, by omega⟩
    rw [clerestoryref1_SpanCut.l0, if_neg (by omega), List.drop_eq_nil_of_le (by omega)]
    simp
  | succ d ih =>
    intro j k o hj hk ho
    obtain ⟨k, rfl⟩ : ∃ z, k = z + 1 := ⟨k - 1, by omega⟩
    have hlt : j < l.length := by omega
    have hd := dropK l j hlt
    have hx := hr (rd l (j : Int)) (List.mem_of_mem_drop (i := j) (by rw [hd]; simp))
    obtain ⟨x0, x1, _⟩ := q0r hD.tree (Int.le_refl 0) hz hx
    rw [clerestoryref1_SpanCut.l0, if_pos (by omega), if_pos (by omega), hd, List.flatMap_cons]
    generalize rd l (j : Int) = n at hx x0 x1 ⊢
    have hs4 := (leaf_at hD x0 x1).1
    have rest : ∀ (k : Nat) (o2 : List S87), 420 * d + 200100 < k → o2.length ≤ o.length + 1 → clerestoryref1_SpanCut.l0 k o2 l ((j + 1 : Nat) : Int) ns q f fa t ta = some (o2 ++ (l.drop (j + 1)).flatMap (refE ns f fa t ta)) := fun k o2 hk h2 => ih (j + 1) k o2 (by omega) hk (by omega)
    rw [if_pos x0, if_pos x1, liesIn_eq hD h q hx k (by omega), Option.bind_some, w1 j (by omega)]
    by_cases c : lies ns f fa t ta n
    · have hne : n ≠ 0 := fun e => by have := c.1; rw [e, hD.root] at this; exact absurd this (by decide)
      obtain ⟨hu, _⟩ := sub_upw hD.tree _ 0 (Nat.le_refl _) (Int.le_refl 0) hz n hx hne
      rw [decide_eq_true c, if_pos rfl]
      show ((clerestoryref1_liesIn.f k ns q (par ns n) f fa t ta).bind fun b => if b = true then clerestoryref1_SpanCut.l0 k o l ((j + 1 : Nat) : Int) ns q f fa t ta else if o.length < 879609302220 then clerestoryref1_SpanCut.l0 k (o ++ [editR n]) l ((j + 1 : Nat) : Int) ns q f fa t ta else none) = _
      rw [liesIn_eq hD h q hu k (by omega), Option.bind_some]
      unfold refE
      rw [if_pos c]
      by_cases c2 : lies ns f fa t ta (par ns n)
      · rw [decide_eq_true c2, if_pos rfl, if_pos c2, List.nil_append]
        exact rest k o (by omega) (by omega)
      · rw [decide_eq_false c2, if_neg Bool.false_ne_true, if_neg c2, if_pos (by omega), ← List.append_assoc]
        exact rest k _ (by omega) (by rw [List.length_append]; simp only [List.length_cons, List.length_nil]; omega)
    · rw [decide_eq_false c, if_neg Bool.false_ne_true]
      have off : ∀ k, 420 * d + 200101 < k → refE ns f fa t ta n = [] → clerestoryref1_SpanCut.j1 k o l (j : Int) n true ns q f fa t ta (q00 ns n).f0 (q00 ns n).f1 (q00 ns n).f2 (q00 ns n).f3 (q00 ns n).f4 (q00 ns n).f5 = some (o ++ (refE ns f fa t ta n ++ (l.drop (j + 1)).flatMap (refE ns f fa t ta))) := fun k hk he => by
        obtain ⟨k, rfl⟩ : ∃ z, k = z + 1 := ⟨k - 1, by omega⟩
        rw [clerestoryref1_SpanCut.j1, if_pos rfl, he, List.nil_append, w1 j (by omega)]
        exact rest k o (by omega) (by omega)
      have on : ∀ k, 420 * d + 200100 + 403 < k → texty ns n → (f = n ∨ t = n) → clerestoryref1_SpanCut.j1 k o l (j : Int) n false ns q f fa t ta (q00 ns n).f0 (q00 ns n).f1 (q00 ns n).f2 (q00 ns n).f3 (q00 ns n).f4 (q00 ns n).f5 = some (o ++ (refE ns f fa t ta n ++ (l.drop (j + 1)).flatMap (refE ns f fa t ta))) := fun k hk ht hft => by
        obtain ⟨k, rfl⟩ : ∃ z, k = z + 1 := ⟨k - 1, by omega⟩
        rw [clerestoryref1_SpanCut.j1, if_neg Bool.false_ne_true]
        obtain ⟨_, _, hld⟩ := left_data h x0 x1 ht
        have he : refE ns f fa t ta n = cutE ns f fa t ta n := by
          unfold refE
          rw [if_neg c, if_pos ⟨ht, hft⟩]
        refine cut_l1 hD h q x0 x1 o l (j : Int) (420 * d + 200100) _ (fun k hk => ?_) (tl ns n) 0 k ⟨#[]⟩ (by omega) (by omega) (by simp only [show (⟨#[]⟩ : ByteArray).size = 0 from rfl]; omega) (by rw [List.drop_zero, hld]; rfl)
        rw [he, w1 j (by omega)]
        unfold cutE
        by_cases e3 : (leftB ns f fa t ta n).toList = ((q00 ns n).f3).toList
        · rw [if_pos e3, if_pos e3, List.nil_append]
          exact rest k o hk (by omega)
        · rw [if_neg e3, if_neg e3, if_pos (by omega), ← List.append_assoc]
          exact rest k _ hk (by rw [List.length_append]; simp only [List.length_cons, List.length_nil]; omega)
      have hoff : ¬ (texty ns n ∧ (f = n ∨ t = n)) → refE ns f fa t ta n = [] := fun e => by
        unfold refE
        rw [if_neg c, if_neg e]
      show (if kindN ns n = 3 then (if f = n then clerestoryref1_SpanCut.j1 k o l (j : Int) n false ns q f fa t ta _ _ _ _ _ _ else clerestoryref1_SpanCut.j1 k o l (j : Int) n (t != n) ns q f fa t ta _ _ _ _ _ _) else if kindN ns n = 4 then (if f = n then clerestoryref1_SpanCut.j1 k o l (j : Int) n false ns q f fa t ta _ _ _ _ _ _ else clerestoryref1_SpanCut.j1 k o l (j : Int) n (t != n) ns q f fa t ta _ _ _ _ _ _) else clerestoryref1_SpanCut.j1 k o l (j : Int) n true ns q f fa t ta _ _ _ _ _ _) = _
      have two : texty ns n → (if f = n then clerestoryref1_SpanCut.j1 k o l (j : Int) n false ns q f fa t ta (q00 ns n).f0 (q00 ns n).f1 (q00 ns n).f2 (q00 ns n).f3 (q00 ns n).f4 (q00 ns n).f5 else clerestoryref1_SpanCut.j1 k o l (j : Int) n (t != n) ns q f fa t ta (q00 ns n).f0 (q00 ns n).f1 (q00 ns n).f2 (q00 ns n).f3 (q00 ns n).f4 (q00 ns n).f5) = some (o ++ (refE ns f fa t ta n ++ (l.drop (j + 1)).flatMap (refE ns f fa t ta))) := fun ht => by
        by_cases e1 : f = n
        · rw [if_pos e1]
          exact on k (by omega) ht (.inl e1)
        · rw [if_neg e1]
          by_cases e2 : t = n
          · rw [bne_eq_false_iff_eq.2 e2]
            exact on k (by omega) ht (.inr e2)
          · rw [bne_iff_ne.2 e2]
            exact off k (by omega) (hoff fun e => e.2.elim e1 e2)
      by_cases c3 : kindN ns n = 3
      · rw [if_pos c3]
        exact two (.inl c3)
      · rw [if_neg c3]
        by_cases c4 : kindN ns n = 4
        · rw [if_pos c4]
          exact two (.inr c4)
        · rw [if_neg c4]
          exact off k (by omega) (hoff fun e => e.1.elim c3 c4)
theorem refCut_eq (k : Nat) (hk : 300000 < k) : clerestoryref1_SpanCut.f k ns q f fa t ta = some (cutN ns f fa t ta 0) := by
  have hz : (0 : Int) < ns.length := by have := hD.some_; omega
  have hsf := sub_few hD.tree (Int.le_refl 0) hz
  have hm := hD.many
  have h0 : (0 : Int) ∈ sub ns 0 := self_in hD.tree (Int.le_refl 0) hz
  unfold clerestoryref1_SpanCut.f
  rw [below_all hD.tree q 0 (Int.le_refl 0) hz k (by omega), Option.bind_some]
  have := cut_ref_l0 hD h q (sub ns 0) (by omega) (fun x hx => hx) (sub ns 0).length 0 k [] (by omega) (by omega) (by simp only [List.length_nil]; omega)
  rw [List.drop_zero, List.nil_append] at this
  rw [show ((0 : Nat) : Int) = 0 from rfl] at this
  rw [this, ref_cut hD h _ 0 (Nat.le_refl _) h0 (fun e => by have := e.1; rw [hD.root] at this; exact absurd this (by decide)) (fun e => by
    have := (hD.kind 0 (Int.le_refl 0) hz).2 rfl
    unfold texty at e
    omega)]
theorem progCut_eq (k : Nat) (hk : 300000 < k) : span_ranger_cut.f k ns q 0 f fa t ta [] = some (cutN ns f fa t ta 0) := by
  have hz : (0 : Int) < ns.length := by have := hD.some_; omega
  have hsf := sub_few hD.tree (Int.le_refl 0) hz
  have hm := hD.many
  unfold span_ranger_cut.f
  rw [if_pos ⟨Int.le_refl 0, hz⟩]
  exact cutL_eq hD h q 41 0 (by omega) (self_in hD.tree (Int.le_refl 0) hz) k [] (by omega) (by simp only [List.length_nil]; omega)
end
end Go.Proofs.YthjnallbbhnndaaDoor.Dm
namespace Go.Proofs.YthjnallbbhnndaaDoor.Pure
open Go Go.RowKit Go.Proofs.YthjnallbbhnndaaDoor.XSp Go.Proofs.YthjnallbbhnndaaDoor.Dm Go.Proofs.YthjnallbbhnndaaDoorW.PrintWords Go.Proofs.YthjnallbbhnndaaDoorW.PrintLast Go.Proofs.YthjnallbbhnndaaDoorW.PrintMore
set_option maxRecDepth 100000
theorem begunS : clerestorylaw1_spanBegun.f 2000 = some true := by decide +kernel
theorem begunSK (k : Nat) (hk : 2000 ≤ k) : clerestorylaw1_spanBegun.f k = some true := by
  have := more_rounds (g := fun k => clerestorylaw1_spanBegun.f k) clerestorylaw1_spanBegun.mono 2000 (k - 2000) _ begunS
  rw [show 2000 + (k - 2000) = k by omega] at this
  exact this
theorem sameInts_l0 (l : List Int) (hl : l.length ≤ 1000000) (d : Nat) : ∀ (i k : Nat), i + d = l.length → d < k → clerestoryref1_SameInts.l0 k l l (i : Int) = some true := by
  induction d with
  | zero =>
    intro i k hi hk
    obtain ⟨k, rfl⟩ : ∃ z, k = z + 1 := ⟨k - 1, by omega⟩
    rw [clerestoryref1_SameInts.l0, if_neg (by omega)]
  | succ d ih =>
    intro i k hi hk
    obtain ⟨k, rfl⟩ : ∃ z, k = z + 1 := ⟨k - 1, by omega⟩
    rw [clerestoryref1_SameInts.l0, if_pos (by omega), if_pos (by omega), if_pos (by omega), if_pos rfl, w1 i (by omega), ih (i + 1) k (by omega) (by omega)]
theorem sameInts_self (l : List Int) (hl : l.length ≤ 1000000) (k : Nat) (hk : l.length < k) : clerestoryref1_SameInts.f k l l = some true := by
  unfold clerestoryref1_SameInts.f
  rw [if_pos rfl]
  exact sameInts_l0 l hl l.length 0 k (by omega) hk
theorem sameAttrs_l0 (l : List S122) (hl : l.length ≤ 1000000) (d : Nat) : ∀ (i k : Nat), i + d = l.length → d < k → clerestoryref1_SameAttrs.l0 k l l (i : Int) = some true := by
  induction d with
  | zero =>
    intro i k hi hk
    obtain ⟨k, rfl⟩ : ∃ z, k = z + 1 := ⟨k - 1, by omega⟩
    rw [clerestoryref1_SameAttrs.l0, if_neg (by omega)]
  | succ d ih =>
    intro i k hi hk
    obtain ⟨k, rfl⟩ : ∃ z, k = z + 1 := ⟨k - 1, by omega⟩
    rw [clerestoryref1_SameAttrs.l0, if_pos (by omega), if_pos (by omega), if_pos (by omega), if_neg (by simp), w1 i (by omega), ih (i + 1) k (by omega) (by omega)]
theorem sameAttrs_self (l : List S122) (hl : l.length ≤ 1000000) (k : Nat) (hk : l.length < k) : clerestoryref1_SameAttrs.f k l l = some true := by
  unfold clerestoryref1_SameAttrs.f
  rw [if_pos rfl]
  exact sameAttrs_l0 l hl l.length 0 k (by omega) hk
theorem sameNode_self (x : S43) (h2 : x.f2.length ≤ 1000) (h5 : x.f5.length ≤ 1000) (k : Nat) (hk : 1000 < k) : clerestoryref1_SameNode.f k x.f0 x.f1 x.f2 x.f3 x.f4 x.f5 x.f0 x.f1 x.f2 x.f3 x.f4 x.f5 = some true := by
  unfold clerestoryref1_SameNode.f
  rw [if_pos rfl, if_pos rfl, if_pos rfl, if_pos rfl, sameAttrs_self _ (by omega) k (by omega), Option.bind_some, if_pos rfl, sameInts_self _ (by omega) k (by omega), Option.bind_some]
theorem sameEdits_l0 (l : List S87) (hl : l.length ≤ 1000) (hs : ∀ x ∈ l, x.f6.f2 = [] ∧ x.f6.f5 = []) (d : Nat) : ∀ (i k : Nat), i + d = l.length → d + 1001 < k → clerestoryref1_SameEdits.l0 k l l (i : Int) = some true := by
  induction d with
  | zero =>
    intro i k hi hk
    obtain ⟨k, rfl⟩ : ∃ z, k = z + 1 := ⟨k - 1, by omega⟩
    rw [clerestoryref1_SameEdits.l0, if_neg (by omega)]
  | succ d ih =>
    intro i k hi hk
    obtain ⟨k, rfl⟩ : ∃ z, k = z + 1 := ⟨k - 1, by omega⟩
    have hlt : i < l.length := by omega
    have hr : q0g l (i : Int) = l[i] := by
      unfold q0g
      rw [List.getD_eq_getElem?_getD, Int.toNat_natCast, List.getElem?_eq_getElem hlt]
      rfl
    obtain ⟨h2, h5⟩ := hs _ (List.getElem_mem hlt)
    rw [clerestoryref1_SameEdits.l0, if_pos (by omega), if_pos (by omega), if_pos (by omega), hr]
    generalize l[i] = x at h2 h5 ⊢
    have hn := sameNode_self x.f6 (by rw [h2]; decide) (by rw [h5]; decide) k (by omega)
    have he : clerestoryref1_SameEdit.f k x.f0 x.f1 x.f2 x.f3 x.f4 x.f5 x.f6.f0 x.f6.f1 x.f6.f2 x.f6.f3 x.f6.f4 x.f6.f5 x.f0 x.f1 x.f2 x.f3 x.f4 x.f5 x.f6.f0 x.f6.f1 x.f6.f2 x.f6.f3 x.f6.f4 x.f6.f5 = some true := by
      unfold clerestoryref1_SameEdit.f
      rw [if_pos rfl, if_pos rfl, if_pos rfl, if_pos rfl, if_pos rfl, if_pos rfl, hn, Option.bind_some]
    rw [he, Option.bind_some, if_pos rfl, w1 i (by omega)]
    exact ih (i + 1) k (by omega) (by omega)
theorem sameEdits_self (l : List S87) (hl : l.length ≤ 1000) (hs : ∀ x ∈ l, x.f6.f2 = [] ∧ x.f6.f5 = []) (k : Nat) (hk : 2001 < k) : clerestoryref1_SameEdits.f k l l = some true := by
  unfold clerestoryref1_SameEdits.f
  rw [if_pos rfl]
  exact sameEdits_l0 l hl hs l.length 0 k (by omega) (by omega)
theorem cutK_plain (ns : List S43) (f fa t ta : Int) (g : Int → List S87) (hg : ∀ c, ∀ x ∈ g c, x.f6.f2 = [] ∧ x.f6.f5 = []) (n : Int) : ∀ (l : List Int) (i : Nat), ∀ x ∈ cutK ns f fa t ta g n i l, x.f6.f2 = [] ∧ x.f6.f5 = []
  | [], _, x, hx => by simp [cutK] at hx
  | c :: r, i, x, hx => by
    rw [cutK] at hx
    rcases List.mem_append.1 hx with hx | hx
    · by_cases c1 : touch ns f t c
      · rw [if_pos c1] at hx
        by_cases c2 : texty ns c
        · rw [if_pos c2] at hx
          unfold cutE at hx
          by_cases c3 : (leftB ns f fa t ta c).toList = ((q00 ns c).f3).toList
          · rw [if_pos c3] at hx; simp at hx
          · rw [if_neg c3, List.mem_singleton] at hx
            subst hx
            exact ⟨rfl, rfl⟩
        · rw [if_neg c2] at hx
          exact hg c x hx
      · rw [if_neg c1] at hx
        by_cases c2 : inB ns f fa t ta n i
        · rw [if_pos c2, List.mem_singleton] at hx
          subst hx
          exact ⟨rfl, rfl⟩
        · rw [if_neg c2] at hx; simp at hx
    · exact cutK_plain ns f fa t ta g hg n r (i + 1) x hx
theorem cutD_plain (ns : List S43) (f fa t ta : Int) : ∀ (d : Nat) (n : Int), ∀ x ∈ cutD ns f fa t ta d n, x.f6.f2 = [] ∧ x.f6.f5 = []
  | 0, _, x, hx => by simp [cutD] at hx
  | d + 1, n, x, hx => cutK_plain ns f fa t ta _ (fun c => cutD_plain ns f fa t ta d c) n _ 0 x hx
theorem SpanCuts : clerestorylaw1_SpanCuts.Pure := by
  intro l0 q n a m b hl _ _ _ _ _
  obtain ⟨ns, hb, _, hS, hK⟩ := brief_of_form l0 q hl
  obtain ⟨K, hKk⟩ := both_check ns q hS hK
  refine ⟨K + 400000, ?_⟩
  obtain ⟨hc, hd⟩ := hKk (K + 400000) (by omega)
  unfold clerestorylaw1_SpanCuts.f
  rw [hb _ (by omega), Option.bind_some]
  have hsp := spE_eq ns q n a m b (K + 400000) (by omega) hc
  have hse := spanErr_eq ns q n a m b (K + 400000) (by omega) hd
  by_cases c : spanE ns n a m b = 0
  · obtain ⟨hD, _, _⟩ := q1x (range_cmp c).1
    have hz : (0 : Int) < ns.length := by have := hD.some_; omega
    have hp := progCut_eq hD c q (K + 400000) (by omega)
    have hr := refCut_eq hD c q (K + 400000) (by omega)
    have hf := cut_few hD (f := n) (fa := a) (t := m) (ta := b) _ 0 (Nat.le_refl _) (Int.le_refl 0) hz
    have hsf := sub_few hD.tree (Int.le_refl 0) hz
    have hm := hD.many
    have hpl : ∀ x ∈ cutN ns n a m b 0, x.f6.f2 = [] ∧ x.f6.f5 = [] := cutD_plain ns n a m b _ 0
    have hcut : span_Cut.f (K + 400000) ns q n a m b = some (if 40 < (cutN ns n a m b 0).length then ([], 2) else (cutN ns n a m b 0, 0)) := by
      unfold span_Cut.f span_span.f
      rw [hsp, c, Option.bind_some, Option.bind_some]
      show ((span_ranger_cut.f (K + 400000) ns q 0 n a m b []).bind fun r => if 40 < r.length then some ([], 2) else some (r, 0)) = _
      rw [hp, Option.bind_some]
      split <;> rfl
    rw [hcut, Option.bind_some, hse, c, Option.bind_some, if_pos rfl, hr, Option.bind_some, begunSK _ (by omega), Option.bind_some]
    by_cases c40 : 40 < (cutN ns n a m b 0).length
    · simp only [if_pos c40]
      rw [sameEdits_self [] (by decide) (fun x hx => by simp at hx) _ (by omega), Option.bind_some]
      refine if_pos ⟨?_, ?_, ?_⟩ <;> first | rfl | trivial
    · simp only [if_neg c40]
      rw [sameEdits_self _ (by omega) hpl _ (by omega), Option.bind_some]
      refine if_pos ⟨?_, ?_, ?_⟩ <;> first | rfl | trivial
  · have hcut : span_Cut.f (K + 400000) ns q n a m b = some ([], spanE ns n a m b) := by
      unfold span_Cut.f span_span.f
      rw [hsp, Option.bind_some, Option.bind_some]
      exact if_pos c
    rw [hcut, Option.bind_some, hse, Option.bind_some, if_neg c, Option.bind_some, begunSK _ (by omega), Option.bind_some]
    have e0 : ¬ 40 < ([] : List S87).length := by decide
    simp only [if_neg e0]
    rw [sameEdits_self [] (by decide) (fun x hx => by simp at hx) _ (by omega), Option.bind_some]
    refine if_pos ⟨?_, ?_, ?_⟩ <;> first | rfl | trivial
end Go.Proofs.YthjnallbbhnndaaDoor.Pure
namespace Go.Proofs.YthjnallbbhnndaaDoor
open Go Go.Shelf Go.ChangeShapes Go.WideShapes Go.ChangeAt Go.RowKit Go.Lib
def lay2 : List (String × DataW Unit) := [("unicode/utf8.acceptRanges", Rows.laid_unicode_utf8_acceptRanges), ("unicode/utf8.first", Rows.laid_unicode_utf8_first)]
noncomputable def laidWorld (os : Os) : World :=
  let w0 := World.holding Tryd.prog os ⟨#[], #[], []⟩
  let put (h : Array Obj) (g : Nat) (cs : Array Value) : Array Obj := h.modify g fun
    | .cells _ t frozen => .cells cs t frozen
    | o => o
  let h1 := put w0.heap 1 (Lib.firstTab.map fun z => Value.int .u8 z).toArray
  let h2 := put h1 2 ((List.range 16).flatMap fun i => [Value.int .u8 (Lib.accLo i), Value.int .u8 (Lib.accHi i)]).toArray
  { w0 with heap := h2 }
theorem laid_met (os : Os) (args : Array Value) : laidMet Tryd.prog lay2 ((laidWorld os).forCall (fun _ _ => 0) ⟨#[], args, []⟩).memory :=
  (LaidIn.of_run (l := lay2) [2, 1] 8 (by kernel_rfl) (by kernel_rfl) (by kernel_rfl) (by kernel_rfl)).met
theorem own_ : ownKnob Tryd.prog.godebug = none := by kernel_rfl
theorem laidOut_ : laidOutB Tryd.prog = true := by kernel_rfl
end Go.Proofs.YthjnallbbhnndaaDoor
