/- slices.Backward over whole numbers, the iterator: whatever a loop's body does that leaves the row and the iterator's own box alone, the elements come from the last one on, each with its place. Condition: the row's length. -/
import Derived.Test.YthjnallbbhnndaaDoorG0
import Derived.RangeFuncNested
import Derived.RangeFuncBound
import Derived.RangeFuncCalls
import Derived.RangeFuncLeaves
import Derived.RangeFuncBox
import Derived.RangeFuncFrom
import Derived.RangeFuncWrites
import Derived.Shelf.Abstract
import Derived.Shelf.RegionOpen
import Derived.OwnWalkIn
import Derived.TacticsInMore
import Derived.LoopNIn
import Derived.LoopIn
import Derived.Lib.Hide
import Derived.Test.YthjnallbbhnndaaDoorProg
import Derived.Laws.Cells
import Derived.Lib.SliceRun
import Derived.Shelf.Small.Utf8
import Derived.Shelf.Small.Strs
import Derived.Shelf.Strings.Search1
import Derived.Shelf.Strings.AsciiSet
import Derived.Ground.Names2Prog
import Derived.Shelf.Strings.SlTrimAscii
import Derived.StillTailTactics
import Derived.Deep.RegionLaw
namespace Go.Proofs.YthjnallbbhnndaaDoor.Bk
open Go Go.RowKit Go.Shelf Go.Proofs Go.Proofs.YthjnallbbhnndaaDoorW.PrintWords
attribute [local go_sem] Oper.semAt_some
def RowAt (W : World) (A : Option Addr) (xs : List Int) : Prop := ∀ i : Nat, i < xs.length → ∃ ad, A = some ad ∧ W.cell? (ad.add i) = some (.int .i64 (xs.getD i 0))
def KpR (Bs : Nat) (A : Option Addr) (m : Nat) (W W' : World) : Prop := W'.heap[Bs]? = W.heap[Bs]? ∧ ∀ ad, 0 < m → A = some ad → W'.heap[ad.block]? = W.heap[ad.block]?
theorem kpR_t {Bs : Nat} {A : Option Addr} {m : Nat} {U V W : World} (h : KpR Bs A m U V) (k : KpR Bs A m V W) : KpR Bs A m U W := ⟨k.1.trans h.1, fun ad z e => (k.2 ad z e).trans (h.2 ad z e)⟩
theorem q0k (a : Addr) (n : Nat) : (a.add n).block = a.block := by unfold Addr.add; split <;> rfl
theorem cell_of_block {W W' : World} {a : Addr} (h : W'.heap[a.block]? = W.heap[a.block]?) : W'.cell? a = W.cell? a := by unfold World.cell?; rw [h]
theorem RowAt.kept {W W' : World} {A : Option Addr} {xs : List Int} (h : RowAt W A xs) (hk : ∀ ad, 0 < xs.length → A = some ad → W'.heap[ad.block]? = W.heap[ad.block]?) : RowAt W' A xs := fun i hi => by
  obtain ⟨ad, e, hc⟩ := h i hi
  exact ⟨ad, e, (cell_of_block (by rw [q0k]; exact hk ad (by omega) e)).trans hc⟩
theorem kpR_b {Bs : Nat} {A : Option Addr} {m : Nat} {w : World} (hb : Bs < w.heap.size) (hA : ∀ ad, 0 < m → A = some ad → ad.block < w.heap.size) (W : World) (l : Nat) (o o' : Obj) (hl : w.heap.size ≤ l) (_ : W.heap[l]? = some o) (_ : o.isCells = false) (_ : o.isWalk = false) : KpR Bs A m W (W.putObj l o') :=
  ⟨World.putObj_heap_other (by omega), fun ad hz e => World.putObj_heap_other (by have := hA ad hz e; omega)⟩
theorem rowat_lt {w : World} {A : Option Addr} {xs : List Int} (h : RowAt w A xs) {ad : Addr} (hz : 0 < xs.length) (e : A = some ad) : ad.block < w.heap.size := by
  obtain ⟨ad', e', hc⟩ := h 0 hz
  rw [e] at e'
  obtain rfl := Option.some.inj e'
  have := World.block_lt_of_cell? w _ hc
  rwa [q0k] at this
def dn (xs : List Int) (j : Nat) : List (Int × Int) := (List.range j).map fun t => (((xs.length - 1 - t : Nat) : Int), xs.getD (xs.length - 1 - t) 0)
theorem dn_succ (xs : List Int) (j : Nat) : dn xs (j + 1) = dn xs j ++ [(((xs.length - 1 - j : Nat) : Int), xs.getD (xs.length - 1 - j) 0)] := by simp [dn, List.range_succ]
theorem dn_length (xs : List Int) (j : Nat) : (dn xs j).length = j := by simp [dn]
theorem dn_prefix (xs : List Int) {i j : Nat} (h : i ≤ j) : dn xs i <+: dn xs j := by
  obtain ⟨k, rfl⟩ := Nat.exists_eq_add_of_le h
  unfold dn
  rw [List.range_add, List.map_append]
  exact ⟨_, rfl⟩
theorem dn_snd (xs : List Int) : (dn xs xs.length).map (·.2) = xs.reverse := by
  unfold dn
  rw [List.map_map]
  apply List.ext_getElem
  · simp
  · intro i h1 h2
    simp only [List.length_map, List.length_range, List.length_reverse] at h1 h2
    simp [List.getElem_reverse, List.getD, show xs.length - 1 - i < xs.length by omega]
set_option maxRecDepth 100000 in
set_option maxHeartbeats 2000000 in
theorem back1_in (n : Nat) (hn : 1 ≤ n) (l Bs : Nat) (A : Option Addr) (c : Nat) (xs : List Int) (hx : xs.length ≤ 4611686018427387904) (J Jx : List (Int × Int) → World → Prop)
    (hY : ∀ pre x W, J pre W → pre.length < xs.length → YieldAt Fence.wide (n - 1) Tryd.prog l #[.int .i64 x.1, .int .i64 x.2] W fun e W' =>
      (e = .returned (.bool true) ∧ J (pre ++ [x]) W' ∧ KpR Bs A xs.length W W') ∨ (e = .returned (.bool false) ∧ Jx (pre ++ [x]) W'))
    (W : World) (hb : Boxed W Bs 31 (.slice A xs.length c)) (hr : RowAt W A xs) (h0 : J [] W) :
    CallsIn Fence.wide n Tryd.prog 144 #[.func (.yield l) #[] #[], .pointer (some ⟨Bs, 0, none⟩)] W fun e W' => (∃ v, e = .returned v) ∧
      ((∃ ys, ys = dn xs xs.length ∧ J ys W') ∨ (∃ pre, pre <+: dn xs xs.length ∧ Jx pre W')) := by
  have hc0 := hb.cell
  have hw0 : wrap64 ((xs.length : Int) - 1) = (xs.length : Int) - 1 := by unfold wrap64; omega
  refine callsIn_of_wp Tryd.func144 rfl trivial ?_ rfl
  simp only [Tryd.ntmps144, List.size_toArray, List.length_cons, List.length_nil, Nat.reduceAdd, Nat.reduceSub, Array.replicate_succ, Array.replicate_zero, List.push_toArray, List.append_toArray, List.nil_append, List.cons_append]
  gi_wp2
  gi_loopw [3] (fun v wr => ∃ k : Nat, k ≤ xs.length ∧ v = .int .i64 ((k : Int) - 1) ∧ J (dn xs (xs.length - k)) wr ∧ Hid (Boxed wr Bs 31 (.slice A xs.length c)) ∧ Hid (RowAt wr A xs))
    (fun v _ => (intOf v + 1).toNat)
  case atStart => exact ⟨xs.length, Nat.le_refl _, rfl, by rw [Nat.sub_self]; exact h0, Lib.hid hb, Lib.hid hr⟩
  case round =>
    obtain ⟨k, hk, rfl, hJ, hB, hR⟩ := hrel
    cases k with
    | zero =>
      rw [show ((0 : Nat) : Int) - 1 = -1 from rfl]
      rw [Nat.sub_zero] at hJ
      gi_wp2
      go_end0
      exact ⟨⟨_, rfl⟩, .inl ⟨_, rfl, hJ⟩⟩
    | succ m =>
      rw [show ((m + 1 : Nat) : Int) - 1 = (m : Int) by omega]
      have hc := hB.out.cell
      obtain ⟨ad, hA, hcell⟩ := hR.out m (by omega)
      subst hA
      obtain ⟨v, hv⟩ : ∃ v, xs.getD m 0 = v := ⟨_, rfl⟩
      rw [hv] at hcell
      have p1 : (0 : Int) ≤ (m : Int) := Int.natCast_nonneg _
      have q1 : (m : Int) < (xs.length : Int) := by omega
      have hg : decide ((m : Int) ≥ 0) = true := decide_eq_true p1
      have hw : wrap64 ((m : Int) - 1) = (m : Int) - 1 := by unfold wrap64; omega
      have hnx : dn xs (xs.length - m) = dn xs (xs.length - (m + 1)) ++ [((m : Int), v)] := by
        rw [show xs.length - m = (xs.length - (m + 1)) + 1 by omega, dn_succ, show xs.length - 1 - (xs.length - (m + 1)) = m by omega, hv]
      have HN := Lib.hid hnx
      have HM := Lib.hid hk
      obtain ⟨fn, tmps, assign, body, hy, hRR⟩ := hY (dn xs (xs.length - (m + 1))) ((m : Int), v) wr hJ (by rw [dn_length]; omega)
      dsimp only at hy
      clear hnx hv hk
      gi_wp2
      refine hRR.mono ?_
      rintro e W3 (⟨rfl, hJ3, hk3⟩ | ⟨rfl, hJx3⟩)
      · gi_wp2
        go_roundw
        case rel => exact ⟨m, by have := HM.out; omega, by first | rfl | simp [hw], by rw [HN.out]; exact hJ3, Lib.hid (by show W3.heap[Bs]? = _; rw [hk3.1]; exact hB.out), Lib.hid (hR.out.kept hk3.2)⟩
        case measure => simp [intOf]
      · gi_wp2
        refine bodyPost_ret (results_none rfl _ _ _) rfl ?_
        exact ⟨⟨_, rfl⟩, .inr ⟨_, by rw [← HN.out]; exact dn_prefix xs (by omega), hJx3⟩⟩
set_option maxHeartbeats 1000000 in
theorem back_in (n : Nat) (A : Option Addr) (m c : Nat) (w : World) :
    CallsIn Fence.wide n Tryd.prog 122 #[.slice A m c] w fun e w' => e = .returned (.func (.func 144) #[] #[.pointer (some ⟨w.heap.size, 0, none⟩)]) ∧ w' = w.alloc (.cells #[.slice A m c] 31) := by
  refine callsIn_of_wp Tryd.func122 rfl trivial ?_ rfl
  simp only [Tryd.ntmps122, List.size_toArray, List.length_cons, List.length_nil, Nat.reduceAdd, Nat.reduceSub, Array.replicate_succ, Array.replicate_zero, List.push_toArray, List.append_toArray, List.nil_append, List.cons_append]
  gi_wp2
  go_ret
  exact ⟨rfl, rfl⟩
theorem back_stops (n : Nat) (hn : 1 ≤ n) (Bs : Nat) (A : Option Addr) (c : Nat) (xs : List Int) (hx : xs.length ≤ 4611686018427387904) (w : World) (hb : Boxed w Bs 31 (.slice A xs.length c)) (hr : RowAt w A xs) :
    SeqStopsK Fence.wide n Tryd.prog 144 #[.pointer (some ⟨Bs, 0, none⟩)] (fun x : Int × Int => #[.int .i64 x.1, .int .i64 x.2]) (KpR Bs A xs.length) (fun xs' => xs' = dn xs xs.length) (fun pre => pre <+: dn xs xs.length) xs.length w := fun l J Jx W hW _ _ hY h0 =>
  back1_in n hn l Bs A c xs hx J Jx hY W ((hW.block Bs hb.lt).trans hb) (hr.kept fun ad hz e => hW.block _ (by
    obtain ⟨ad', e', hc⟩ := hr 0 hz
    rw [e] at e'
    obtain rfl := Option.some.inj e'
    have := World.block_lt_of_cell? w _ hc
    rwa [q0k] at this)) h0
end Go.Proofs.YthjnallbbhnndaaDoor.Bk
namespace Go.Proofs.YthjnallbbhnndaaDoor.Cl
open Go Go.Proofs.YthjnallbbhnndaaDoorW.PrintWords
theorem getD_lt {α : Type} (l : List α) (i : Nat) (z : α) (h : i < l.length) : l.getD i z = l[i] := by simp [List.getD, h]
theorem mem_getD {α : Type} (l : List α) (i : Nat) (z : α) (h : i < l.length) : l.getD i z ∈ l := by
  rw [getD_lt l i z h]; exact List.getElem_mem h
def idxFrom {α : Type} (p : α → Bool) : List α → Nat → Int
  | [], _ => -1
  | x :: t, i => if p x = true then (i : Int) else idxFrom p t (i + 1)
def idxOf {α : Type} (p : α → Bool) (l : List α) : Int := idxFrom p l 0
theorem idxFrom_hit {α : Type} (p : α → Bool) (z : α) : ∀ (l : List α) (k i : Nat), k < l.length → p (l.getD k z) = true → (∀ j, j < k → p (l.getD j z) = false) → idxFrom p l i = ((i + k : Nat) : Int)
  | [], k, _, hk, _, _ => absurd hk (Nat.not_lt_zero _)
  | x :: t, 0, i, _, h, _ => by
    have : p x = true := by simpa using h
    simp [idxFrom, this]
  | x :: t, k + 1, i, hk, h, hn => by
    have h0 : p x = false := by simpa using hn 0 (Nat.succ_pos _)
    rw [idxFrom, if_neg (by simp [h0]), idxFrom_hit p z t k (i + 1) (by simpa using hk) (by simpa using h) (fun j hj => by simpa using hn (j + 1) (by omega))]
    congr 1
    omega
theorem idxFrom_miss {α : Type} (p : α → Bool) : ∀ (l : List α) (i : Nat), (∀ x ∈ l, p x = false) → idxFrom p l i = -1
  | [], _, _ => rfl
  | x :: t, i, h => by
    rw [idxFrom, if_neg (by simp [h x (by simp)]), idxFrom_miss p t (i + 1) (fun y hy => h y (List.mem_cons_of_mem _ hy))]
theorem idxOf_hit {α : Type} (p : α → Bool) (z : α) (l : List α) (k : Nat) (hk : k < l.length) (h : p (l.getD k z) = true) (hn : ∀ j, j < k → p (l.getD j z) = false) : idxOf p l = (k : Int) := by
  have := idxFrom_hit p z l k 0 hk h hn
  rwa [Nat.zero_add] at this
theorem idxOf_miss {α : Type} (p : α → Bool) (z : α) (l : List α) (h : ∀ j, j < l.length → p (l.getD j z) = false) : idxOf p l = -1 := by
  refine idxFrom_miss p l 0 fun x hx => ?_
  obtain ⟨j, hj, e⟩ := List.getElem_of_mem hx
  have := h j hj
  rwa [getD_lt l j z hj, e] at this
theorem idxFrom_any {α : Type} (p : α → Bool) : ∀ (l : List α) (i : Nat), decide (0 ≤ idxFrom p l i) = l.any p
  | [], _ => by simp [idxFrom]
  | x :: t, i => by
    rw [idxFrom, List.any_cons]
    by_cases h : p x = true
    · rw [if_pos h, h]; simp
    · rw [if_neg h, idxFrom_any p t (i + 1)]
      simp only [Bool.not_eq_true] at h
      rw [h]; simp
theorem idxOf_any {α : Type} (p : α → Bool) (l : List α) : decide (0 ≤ idxOf p l) = l.any p := idxFrom_any p l 0
theorem getC {α : Type} {d : Kd α} {w : World} {A : Option Addr} {n : Nat} {xs : List α} (h : d.C w A n xs) (z : α) (i : Nat) (h1 : i < n) :
    ∃ ad c, A = some ad ∧ c.length = d.sz ∧ d.K w (xs.getD i z) c ∧ (∀ j u, c[j]? = some u → w.cell? (ad.add (i * d.sz + j)) = some u) := by
  obtain ⟨ad, c, h2, h3, h4, h5⟩ := Kd.C_get h z (i : Int) (by omega) (by omega)
  rw [show ((i : Int)).toNat = i from rfl] at h4 h5
  exact ⟨ad, c, h2, h3, h4, h5⟩
end Go.Proofs.YthjnallbbhnndaaDoor.Cl
namespace Go.Proofs.YthjnallbbhnndaaDoor.Short
open Go Go.RowKit Go.Proofs.YthjnallbbhnndaaDoorW.PrintWords Go.Proofs.YthjnallbbhnndaaDoorW.PrintLast Go.Proofs.YthjnallbbhnndaaDoorW.PrintMore
theorem aS {p : Prop} (h : p) : Aside0 p := ⟨h⟩
set_option linter.defProp false
abbrev bA := @q0d
abbrev bN := @q0a
abbrev bD := @q0i
abbrev bS := @below_set
abbrev vA := @Kd.V_alloc
abbrev vN := @Kd.V_drewN
abbrev vD := @Kd.V_drew
abbrev nA := @Kd.N_alloc
abbrev nN := @Kd.N_drewN
abbrev nD := @Kd.N_drew
abbrev rA := @Kd.R_alloc
abbrev rN := @Kd.R_drewN
abbrev rD := @Kd.R_drew
abbrev sA := @Kd.S_alloc
abbrev sN := @Kd.S_drewN
abbrev sD := @Kd.S_drew
abbrev cA := @Kd.C_alloc
abbrev cN := @Kd.C_drewN
abbrev cD := @Kd.C_drew
abbrev kA := @blk_alloc
abbrev kN := @blk_drewN
abbrev kD := @blk_drew
abbrev od := @of_decide_eq_true
abbrev s1 := @List.setIfInBounds_toArray
abbrev s2 := @List.set_cons_zero
abbrev s3 := @List.set_cons_succ
end Go.Proofs.YthjnallbbhnndaaDoor.Short
namespace Go.Proofs.YthjnallbbhnndaaDoor.Short
open Go Go.RowKit Go.Proofs.YthjnallbbhnndaaDoorW.PrintWords
theorem iB {α β : Type} {x : Option α} {f : α → Option β} {r : β} (h : x.bind f = some r) : ∃ t, Aside0 (x = some t) ∧ f t = some r :=
  let ⟨t, a, b⟩ := Option.bind_eq_some_iff.mp h
  ⟨t, ⟨a⟩, b⟩
variable {β : Type} {a b : Option β} {r : β} {G : Prop}
theorem iG {P : Prop} [Decidable P] (h : (if P then a else b) = some r) (p : P → a = some r → G) (n : ¬ P → b = some r → G) : G := by
  by_cases c : P
  · rw [if_pos c] at h; exact p c h
  · rw [if_neg c] at h; exact n c h
theorem iGp {P : Prop} [Decidable P] (h : (if P then a else none) = some r) (p : P → a = some r → G) : G := iG h p fun _ h => absurd h (by simp)
theorem iV {t : Bool} (h : (if t = true then a else b) = some r) (p : t = true → a = some r → G) (n : t = false → b = some r → G) : G := iG h p fun c => n (Bool.eq_false_iff.mpr c)
theorem iE {α : Type} [BEq α] [LawfulBEq α] {x y : α} [Decidable (x = y)] (h : (if x = y then a else b) = some r) (p : (x == y) = true → (x != y) = false → a = some r → G) (n : ¬ x = y → (x == y) = false → (x != y) = true → b = some r → G) : G :=
  iG h (fun c => p (beq_iff_eq.mpr c) (bne_eq_false_iff_eq.mpr c)) fun c => n c (beq_eq_false_iff_ne.mpr c) (bne_iff_ne.mpr c)
theorem iT {x y : Int} (h : (if x < y then a else b) = some r) (p : decide (x < y) = true → a = some r → G) (n : decide (x < y) = false → b = some r → G) : G := iG h (fun c => p (decide_eq_true c)) fun c => n (decide_eq_false c)
theorem iTp {x y : Int} (h : (if x < y then a else none) = some r) (p : decide (x < y) = true → a = some r → G) : G := iT h p fun _ h => absurd h (by simp)
theorem iTN {x y : Int} {m n : Nat} (h : (if x < y then a else b) = some r) (e : x = m) (f : y = n) (p : decide (x < y) = true → decide (m < n) = true → a = some r → G) (q : decide (x < y) = false → decide (m < n) = false → b = some r → G) : G :=
  iG h (fun c => p (decide_eq_true c) (decide_eq_true (by omega))) fun c => q (decide_eq_false c) (decide_eq_false (by omega))
theorem iTNp {x y : Int} {m n : Nat} (h : (if x < y then a else none) = some r) (e : x = m) (f : y = n) (p : decide (x < y) = true → decide (m < n) = true → a = some r → G) : G := iTN h e f p fun _ _ h => absurd h (by simp)
theorem iL {x y : Int} (h : (if x ≤ y then a else b) = some r) (p : decide (x ≤ y) = true → a = some r → G) (n : decide (x ≤ y) = false → b = some r → G) : G := iG h (fun c => p (decide_eq_true c)) fun c => n (decide_eq_false c)
theorem iLp {x y : Int} (h : (if x ≤ y then a else none) = some r) (p : decide (x ≤ y) = true → a = some r → G) : G := iL h p fun _ h => absurd h (by simp)
theorem iLN {x y : Int} {m n : Nat} (h : (if x ≤ y then a else b) = some r) (e : x = m) (f : y = n) (p : decide (x ≤ y) = true → decide (m ≤ n) = true → a = some r → G) (q : decide (x ≤ y) = false → decide (m ≤ n) = false → b = some r → G) : G :=
  iG h (fun c => p (decide_eq_true c) (decide_eq_true (by omega))) fun c => q (decide_eq_false c) (decide_eq_false (by omega))
variable {w : World} {g : Nat} {t : TypeId} {v0 v1 v2 v3 v4 v5 v6 v7 : Value}
theorem bk2 (h : w.heap[g]? = some (.cells #[v0, v1] t (0, 0))) : w.cell? ⟨g, 0, none⟩ = some v0 ∧ w.cell? ⟨g, 1, none⟩ = some v1 ∧ w.frozen? ⟨g, 0, none⟩ = false ∧ w.frozen? ⟨g, 1, none⟩ = false :=
  ⟨(q05 h 0).trans rfl, (q05 h 1).trans rfl, q0w h 0, q0w h 1⟩
theorem bk6 (h : w.heap[g]? = some (.cells #[v0, v1, v2, v3, v4, v5] t (0, 0))) : w.cell? ⟨g, 0, none⟩ = some v0 ∧ w.cell? ⟨g, 1, none⟩ = some v1 ∧ w.cell? ⟨g, 2, none⟩ = some v2 ∧ w.cell? ⟨g, 3, none⟩ = some v3 ∧ w.cell? ⟨g, 4, none⟩ = some v4 ∧ w.cell? ⟨g, 5, none⟩ = some v5 ∧ w.frozen? ⟨g, 0, none⟩ = false ∧ w.frozen? ⟨g, 1, none⟩ = false ∧ w.frozen? ⟨g, 2, none⟩ = false ∧ w.frozen? ⟨g, 3, none⟩ = false ∧ w.frozen? ⟨g, 4, none⟩ = false ∧ w.frozen? ⟨g, 5, none⟩ = false :=
  ⟨(q05 h 0).trans rfl, (q05 h 1).trans rfl, (q05 h 2).trans rfl, (q05 h 3).trans rfl, (q05 h 4).trans rfl, (q05 h 5).trans rfl, q0w h 0, q0w h 1, q0w h 2, q0w h 3, q0w h 4, q0w h 5⟩
section
variable {A : Option Addr} {n : Nat} {w1 : World}
theorem atIA {k : IntKind} {xs : List Int} (h : (Kd.int k).C w A n xs) (i : Int) (h0 : decide (0 ≤ i) = true) (h1 : decide (i < n) = true) : ∃ ad, A = some ad ∧ w.cell? (ad.add i.toNat) = some (.int k (rd xs i)) ∧ (0 ≤ i) = True ∧ (i < n) = True :=
  let ⟨ad, e, c⟩ := Kd.at_int h i (of_decide_eq_true h0) (of_decide_eq_true h1)
  ⟨ad, e, c, eq_true (of_decide_eq_true h0), eq_true (of_decide_eq_true h1)⟩
theorem atIB {k : IntKind} {xs : List Int} (hb : Below w.heap.size w w1) (h : (Kd.int k).C w A n xs) (i : Int) (h0 : decide (0 ≤ i) = true) (h1 : decide (i < n) = true) : ∃ ad, A = some ad ∧ w1.cell? (ad.add i.toNat) = some (.int k (rd xs i)) ∧ (0 ≤ i) = True ∧ (i < n) = True :=
  let ⟨ad, e, c, a, b⟩ := atIA h i h0 h1
  ⟨ad, e, q09 hb c, a, b⟩
theorem atOA {xs : List Bool} (h : Kd.bool.C w A n xs) (i : Int) (h0 : decide (0 ≤ i) = true) (h1 : decide (i < n) = true) : ∃ ad, A = some ad ∧ w.cell? (ad.add i.toNat) = some (.bool (rdOf false xs i)) ∧ (0 ≤ i) = True ∧ (i < n) = True :=
  let ⟨ad, e, c⟩ := Kd.at_bool h i (of_decide_eq_true h0) (of_decide_eq_true h1)
  ⟨ad, e, c, eq_true (of_decide_eq_true h0), eq_true (of_decide_eq_true h1)⟩
theorem box0 {P : Program} {ops : Array Oper} {Q : Exit → Act → World → Prop} {rest : List Oper} {o : Oper} {a : Act} {w0 W : World} (hgd : o.guard = none) {N : Tmp} (_hd : o.dst = some N) {cs : Array Value} {t : TypeId}
    (hrun : (execOp a.eval o).run P W = .ok (.value (.pointer (some ⟨W.heap.size, 0, none⟩))) (W.alloc (.cells cs t (0, 0)))) (hB : Below w0.heap.size w0 W)
    (h : ∀ g w1, Aside0 (w1.heap[g]? = some (.cells cs t (0, 0))) → Aside0 (w0.heap.size ≤ g) → Aside0 (Below w0.heap.size w0 w1) → wpList P ops Q rest (a.put o.dst (.pointer (some ⟨g, 0, none⟩))) w1) : wpList P ops Q (o :: rest) a W :=
  q0n hgd _hd hrun fun g hg w1 hb hs => h g w1 ⟨hb⟩ ⟨by rw [hg]; exact q0h hB⟩ ⟨q01 hB hs⟩
end
end Go.Proofs.YthjnallbbhnndaaDoor.Short
namespace Go.Proofs
open Go.Shelf
def Tryd.lays137_ren : Go.Shelf.Ren := ⟨fun | 137 => 154 | 217 => 176 | 266 => 187 | n => n, fun | 9 => 9 | 5 => 5 | 3 => 3 | n => n, fun | n => n⟩
theorem Tryd.lays137 : Go.Proofs.Lays.n137 Tryd.prog Tryd.lays137_ren := {
  mixed := by kernel_rfl
  f137 := Tryd.func154.trans (congrArg some (by kernel_rfl))
  f217 := Tryd.func176.trans (congrArg some (by kernel_rfl))
  f266 := Tryd.func187.trans (congrArg some (by kernel_rfl))
  t3 := Tryd.underlying3
  a3 := Tryd.isAgg3
  z3 := Tryd.sizeOf3
  v3 := Tryd.zeroValue3
  t5 := Tryd.underlying5
  a5 := Tryd.isAgg5
  z5 := Tryd.sizeOf5
  v5 := Tryd.zeroValue5
  t9 := Tryd.underlying9
  a9 := Tryd.isAgg9
  z9 := Tryd.sizeOf9
  v9 := Tryd.zeroValue9 }
open Go.RowKit in
theorem Tryd.strings_IndexByte (s : ByteArray) (c : Int) (w : World) :
    Calls Tryd.prog 154 #[.string s, .int .u8 c] w fun e w' => e = .returned (.int .i64 (Lib.indexByte s.data.toList c.toNat.toUInt8)) ∧ w' = w := Any.strings_IndexByte Tryd.lays137 s c w
def Tryd.lays160_ren : Go.Shelf.Ren := ⟨fun | 160 => 177 | 232 => 189 | 231 => 188 | 227 => 190 | 234 => 192 | 233 => 191 | 236 => 194 | 235 => 193 | 228 => 196 | 271 => 198 | 151 => 95 | 197 => 197 | 120 => 200 | 152 => 133 | 260 => 199 | 137 => 154 | 119 => 155 | 224 => 156 | 225 => 157 | 217 => 176 | 266 => 187 | n => n, fun | 9 => 9 | 4 => 4 | 3 => 3 | 5 => 5 | 117 => 220 | 116 => 219 | 0 => 0 | 124 => 223 | 21 => 21 | 105 => 225 | 46 => 203 | 119 => 227 | 139 => 230 | 138 => 229 | n => n, fun | 3 => 1 | 4 => 2 | n => n⟩
theorem Tryd.lays160 : Go.Proofs.Lays.n160 Tryd.prog Tryd.lays160_ren := {
  mixed := by kernel_rfl
  f119 := Tryd.func155.trans (congrArg some (by kernel_rfl))
  f120 := Tryd.func200.trans (congrArg some (by kernel_rfl))
  f137 := Tryd.func154.trans (congrArg some (by kernel_rfl))
  f151 := Tryd.func95.trans (congrArg some (by kernel_rfl))
  f152 := Tryd.func133.trans (congrArg some (by kernel_rfl))
  f160 := Tryd.func177.trans (congrArg some (by kernel_rfl))
  f197 := Tryd.func197.trans (congrArg some (by kernel_rfl))
  f217 := Tryd.func176.trans (congrArg some (by kernel_rfl))
  f224 := Tryd.func156.trans (congrArg some (by kernel_rfl))
  f225 := Tryd.func157.trans (congrArg some (by kernel_rfl))
  f227 := Tryd.func190.trans (congrArg some (by kernel_rfl))
  f228 := Tryd.func196.trans (congrArg some (by kernel_rfl))
  f231 := Tryd.func188.trans (congrArg some (by kernel_rfl))
  f232 := Tryd.func189.trans (congrArg some (by kernel_rfl))
  f233 := Tryd.func191.trans (congrArg some (by kernel_rfl))
  f234 := Tryd.func192.trans (congrArg some (by kernel_rfl))
  f235 := Tryd.func193.trans (congrArg some (by kernel_rfl))
  f236 := Tryd.func194.trans (congrArg some (by kernel_rfl))
  f260 := Tryd.func199.trans (congrArg some (by kernel_rfl))
  f266 := Tryd.func187.trans (congrArg some (by kernel_rfl))
  f271 := Tryd.func198.trans (congrArg some (by kernel_rfl))
  t0 := Tryd.underlying0
  a0 := Tryd.isAgg0
  z0 := Tryd.sizeOf0
  v0 := Tryd.zeroValue0
  t3 := Tryd.underlying3
  a3 := Tryd.isAgg3
  z3 := Tryd.sizeOf3
  v3 := Tryd.zeroValue3
  t4 := Tryd.underlying4
  a4 := Tryd.isAgg4
  z4 := Tryd.sizeOf4
  v4 := Tryd.zeroValue4
  t5 := Tryd.underlying5
  a5 := Tryd.isAgg5
  z5 := Tryd.sizeOf5
  v5 := Tryd.zeroValue5
  t9 := Tryd.underlying9
  a9 := Tryd.isAgg9
  z9 := Tryd.sizeOf9
  v9 := Tryd.zeroValue9
  t21 := Tryd.underlying21
  a21 := Tryd.isAgg21
  z21 := Tryd.sizeOf21
  v21 := Tryd.zeroValue21
  t46 := Tryd.underlying203
  a46 := Tryd.isAgg203
  z46 := Tryd.sizeOf203
  v46 := Tryd.zeroValue203
  t105 := Tryd.underlying225
  a105 := Tryd.isAgg225
  z105 := Tryd.sizeOf225
  v105 := Tryd.zeroValue225
  t116 := Tryd.underlying219
  a116 := Tryd.isAgg219
  z116 := Tryd.sizeOf219
  t117 := Tryd.underlying220
  a117 := Tryd.isAgg220
  z117 := Tryd.sizeOf220
  v117 := Tryd.zeroValue220
  t119 := Tryd.underlying227
  a119 := Tryd.isAgg227
  z119 := Tryd.sizeOf227
  t124 := Tryd.underlying223
  a124 := Tryd.isAgg223
  z124 := Tryd.sizeOf223
  v124 := Tryd.zeroValue223
  t138 := Tryd.underlying229
  a138 := Tryd.isAgg229
  z138 := Tryd.sizeOf229
  v138 := Tryd.zeroValue229
  t139 := Tryd.underlying230
  a139 := Tryd.isAgg230
  z139 := Tryd.sizeOf230
  v139 := Tryd.zeroValue230
  g3 := by kernel_rfl
  g4 := by kernel_rfl }
open Go.RowKit Go.Lib in
theorem Tryd.strings_Trim (s cutset : ByteArray) (w : World) (hs : s.size ≤ 9223372036854775807) (hcs : cutset.size < 4294967281) (hascii : ∀ (j : Nat) b, cutset.data.toList[j]? = some b → b.toNat < 128) :
    Calls Tryd.prog 177 #[.string s, .string cutset] w fun e w' => e = .returned (.string ⟨(Lib.trimS s.data.toList cutset.data.toList).toArray⟩) ∧ Below w.heap.size w w' := Any.strings_Trim_laid Tryd.lays160 (by kernel_rfl) s cutset w hs hcs hascii
end Go.Proofs
namespace Go.Proofs.YthjnallbbhnndaaDoor.XWs
open Go.Proofs.YthjnallbbhnndaaDoor.Short Go.RowKit Go.Proofs.YthjnallbbhnndaaDoorW.PrintWords Go.Proofs.YthjnallbbhnndaaDoorW.PrintLast Go.Proofs.YthjnallbbhnndaaDoorW.PrintMore
attribute [local go_sem] max2_int min2_int max_two min_two max_three min_three max_four min_four   -- for this text's walks alone
set_option linter.unusedVariables false
set_option linter.unusedSimpArgs false
def errW : Option Int → Value
 | none => .nilIface
 | some c => .iface 0 (.int .i64 c)
theorem q04 : errW none = .nilIface := rfl
theorem q03 (c : Int) : errW (some c) = .iface 0 (.int .i64 c) := rfl
theorem info3 : (Tryd.prog.info? 3).map (fun i => (i.zero, i.size, i.bytes)) = some (some (.int .i64 0), 1, 8) := by kernel_rfl
theorem info4 : (Tryd.prog.info? 4).map (fun i => (i.zero, i.size, i.bytes)) = some (some (.bool false), 1, 1) := by kernel_rfl
theorem info43 : (Tryd.prog.info? 43).map (fun i => (i.zero, i.size, i.bytes)) = some (some (.agg #[(.int .i64 0), (.string ⟨#[]⟩), (.slice none 0 0), (.string ⟨#[]⟩), (.int .i64 0), (.slice none 0 0)]), 6, 96) := by kernel_rfl
theorem info122 : (Tryd.prog.info? 122).map (fun i => (i.zero, i.size, i.bytes)) = some (some (.agg #[(.string ⟨#[]⟩), (.string ⟨#[]⟩)]), 2, 32) := by kernel_rfl
structure S122 where
 f0 : ByteArray
 f1 : ByteArray
def z122 : S122 := ⟨(⟨#[]⟩ : ByteArray), (⟨#[]⟩ : ByteArray)⟩
def k122 : Kd S122 := Kd.iso (Kd.pair Kd.string Kd.string) (fun x : S122 => (x.f0, x.f1))
theorem k122_open {w : World} {x : S122} {cs : List Value} (h : k122.K w x cs) : cs = [.string x.f0, .string x.f1] := by
 obtain ⟨_, _, rfl, rfl, rfl⟩ := h
 exact rfl
theorem k122_mkM (w : World) (base : Nat) (ok : Nat → Prop) (x : S122)  : k122.M w base ok x [.string x.f0, .string x.f1] := ⟨[.string x.f0], [.string x.f1], rfl, rfl, rfl⟩
def q0e (xs : List S122) (i : Int) : S122 := xs.getD i.toNat z122
theorem at_T122 {w : World} {A : Option Addr} {n : Nat} {xs : List S122} (h : Kd.C k122 w A n xs) (i : Int) (h0 : 0 ≤ i) (h1 : i < n) : ∃ ad , A = some ad ∧ w.cell? (ad.add (i.toNat * 2)) = some (.string (q0e xs i).f0) ∧ w.cell? ⟨(ad.add (i.toNat * 2)).block, (ad.add (i.toNat * 2)).off + 1, none⟩ = some (.string (q0e xs i).f1) := by
 obtain ⟨ad, c, e, _, hK, hc0⟩ := Kd.C_get h z122 i h0 h1
 have hc : ∀ j u, c[j]? = some u → w.cell? (ad.add (i.toNat * 2 + j)) = some u := hc0
 obtain rfl := k122_open hK
 exact ⟨ad, e, hc 0 _ rfl, by rw [← add_field _ _ 1 (by omega)]; exact hc 1 _ rfl⟩
theorem q0u {w w1 : World} {A : Option Addr} {n : Nat} {xs : List S122} (hb : Below w.heap.size w w1) (h : Kd.C k122 w A n xs) (i : Int) (h0 : decide (0 ≤ i) = true) (h1 : decide (i < n) = true) : ∃ ad, A = some ad ∧ w1.cell? (ad.add (i.toNat * 2)) = some (.string (q0e xs i).f0) ∧ w1.cell? ⟨(ad.add (i.toNat * 2)).block, (ad.add (i.toNat * 2)).off + 1, none⟩ = some (.string (q0e xs i).f1) ∧ (0 ≤ i) = True ∧ (i < n) = True :=
 let ⟨ad, e, x0, x1⟩ := at_T122 h i (of_decide_eq_true h0) (of_decide_eq_true h1)
 ⟨ad, e, q09 hb x0, q09 hb x1, eq_true (of_decide_eq_true h0), eq_true (of_decide_eq_true h1)⟩
theorem at_T122A {w : World} {A : Option Addr} {n : Nat} {xs : List S122} (h : Kd.C k122 w A n xs) (i : Int) (h0 : decide (0 ≤ i) = true) (h1 : decide (i < n) = true) : ∃ ad, A = some ad ∧ w.cell? (ad.add (i.toNat * 2)) = some (.string (q0e xs i).f0) ∧ w.cell? ⟨(ad.add (i.toNat * 2)).block, (ad.add (i.toNat * 2)).off + 1, none⟩ = some (.string (q0e xs i).f1) ∧ (0 ≤ i) = True ∧ (i < n) = True :=
 let ⟨ad, e, x0, x1⟩ := at_T122 h i (of_decide_eq_true h0) (of_decide_eq_true h1)
 ⟨ad, e, x0, x1, eq_true (of_decide_eq_true h0), eq_true (of_decide_eq_true h1)⟩
structure S43 where
 f0 : Int
 f1 : ByteArray
 f2 : (List S122)
 f3 : ByteArray
 f4 : Int
 f5 : (List Int)
def z43 : S43 := ⟨(0 : Int), (⟨#[]⟩ : ByteArray), ([] : List S122), (⟨#[]⟩ : ByteArray), (0 : Int), ([] : List Int)⟩
def k43 : Kd S43 := Kd.iso (Kd.pair (Kd.int .i64) (Kd.pair Kd.string (Kd.pair (Kd.slice 122 k122) (Kd.pair Kd.string (Kd.pair (Kd.int .i64) (Kd.slice 3 (Kd.int .i64))))))) (fun x : S43 => (x.f0, x.f1, x.f2, x.f3, x.f4, x.f5))
theorem k43_open {w : World} {x : S43} {cs : List Value} (h : k43.K w x cs) : ∃ A2 c2 A5 c5, cs = [.int .i64 x.f0, .string x.f1, .slice A2 x.f2.length c2, .string x.f3, .int .i64 x.f4, .slice A5 x.f5.length c5] ∧ x.f2.length ≤ c2 ∧ k122.C w A2 x.f2.length x.f2 ∧ x.f5.length ≤ c5 ∧ (Kd.int .i64).C w A5 x.f5.length x.f5 := by
 obtain ⟨_, _, rfl, rfl, ⟨_, _, rfl, rfl, ⟨_, _, rfl, ⟨A2, c2, rfl, l2, g2⟩, ⟨_, _, rfl, rfl, ⟨_, _, rfl, rfl, ⟨A5, c5, rfl, l5, g5⟩⟩⟩⟩⟩⟩ := h
 exact ⟨A2, c2, A5, c5, rfl, l2, g2, l5, g5⟩
theorem k43_mk (w : World) (x : S43) {A2 : Option Addr} {c2 : Nat} (l2 : x.f2.length ≤ c2) (g2 : k122.C w A2 x.f2.length x.f2) {A5 : Option Addr} {c5 : Nat} (l5 : x.f5.length ≤ c5) (g5 : (Kd.int .i64).C w A5 x.f5.length x.f5) : k43.K w x [.int .i64 x.f0, .string x.f1, .slice A2 x.f2.length c2, .string x.f3, .int .i64 x.f4, .slice A5 x.f5.length c5] := ⟨[.int .i64 x.f0], [.string x.f1, .slice A2 x.f2.length c2, .string x.f3, .int .i64 x.f4, .slice A5 x.f5.length c5], rfl, rfl, ⟨[.string x.f1], [.slice A2 x.f2.length c2, .string x.f3, .int .i64 x.f4, .slice A5 x.f5.length c5], rfl, rfl, ⟨[.slice A2 x.f2.length c2], [.string x.f3, .int .i64 x.f4, .slice A5 x.f5.length c5], rfl, ⟨A2, c2, rfl, l2, g2⟩, ⟨[.string x.f3], [.int .i64 x.f4, .slice A5 x.f5.length c5], rfl, rfl, ⟨[.int .i64 x.f4], [.slice A5 x.f5.length c5], rfl, rfl, ⟨A5, c5, rfl, l5, g5⟩⟩⟩⟩⟩⟩
theorem k43_mkF (W : World) (ok : Nat → Prop) (x : S43) {A2 : Option Addr} {c2 : Nat} (l2 : x.f2.length ≤ c2) (g2 : Kd.F k122 W ok A2 x.f2.length x.f2) {A5 : Option Addr} {c5 : Nat} (l5 : x.f5.length ≤ c5) (g5 : Kd.F (Kd.int .i64) W ok A5 x.f5.length x.f5) : Kd.FK k43 W ok x [.int .i64 x.f0, .string x.f1, .slice A2 x.f2.length c2, .string x.f3, .int .i64 x.f4, .slice A5 x.f5.length c5] := fun W2 hW => k43_mk W2 x l2 (g2 W2 hW) l5 (g5 W2 hW)
theorem k43_mkFV (W : World) (ok : Nat → Prop) (x : S43) {v2 : Value} {b2 e2 : Nat} (g2 : Kd.V k122 e2 W b2 ok v2 x.f2) {v5 : Value} {b5 e5 : Nat} (g5 : Kd.V (Kd.int .i64) e5 W b5 ok v5 x.f5) : Kd.FK k43 W ok x [.int .i64 x.f0, .string x.f1, v2, .string x.f3, .int .i64 x.f4, v5] := by
 obtain ⟨A2, c2, rfl, l2, h2⟩ := g2
 obtain ⟨A5, c5, rfl, l5, h5⟩ := g5
 exact k43_mkF W ok x l2 h2 l5 h5
def q00 (xs : List S43) (i : Int) : S43 := xs.getD i.toNat z43
theorem at_T43 {w : World} {A : Option Addr} {n : Nat} {xs : List S43} (h : Kd.C k43 w A n xs) (i : Int) (h0 : 0 ≤ i) (h1 : i < n) : ∃ ad A2 c2 A5 c5, A = some ad ∧ w.cell? (ad.add (i.toNat * 6)) = some (.int .i64 (q00 xs i).f0) ∧ w.cell? ⟨(ad.add (i.toNat * 6)).block, (ad.add (i.toNat * 6)).off + 1, none⟩ = some (.string (q00 xs i).f1) ∧ w.cell? ⟨(ad.add (i.toNat * 6)).block, (ad.add (i.toNat * 6)).off + 2, none⟩ = some (.slice A2 (q00 xs i).f2.length c2) ∧ w.cell? ⟨(ad.add (i.toNat * 6)).block, (ad.add (i.toNat * 6)).off + 3, none⟩ = some (.string (q00 xs i).f3) ∧ w.cell? ⟨(ad.add (i.toNat * 6)).block, (ad.add (i.toNat * 6)).off + 4, none⟩ = some (.int .i64 (q00 xs i).f4) ∧ w.cell? ⟨(ad.add (i.toNat * 6)).block, (ad.add (i.toNat * 6)).off + 5, none⟩ = some (.slice A5 (q00 xs i).f5.length c5) ∧ (q00 xs i).f2.length ≤ c2 ∧ k122.C w A2 (q00 xs i).f2.length (q00 xs i).f2 ∧ (q00 xs i).f5.length ≤ c5 ∧ (Kd.int .i64).C w A5 (q00 xs i).f5.length (q00 xs i).f5 := by
 obtain ⟨ad, c, e, _, hK, hc0⟩ := Kd.C_get h z43 i h0 h1
 have hc : ∀ j u, c[j]? = some u → w.cell? (ad.add (i.toNat * 6 + j)) = some u := hc0
 obtain ⟨A2, c2, A5, c5, rfl, l2, g2, l5, g5⟩ := k43_open hK
 exact ⟨ad, A2, c2, A5, c5, e, hc 0 _ rfl, by rw [← add_field _ _ 1 (by omega)]; exact hc 1 _ rfl, by rw [← add_field _ _ 2 (by omega)]; exact hc 2 _ rfl, by rw [← add_field _ _ 3 (by omega)]; exact hc 3 _ rfl, by rw [← add_field _ _ 4 (by omega)]; exact hc 4 _ rfl, by rw [← add_field _ _ 5 (by omega)]; exact hc 5 _ rfl, l2, g2, l5, g5⟩
theorem q0m {w w1 : World} {A : Option Addr} {n : Nat} {xs : List S43} (hb : Below w.heap.size w w1) (h : Kd.C k43 w A n xs) (i : Int) (h0 : decide (0 ≤ i) = true) (h1 : decide (i < n) = true) : ∃ ad A2 c2 A5 c5, A = some ad ∧ w1.cell? (ad.add (i.toNat * 6)) = some (.int .i64 (q00 xs i).f0) ∧ w1.cell? ⟨(ad.add (i.toNat * 6)).block, (ad.add (i.toNat * 6)).off + 1, none⟩ = some (.string (q00 xs i).f1) ∧ w1.cell? ⟨(ad.add (i.toNat * 6)).block, (ad.add (i.toNat * 6)).off + 2, none⟩ = some (.slice A2 (q00 xs i).f2.length c2) ∧ w1.cell? ⟨(ad.add (i.toNat * 6)).block, (ad.add (i.toNat * 6)).off + 3, none⟩ = some (.string (q00 xs i).f3) ∧ w1.cell? ⟨(ad.add (i.toNat * 6)).block, (ad.add (i.toNat * 6)).off + 4, none⟩ = some (.int .i64 (q00 xs i).f4) ∧ w1.cell? ⟨(ad.add (i.toNat * 6)).block, (ad.add (i.toNat * 6)).off + 5, none⟩ = some (.slice A5 (q00 xs i).f5.length c5) ∧ Aside0 ((q00 xs i).f2.length ≤ c2) ∧ Aside0 (k122.C w A2 (q00 xs i).f2.length (q00 xs i).f2) ∧ Aside0 ((q00 xs i).f5.length ≤ c5) ∧ Aside0 ((Kd.int .i64).C w A5 (q00 xs i).f5.length (q00 xs i).f5) ∧ (0 ≤ i) = True ∧ (i < n) = True :=
 let ⟨ad, A2, c2, A5, c5, e, x0, x1, x2, x3, x4, x5, m0, m1, m2, m3⟩ := at_T43 h i (of_decide_eq_true h0) (of_decide_eq_true h1)
 ⟨ad, A2, c2, A5, c5, e, q09 hb x0, q09 hb x1, q09 hb x2, q09 hb x3, q09 hb x4, q09 hb x5, ⟨m0⟩, ⟨m1⟩, ⟨m2⟩, ⟨m3⟩, eq_true (of_decide_eq_true h0), eq_true (of_decide_eq_true h1)⟩
structure S24 where
 f0 : (List S43)
 f1 : Bool
def k24 : Kd S24 := Kd.iso (Kd.pair (Kd.slice 43 k43) Kd.bool) (fun x : S24 => (x.f0, x.f1))
theorem k24_open {w : World} {x : S24} {cs : List Value} (h : k24.K w x cs) : ∃ A0 c0, cs = [.slice A0 x.f0.length c0, .bool x.f1] ∧ x.f0.length ≤ c0 ∧ k43.C w A0 x.f0.length x.f0 := by
 obtain ⟨_, _, rfl, ⟨A0, c0, rfl, l0, g0⟩, rfl⟩ := h
 exact ⟨A0, c0, rfl, l0, g0⟩
def clerestorylaw1_few.f (l0_0 : List (S43)) (a0_1 : Bool) (a1 : Int) : Option ((List (S43)) × Bool) := if 0 ≤ (mn (l0_0.length : Int) a1) then (if (mn (l0_0.length : Int) a1) ≤ (l0_0.length : Int) then (some ((l0_0.take ((mn (l0_0.length : Int) a1) : Int).toNat), a0_1)) else (none)) else (none)
set_option maxHeartbeats 8000000 in
set_option maxRecDepth 100000 in
theorem clerestorylaw1_few.calls (P0_0_ : Nat → Prop) (A0_0 : Option Addr) (c0_0 : Nat) (l0_0 : List (S43)) (a0_1 : Bool) (a1 : Int) (r1 : List (S43)) (r2 : Bool) (w : World) (hs0_0 : Kd.V k43 43 w w.heap.size (fun k_ => P0_0_ k_) (.slice A0_0 l0_0.length c0_0) l0_0) (h : clerestorylaw1_few.f l0_0 a0_1 a1 = some (r1, r2)) :
 Calls Tryd.prog 15 #[.agg #[.slice A0_0 l0_0.length c0_0, .bool a0_1], .int .i64 a1] w fun e w' => ∃ v0_ : Value, e = .returned (.agg #[v0_, .bool r2]) ∧ Kd.V k43 43 w' w.heap.size (fun k_ => (P0_0_ k_ ∨ w.heap.size ≤ k_)) v0_ r1 ∧ Below w.heap.size w w' := by
 have hu24 := Tryd.underlying24
 have HO0_0 := aS (show Kd.V k43 43 w w.heap.size (fun k_ => (P0_0_ k_ ∨ w.heap.size ≤ k_)) (.slice A0_0 l0_0.length c0_0) l0_0 from Kd.V_mono hs0_0 (fun k_ hk => .inl hk))
 have HB := aS (Below.refl w.heap.size w)
 have H := h; clear h; unfold clerestorylaw1_few.f at H
 obtain ⟨ji3, hji3⟩ : ∃ j_ : Int, (mn (l0_0.length : Int) a1) = j_ := ⟨_, rfl⟩
 replace H : (if 0 ≤ (ji3) then (if (ji3) ≤ (l0_0.length : Int) then (some ((l0_0.take ((ji3) : Int).toNat), a0_1)) else (none)) else (none)) = some (r1, r2) := by first | (rw [hji3] at H; exact H) | (simp only [hji3] at H ⊢; exact H)
 have hji3_ : (if a1 < (l0_0.length : Int) then a1 else (l0_0.length : Int)) = ji3 := hji3
 refine iGp H ?_; clear H; intro c4 H
 have c4b0 := eq_true c4
 have c4b1 : decide (0 ≤ (ji3)) = true := decide_eq_true c4
 clear c4
 refine iGp H ?_; clear H; intro c5 H
 have c5b0 := eq_true c5
 have c5b1 : decide ((ji3) ≤ (l0_0.length : Int)) = true := decide_eq_true c5
 clear c5
 obtain ⟨y103, hy103⟩ : ∃ y_ : List (S43), y_ = (l0_0.take ((ji3) : Int).toNat) := ⟨_, rfl⟩
 replace H : (some (y103, a0_1)) = some (r1, r2) := by first | (rw [hy103]; with_reducible exact H) | (have H2_ := (Option.bind_some _ _).symm.trans H; rw [hy103]; with_reducible exact H2_) | (have H2_ := (Option.bind_some _ _).symm.trans H; with_reducible exact H2_) | with_reducible exact H | (rw [hy103]; exact H) | exact H
 have Ny103 := aS hy103
 clear hy103
 simp only [Option.some.injEq, Prod.mk.injEq] at H
 obtain ⟨rfl, rfl⟩ := H
 go_enter Tryd.func15, Tryd.ntmps15
 go_wp2_with (first | ((with_reducible refine q0g (N := 2) rfl ?_); refine q0n ?hg (N := 2) ?hd (cs := #[.slice A0_0 l0_0.length c0_0, .bool a0_1]) (t := 24) ?hr ?_; (case hd => rfl); (case hg => rfl); (case hr => first | (go_simp; done) | (go_simp; rfl)); intro gb101 hg w6 hbox hb; replace HO0_0 := aS (Kd.V_below (Kd.V_elderB (zf HO0_0.out) gb101 (Nat.le_of_eq hg.symm)) hb); have BK101 := aS (hbox); have GW101 := aS ((by rw [hg]; exact (q0h (z6 HB.out)) : w.heap.size ≤ gb101)); have GE101 := aS ((by rw [hg]; exact (q0h (z6 HB.out)) : w.heap.size ≤ gb101)); replace HB := aS (q01 (z6 HB.out) hb); clear hb hbox hg) | ((with_reducible refine q0g (N := 4) rfl ?_); refine q0n ?hg (N := 4) ?hd (cs := #[.slice none 0 0, .bool false]) (t := 24) ?hr ?_; (case hd => rfl); (case hg => rfl); (case hr => first | (go_simp; done) | (go_simp; rfl)); intro gb102 hg w7 hbox hb; have n0_ := aS (Kd.V_below (Kd.V_elderB (zf HO0_0.out) gb102 (Nat.le_of_eq hg.symm)) hb); have n1_ := aS (q07 (g := gb101) (o := .cells #[.slice A0_0 l0_0.length c0_0, .bool a0_1] 24 (0, 0)) (z8 BK101.out) hb); have n2_ := aS (q01 (z1 HB.out GE101.out) hb); have n3_ := aS (hbox); have n4_ := aS ((by rw [hg]; exact (q0h (z1 HB.out GE101.out)) : w.heap.size ≤ gb102)); have n5_ := aS ((by rw [hg]; exact (q0h (z1 HB.out GE101.out)) : w.heap.size ≤ gb102)); have n6_ := aS ((by rw [hg]; exact Nat.ne_of_lt (q13 (g := gb101) (o := .cells #[.slice A0_0 l0_0.length c0_0, .bool a0_1] 24 (0, 0)) (z8 BK101.out)) : gb101 ≠ gb102)); have n7_ := aS ((by rw [hg]; exact Nat.ne_of_gt (q13 (g := gb101) (o := .cells #[.slice A0_0 l0_0.length c0_0, .bool a0_1] 24 (0, 0)) (z8 BK101.out)) : gb102 ≠ gb101)); clear HO0_0; clear BK101; clear HB; have HO0_0 := n0_; have BK101 := n1_; have HB := n2_; have BK102 := n3_; have GW102 := n4_; have GE102 := n5_; have NB101_102 := n6_; have NB102_101 := n7_; clear n0_ n1_ n2_ n3_ n4_ n5_ n6_ n7_; clear hb hbox hg; have hnb8 := NB101_102.out; have hnc8 := NB102_101.out; obtain ⟨hczL_0, hczL_1, hfzL_0, hfzL_1⟩ := bk2 BK101.out; have q10 : ((ji3) : Int) ≤ ((l0_0.length : Int) : Int) := od za; obtain ⟨i010, hi010, _, hsz10, _⟩ := info_parts info43; have hroom10 : l0_0.length ≤ c0_0 := (Kd.V_reads' HO0_0.out).2.1; have hC10 : Kd.F k43 _ _ A0_0 l0_0.length l0_0 := (Kd.V_at (base := w.heap.size) HO0_0.out).2.2; have hcut10 := cut_to (P := Tryd.prog) 22 43 .i64 Tryd.underlying22 hi010 A0_0 l0_0.length c0_0 (ji3) (od za) q10 hroom10; have hr10 := Kd.F_take (m := ((ji3) : Int).toNat) hC10 (by omega); have hy10 : y103.length = ((ji3) : Int).toNat := (by rw [Ny103.out, List.length_take]; omega); rw [← Ny103.out] at hr10; rw [← hy10] at hcut10; have HO107 := aS (show Kd.V k43 43 _ w.heap.size _ (.slice A0_0 y103.length c0_0) y103 from Kd.V_mk (by omega) hr10); have HC107 := aS (show y103.length ≤ c0_0 from by omega); clear hr10 hC10 hroom10 hi010 hsz10; have KY10 := aS hy10; clear hy10; replace q10 := eq_true q10; obtain ⟨hczL_0, hczL_1, hfzL_0, hfzL_1⟩ := bk2 BK102.out))
 refine bodyPost_ret (results_cell_row rfl _ _ gb102 24 #[.slice A0_0 y103.length c0_0, .bool a0_1] (0, 0) _ rfl (by (with_reducible repeat (first | refine kN ?_ _ | refine kD ?_ | refine kA ?_ _)); refine q0t (cs := #[.slice A0_0 y103.length c0_0, .bool false]) ?_ 1 _ rfl; (with_reducible repeat (first | refine kN ?_ _ | refine kD ?_ | refine kA ?_ _)); refine q0t (cs := #[.slice none 0 0, .bool false]) ?_ 0 _ rfl; (with_reducible repeat (first | refine kN ?_ _ | refine kD ?_ | refine kA ?_ _)); refine q0o ?_ NB102_101.out _; (with_reducible repeat (first | refine kN ?_ _ | refine kD ?_ | refine kA ?_ _)); exact BK102.out) Tryd.underlying24 rfl (by kernel_rfl)) rfl ?_
 exact ⟨_, by first | rfl | (simp [q04, q03] <;> rfl) | (simp only [← hji3]; first | rfl | (simp [q04, q03] <;> rfl)) | (simp [*, q04, q03] <;> rfl), by (with_reducible repeat (first | apply vA | apply vN | apply vD)); exact Kd.V_mono (Kd.V_far (p := ⟨gb102, 1, none⟩) (Kd.V_far (p := ⟨gb102, 0, none⟩) (Kd.V_far (p := ⟨gb101, 0, none⟩) (Kd.V_mono (Kd.V_mono HO107.out (fun k_ hk => (⟨hk, hk.1.2⟩ : _ ∧ k_ ≠ gb101))) (fun k_ hk => (⟨hk, hk.1.2⟩ : _ ∧ k_ ≠ gb102))) (fun _ hk => hk.1.2) (.slice A0_0 y103.length c0_0)) (fun _ hk => hk.2) (.slice A0_0 y103.length c0_0)) (fun _ hk => hk.2) (.bool a0_1)) (fun _ hk => hk.1.1.1.1), by repeat (first | (with_reducible first | exact HB.out | apply bA | apply bN | apply bD | refine bS ?_ GE101.out | refine bS ?_ GE102.out) | exact HB.out)⟩
def clerestoryref1_Deep.l0 : Nat → Int → Int → List (S43) → Bool → Option (Int)
 | 0, _, _, _, _ => none
 | k + 1, x1, x5, x109000, x109001 => if 0 ≤ x1 then (if x1 < (x109000.length : Int) then (if ((q00 x109000 x1).f4) ≥ 0 then (if (wrap64 (x5 + 1)) > (x109000.length : Int) then (some (-1)) else (clerestoryref1_Deep.l0 k ((q00 x109000 x1).f4) (wrap64 (x5 + 1)) x109000 x109001)) else (some x5)) else (none)) else (none)
def clerestoryref1_Deep.f (k : Nat) (l0_0 : List (S43)) (a0_1 : Bool) (a1 : Int) : Option (Int) := clerestoryref1_Deep.l0 k a1 0 l0_0 a0_1
set_option maxHeartbeats 8000000 in
set_option maxRecDepth 100000 in
theorem clerestoryref1_Deep.calls (k : Nat) (A0_0 : Option Addr) (c0_0 : Nat) (l0_0 : List (S43)) (a0_1 : Bool) (a1 : Int) (r : Int) (w : World) (hr0_0 : Kd.C k43 w A0_0 l0_0.length l0_0) (hc0_0 : l0_0.length ≤ c0_0) (h : clerestoryref1_Deep.f k l0_0 a0_1 a1 = some r) :
 Calls Tryd.prog 65 #[.agg #[.slice A0_0 l0_0.length c0_0, .bool a0_1], .int .i64 a1] w fun e w' => e = .returned (.int .i64 r) ∧ Below w.heap.size w w' := by
 have hu24 := Tryd.underlying24
 have HR0_0 := aS hr0_0
 have HC0_0 := aS hc0_0
 clear hr0_0 hc0_0
 have HB := aS (Below.refl w.heap.size w)
 have H := h; clear h; unfold clerestoryref1_Deep.f at H
 have H' := aS H
 clear H
 go_enter Tryd.func65, Tryd.ntmps65
 go_wp2_with (first | ((with_reducible refine q0g (N := 2) rfl ?_); refine box0 rfl (N := 2) rfl (cs := #[.slice A0_0 l0_0.length c0_0, .bool a0_1]) (t := 24) zi (z6 HB.out) ?_; clear HB; intro gb108 w3 BK108 GW108 HB; have GE108 := GW108))
 go_loopg [1, 5] k (fun kq v1 v5 w' => ∃ (x1_1 : Int) (x5_1 : Int), v1 = .int .i64 x1_1 ∧ v5 = .int .i64 x5_1 ∧ Aside0 (clerestoryref1_Deep.l0 kq x1_1 x5_1 l0_0 a0_1 = some r) ∧ Aside0 (kq ≤ k) ∧ Aside0 (w'.heap[gb108]? = some (.cells #[(.slice A0_0 l0_0.length c0_0), .bool a0_1] 24 (0, 0))) ∧ Aside0 (Below w.heap.size w w'))
 case atStart => exact ⟨(a1), (0), zj, zj, H', ⟨Nat.le_refl _⟩, ⟨by (with_reducible repeat (first | refine kN ?_ _ | refine kD ?_ | refine kA ?_ _)); exact BK108.out⟩, ⟨by repeat (first | (with_reducible first | exact HB.out | apply bA | apply bN | apply bD | refine bS ?_ GE108.out) | exact HB.out)⟩⟩
 case round =>
  clear H'
  obtain ⟨x1_1, x5_1, rfl, rfl, HA, HK1, BK108, HB⟩ := hrel
  cases gk with
  | zero => exact absurd HA.out (by simp [clerestoryref1_Deep.l0])
  | succ k1 =>
   have H := HA.out
   clear HA
   simp only [clerestoryref1_Deep.l0] at H
   obtain ⟨hczL_0, hczL_1, hfzL_0, hfzL_1⟩ := bk2 BK108.out
   refine iLp H ?_; clear H; intro c4b0 H
   refine iTp H ?_; clear H; intro c5b0 H
   obtain ⟨ad109, A109_2, c109_2, A109_5, c109_5, e109, hx109_0, hx109_1, hx109_2, hx109_3, hx109_4, hx109_5, HC109_2, HR109_2, HC109_5, HR109_5, p109, q109⟩ := q0m HB.out HR0_0.out x1_1 za za
   cases e109
   refine iL H ?p6 ?n6 <;> clear H
   case' p6 =>
    intro c6b0 H
    obtain ⟨ad110, A110_2, c110_2, A110_5, c110_5, e110, hx110_0, hx110_1, hx110_2, hx110_3, hx110_4, hx110_5, HC110_2, HR110_2, HC110_5, HR110_5, p110, q110⟩ := q0m HB.out HR0_0.out x1_1 za za
    obtain rfl : ad109 = ad110 := (by injection e110)
    refine iT H ?p7 ?n7 <;> clear H
   case' p7 => intro c7b0 H
   case' n7 => intro c7b0 H
   case' n6 => intro c6b0 H
   case p7 =>
    obtain rfl := Option.some.inj H
    have ea_ := Option.some.inj (hx109_2.symm.trans hx110_2)
    injection ea_ with ea_ en_ ec_
    subst ea_
    subst ec_
    clear en_
    have ea_ := Option.some.inj (hx109_5.symm.trans hx110_5)
    injection ea_ with ea_ en_ ec_
    subst ea_
    subst ec_
    clear en_
    go_wp2
    go_ret
    exact ⟨by first | rfl | (simp [q04, q03] <;> rfl) | (simp [*, q04, q03] <;> rfl), by repeat (first | (with_reducible first | exact HB.out | apply bA | apply bN | apply bD | refine bS ?_ GE108.out) | exact HB.out)⟩
   case n7 =>
    have H' := aS H
    clear H
    have ea_ := Option.some.inj (hx109_2.symm.trans hx110_2)
    injection ea_ with ea_ en_ ec_
    subst ea_
    subst ec_
    clear en_
    have ea_ := Option.some.inj (hx109_5.symm.trans hx110_5)
    injection ea_ with ea_ en_ ec_
    subst ea_
    subst ec_
    clear en_
    go_wp2
    go_roundg k1
    case measure => have := HK1.out; omega
    case rel => exact ⟨((q00 l0_0 x1_1).f4), (wrap64 (x5_1 + 1)), zj, zj, H', ⟨by have := HK1.out; omega⟩, ⟨by (with_reducible repeat (first | refine kN ?_ _ | refine kD ?_ | refine kA ?_ _)); exact BK108.out⟩, ⟨by repeat (first | (with_reducible first | exact HB.out | apply bA | apply bN | apply bD | refine bS ?_ GE108.out) | exact HB.out)⟩⟩
   case n6 =>
    obtain rfl := Option.some.inj H
    go_wp2
    go_ret
    exact ⟨by first | rfl | (simp [q04, q03] <;> rfl) | (simp [*, q04, q03] <;> rfl), by repeat (first | (with_reducible first | exact HB.out | apply bA | apply bN | apply bD | refine bS ?_ GE108.out) | exact HB.out)⟩
def clerestoryref1_AttrOf.l0 : Nat → List (S122) → ByteArray → Int → Option (ByteArray × Bool)
 | 0, _, _, _ => none
 | k + 1, x0, x1, x6 => if x6 < (x0.length : Int) then (if 0 ≤ x6 then (if ((q0e x0 x6).f0).toList = x1.toList then (some ((q0e x0 x6).f1, true)) else (clerestoryref1_AttrOf.l0 k x0 x1 (wrap64 (x6 + 1)))) else (none)) else (some ((⟨#[]⟩ : ByteArray), false))
def clerestoryref1_AttrOf.f (k : Nat) (l0 : List (S122)) (a1 : ByteArray) : Option (ByteArray × Bool) := clerestoryref1_AttrOf.l0 k l0 a1 0
set_option maxHeartbeats 8000000 in
set_option maxRecDepth 100000 in
theorem clerestoryref1_AttrOf.calls (k : Nat) (A0 : Option Addr) (c0 : Nat) (l0 : List (S122)) (a1 : ByteArray) (r1 : ByteArray) (r2 : Bool) (w : World) (hr0 : Kd.C k122 w A0 l0.length l0) (hc0 : l0.length ≤ c0) (h : clerestoryref1_AttrOf.f k l0 a1 = some (r1, r2)) :
 Calls Tryd.prog 64 #[.slice A0 l0.length c0, .string a1] w fun e w' => e = .returned (.tuple #[.string r1, .bool r2]) ∧ Drawn0 w w' := by
 have HR0 := aS hr0
 have HC0 := aS hc0
 clear hr0 hc0
 have H := h; clear h; unfold clerestoryref1_AttrOf.f at H
 have H' := aS H
 clear H
 go_enter Tryd.func64, Tryd.ntmps64
 go_wp2
 go_loopg [6] k (fun kq v6 w' => ∃ (x6_1 : Int), v6 = .int .i64 x6_1 ∧ Aside0 (clerestoryref1_AttrOf.l0 kq l0 a1 x6_1 = some (r1, r2)) ∧ Aside0 (kq ≤ k) ∧ Drawn0 w w')
 case atStart => exact ⟨(0), zj, H', ⟨Nat.le_refl _⟩, by repeat (first | exact Drawn0.refl _ | apply Drawn0.step)⟩
 case round =>
  clear H'
  obtain ⟨x6_1, rfl, HA, HK1, ⟨m1, rfl⟩⟩ := hrel
  cases gk with
  | zero => exact absurd HA.out (by simp [clerestoryref1_AttrOf.l0])
  | succ k1 =>
   have H := HA.out
   clear HA
   simp only [clerestoryref1_AttrOf.l0] at H
   refine iT H ?p3 ?n3 <;> clear H
   case' p3 =>
    intro c3b0 H
    refine iLp H ?_; clear H; intro c4b0 H
    obtain ⟨ad111, e111, hx111_0, hx111_1, p111, q111⟩ := at_T122A HR0.out x6_1 za za
    cases e111
    refine iE H ?p5 ?n5 <;> clear H
   case' p5 => intro c5b0 c5b1 H
   case' n5 => intro c5 c5b0 c5b1 H
   case' n3 => intro c3b0 H
   case p5 =>
    simp only [Option.some.injEq, Prod.mk.injEq] at H
    obtain ⟨rfl, rfl⟩ := H
    obtain ⟨ad112, e112, hx112_0, hx112_1, p112, q112⟩ := at_T122A HR0.out x6_1 za za
    obtain rfl : ad111 = ad112 := (by injection e112)
    go_wp2
    go_ret2
    exact ⟨by first | rfl | (simp; done) | (simp [*]; done), by repeat (first | exact Drawn0.refl _ | apply Drawn0.step)⟩
   case n5 =>
    have H' := aS H
    clear H
    go_wp2
    go_roundg k1
    case measure => have := HK1.out; omega
    case rel => exact ⟨(wrap64 (x6_1 + 1)), zj, H', ⟨by have := HK1.out; omega⟩, by repeat (first | exact Drawn0.refl _ | apply Drawn0.step)⟩
   case n3 =>
    simp only [Option.some.injEq, Prod.mk.injEq] at H
    obtain ⟨rfl, rfl⟩ := H
    go_wp2
    go_ret2
    exact ⟨by first | rfl | (simp; done) | (simp [*]; done), by repeat (first | exact Drawn0.refl _ | apply Drawn0.step)⟩
def clerestoryref1_between.f (a0 : Int) (a1 : Int) (a2 : Int) : Option (Bool) := if a0 ≥ a1 then (some (decide (a0 ≤ a2))) else (some false)
set_option maxHeartbeats 8000000 in
set_option maxRecDepth 100000 in
theorem clerestoryref1_between.calls (a0 : Int) (a1 : Int) (a2 : Int) (r : Bool) (w : World) (h : clerestoryref1_between.f a0 a1 a2 = some r) :
 Calls Tryd.prog 73 #[.int .i64 a0, .int .i64 a1, .int .i64 a2] w fun e w' => e = .returned (.bool r) ∧ Drawn0 w w' := by
 have H := h; clear h; unfold clerestoryref1_between.f at H
 refine iL H ?p4 ?n4 <;> clear H
 case' p4 => intro c4b0 H
 case' n4 => intro c4b0 H
 case p4|n4 =>
  obtain rfl := Option.some.inj H
  go_enter Tryd.func73, Tryd.ntmps73
  go_wp2
  go_ret
  exact ⟨by first | rfl | (simp; done) | (simp [*]; done), by repeat (first | exact Drawn0.refl _ | apply Drawn0.step)⟩
mutual
def clerestoryref1_domName.j0 : Nat → ByteArray → Bool → Bool → Option (Bool)
 | 0, _, _, _ => none
 | k + 1, x0, x1, x15 => if x15 = true then (some false) else (clerestoryref1_domName.l0 k x0 x1 0)
def clerestoryref1_domName.l0 : Nat → ByteArray → Bool → Int → Option (Bool)
 | 0, _, _, _ => none
 | k + 1, x0, x1, x5 => if x5 < (x0.size : Int) then (if 0 ≤ x5 then (if (bt x0 x5) ≥ 97 then (clerestoryref1_domName.j2 k x0 x1 x5 (bt x0 x5) (decide ((bt x0 x5) ≤ 122))) else (clerestoryref1_domName.j2 k x0 x1 x5 (bt x0 x5) false)) else (none)) else (some true)
def clerestoryref1_domName.j2 : Nat → ByteArray → Bool → Int → Int → Bool → Option (Bool)
 | 0, _, _, _, _, _ => none
 | k + 1, x0, x1, x5, x6, x7 => if x7 = true then (clerestoryref1_domName.j3 k x0 x1 x5 x6 x7 false) else (if x6 ≥ 48 then (if x6 ≤ 57 then (clerestoryref1_domName.j3 k x0 x1 x5 x6 x7 false) else (if x6 = 45 then (clerestoryref1_domName.j3 k x0 x1 x5 x6 x7 false) else (if x6 = 95 then (clerestoryref1_domName.j3 k x0 x1 x5 x6 x7 false) else (clerestoryref1_domName.j3 k x0 x1 x5 x6 x7 (x6 != 58))))) else (if x6 = 45 then (clerestoryref1_domName.j3 k x0 x1 x5 x6 x7 false) else (if x6 = 95 then (clerestoryref1_domName.j3 k x0 x1 x5 x6 x7 false) else (clerestoryref1_domName.j3 k x0 x1 x5 x6 x7 (x6 != 58)))))
def clerestoryref1_domName.j3 : Nat → ByteArray → Bool → Int → Int → Bool → Bool → Option (Bool)
 | 0, _, _, _, _, _, _ => none
 | k + 1, x0, x1, x5, x6, x7, x53 => if x53 = true then (some false) else (if x5 = 0 then (if x7 = true then (clerestoryref1_domName.l0 k x0 x1 (wrap64 (x5 + 1))) else (if x1 = true then (some false) else (if x6 = 45 then (clerestoryref1_domName.l0 k x0 x1 (wrap64 (x5 + 1))) else (if x6 = 95 then (clerestoryref1_domName.l0 k x0 x1 (wrap64 (x5 + 1))) else (some false))))) else (clerestoryref1_domName.l0 k x0 x1 (wrap64 (x5 + 1))))
end
def clerestoryref1_domName.f (k : Nat) (a0 : ByteArray) (a1 : Bool) : Option (Bool) := if (a0.size : Int) < 1 then (clerestoryref1_domName.j0 k a0 a1 true) else (clerestoryref1_domName.j0 k a0 a1 (decide ((a0.size : Int) > 40)))
set_option maxHeartbeats 8000000 in
set_option maxRecDepth 100000 in
theorem clerestoryref1_domName.calls (k : Nat) (a0 : ByteArray) (a1 : Bool) (r : Bool) (w : World) (h : clerestoryref1_domName.f k a0 a1 = some r) :
 Calls Tryd.prog 120 #[.string a0, .bool a1] w fun e w' => e = .returned (.bool r) ∧ Drawn0 w w' := by
 have H := h; clear h; unfold clerestoryref1_domName.f at H
 have HC3 := aS H
 clear H
 go_enter Tryd.func120, Tryd.ntmps120
 go_upto_region 1 with (fail)
 go_cut [15] (fun v15 wc => ∃ (kq : Nat) (x15_2 : Bool), v15 = .bool x15_2 ∧ Aside0 (clerestoryref1_domName.j0 kq a0 a1 x15_2 = some r) ∧ Aside0 (kq ≤ k) ∧ Drawn0 w wc)
 case first =>
  have H := HC3.out
  clear HC3
  refine iTN (m := a0.size) (n := 1) H rfl rfl ?p4 ?n4 <;> clear H
  case' p4 => intro c4b0 c4b1 H
  case' n4 => intro c4b0 c4b1 H
  case p4 =>
   (first | rw [c4b0] | (simp only [q0p, q0r]; rw [c4b0]) | skip)
   have H' := aS H
   clear H
   go_wp2
   go_meet
   case rel => exact ⟨_, _, zj, H', ⟨by first | omega | exact Nat.le_refl _⟩, by repeat (first | exact Drawn0.refl _ | apply Drawn0.step)⟩
  case n4 =>
   (first | rw [c4b0] | (simp only [q0p, q0r]; rw [c4b0]) | skip)
   have H' := aS H
   clear H
   go_wp2
   go_meet
   case rel => exact ⟨_, (decide ((a0.size : Int) > 40)), zj, H', ⟨by first | omega | exact Nat.le_refl _⟩, by repeat (first | exact Drawn0.refl _ | apply Drawn0.step)⟩
 case rest =>
  clear HC3
  obtain ⟨kq, x15_2, rfl, HA, HJ2, ⟨mc2, rfl⟩⟩ := hcut
  cases kq with
  | zero => exact absurd HA.out (by simp [clerestoryref1_domName.j0])
  | succ kj2 =>
   have H := HA.out
   clear HA
   simp only [clerestoryref1_domName.j0] at H
   refine iV H ?p5 ?n5 <;> clear H
   case' p5 => intro c5 H; subst c5
   case' n5 => intro c5 H; subst c5
   case p5 =>
    obtain rfl := Option.some.inj H
    go_wp2
    go_ret
    exact ⟨by first | rfl | (simp; done) | (simp [*]; done), by repeat (first | exact Drawn0.refl _ | apply Drawn0.step)⟩
   case n5 =>
    have H' := aS H
    clear H
    go_wp2
    go_loopg [5] kj2 (fun kq v5 w' => ∃ (x5_2 : Int), v5 = .int .i64 x5_2 ∧ Aside0 (clerestoryref1_domName.l0 kq a0 a1 x5_2 = some r) ∧ Aside0 (kq ≤ kj2) ∧ Drawn0 w w')
    case atStart => exact ⟨(0), zj, H', ⟨Nat.le_refl _⟩, by repeat (first | exact Drawn0.refl _ | apply Drawn0.step)⟩
    case round =>
     clear H'
     obtain ⟨x5_2, rfl, HA, HK2, ⟨m2, rfl⟩⟩ := hrel
     cases gk with
     | zero => exact absurd HA.out (by simp [clerestoryref1_domName.l0])
     | succ k2 =>
      have H := HA.out
      clear HA
      simp only [clerestoryref1_domName.l0] at H
      refine iT H ?p6 ?n6 <;> clear H
      case' p6 => intro c6b0 H; refine iLp H ?_; clear H; intro c7b0 H
      case' n6 => intro c6b0 H
      case p6 =>
       have HC9 := aS H
       clear H
       have p8 : 0 ≤ (x5_2 : Int) := od za
       have q8 : x5_2 < (a0.size : Int) := od za
       have hx8 := bt_at a0 x5_2
       replace p8 := eq_true p8
       replace q8 := eq_true q8
       go_upto_region 7 with (fail)
       go_cut [7] (fun v7 wc => ∃ (kq : Nat) (x7_8 : Bool), v7 = .bool x7_8 ∧ Aside0 (clerestoryref1_domName.j2 kq a0 a1 x5_2 (bt a0 x5_2) x7_8 = some r) ∧ Aside0 (kq ≤ k2) ∧ Drawn0 w wc)
       case first =>
        have H := HC9.out
        clear HC9
        refine iL H ?p10 ?n10 <;> clear H
        case' p10 => intro c10b0 H
        case' n10 => intro c10b0 H
        case p10 =>
         (first | rw [c10b0] | (simp only [q0p, q0r]; rw [c10b0]) | skip)
         have H' := aS H
         clear H
         go_wp2
         go_meet
         case rel => exact ⟨_, (decide ((bt a0 x5_2) ≤ 122)), zj, H', ⟨by have := HJ2.out; have := HK2.out; first | omega | exact Nat.le_refl _⟩, by repeat (first | exact Drawn0.refl _ | apply Drawn0.step)⟩
        case n10 =>
         (first | rw [c10b0] | (simp only [q0p, q0r]; rw [c10b0]) | skip)
         have H' := aS H
         clear H
         go_wp2
         go_meet
         case rel => exact ⟨_, _, zj, H', ⟨by have := HJ2.out; have := HK2.out; first | omega | exact Nat.le_refl _⟩, by repeat (first | exact Drawn0.refl _ | apply Drawn0.step)⟩
       case rest =>
        clear HC9
        obtain ⟨kq, x7_8, rfl, HA, HJ8, ⟨mc8, rfl⟩⟩ := hcut
        cases kq with
        | zero => exact absurd HA.out (by simp [clerestoryref1_domName.j2])
        | succ kj8 =>
         have H := HA.out
         clear HA
         simp only [clerestoryref1_domName.j2] at H
         have HC11 := aS H
         clear H
         go_upto_region 8 with (fail)
         go_cut [53] (fun v53 wc => ∃ (kq : Nat) (x53_10 : Bool), v53 = .bool x53_10 ∧ Aside0 (clerestoryref1_domName.j3 kq a0 a1 x5_2 (bt a0 x5_2) x7_8 x53_10 = some r) ∧ Aside0 (kq ≤ kj8) ∧ Drawn0 w wc)
         case first =>
          have H := HC11.out
          clear HC11
          refine iV H ?p12 ?n12 <;> clear H
          case' p12 => intro c12 H; subst c12
          case' n12 => intro c12 H; subst c12; refine iL H ?p13 ?n13 <;> clear H
          case' p13 => intro c13b0 H; (first | rw [c13b0] | (simp only [q0p, q0r]; rw [c13b0]) | skip); refine iL H ?p14 ?n14 <;> clear H
          case' p14 => intro c14b0 H
          case' n14 => intro c14b0 H; refine iE H ?p15 ?n15 <;> clear H
          case' p15 => intro c15b0 c15b1 H
          case' n15 => intro c15 c15b0 c15b1 H; refine iE H ?p16 ?n16 <;> clear H
          case' p16 => intro c16b0 c16b1 H
          case' n16 => intro c16 c16b0 c16b1 H
          case' n13 => intro c13b0 H; (first | rw [c13b0] | (simp only [q0p, q0r]; rw [c13b0]) | skip); refine iE H ?p17 ?n17 <;> clear H
          case' p17 => intro c17b0 c17b1 H
          case' n17 => intro c17 c17b0 c17b1 H; refine iE H ?p18 ?n18 <;> clear H
          case' p18 => intro c18b0 c18b1 H
          case' n18 => intro c18 c18b0 c18b1 H
          case p12|p14|p15|p16|p17|p18 =>
           have H' := aS H
           clear H
           go_wp2
           go_meet
           case rel => exact ⟨_, _, zj, H', ⟨by have := HJ2.out; have := HK2.out; have := HJ8.out; first | omega | exact Nat.le_refl _⟩, by repeat (first | exact Drawn0.refl _ | apply Drawn0.step)⟩
          case n16|n18 =>
           have H' := aS H
           clear H
           go_wp2
           go_meet
           case rel => exact ⟨_, (((bt a0 x5_2) != 58)), zj, H', ⟨by have := HJ2.out; have := HK2.out; have := HJ8.out; first | omega | exact Nat.le_refl _⟩, by repeat (first | exact Drawn0.refl _ | apply Drawn0.step)⟩
         case rest =>
          clear HC11
          obtain ⟨kq, x53_10, rfl, HA, HJ10, ⟨mc10, rfl⟩⟩ := hcut
          cases kq with
          | zero => exact absurd HA.out (by simp [clerestoryref1_domName.j3])
          | succ kj10 =>
           have H := HA.out
           clear HA
           simp only [clerestoryref1_domName.j3] at H
           refine iV H ?p19 ?n19 <;> clear H
           case' p19 => intro c19 H; subst c19
           case' n19 => intro c19 H; subst c19; refine iE H ?p20 ?n20 <;> clear H
           case' p20 => intro c20b0 c20b1 H; refine iV H ?p21 ?n21 <;> clear H
           case' p21 => intro c21 H; subst c21
           case' n21 => intro c21 H; subst c21; refine iV H ?p22 ?n22 <;> clear H
           case' p22 => intro c22 H; subst c22
           case' n22 => intro c22 H; subst c22; refine iE H ?p23 ?n23 <;> clear H
           case' p23 => intro c23b0 c23b1 H
           case' n23 => intro c23 c23b0 c23b1 H; refine iE H ?p24 ?n24 <;> clear H
           case' p24 => intro c24b0 c24b1 H
           case' n24 => intro c24 c24b0 c24b1 H
           case' n20 => intro c20 c20b0 c20b1 H
           case p19|p22|n24 =>
            obtain rfl := Option.some.inj H
            go_wp2
            go_ret
            exact ⟨by first | rfl | (simp; done) | (simp [*]; done), by repeat (first | exact Drawn0.refl _ | apply Drawn0.step)⟩
           case p21|p23|p24|n20 =>
            have H' := aS H
            clear H
            go_wp2
            go_roundg kj10
            case measure => have := HJ2.out; have := HK2.out; have := HJ8.out; have := HJ10.out; omega
            case rel => exact ⟨(wrap64 (x5_2 + 1)), zj, H', ⟨by have := HJ2.out; have := HK2.out; have := HJ8.out; have := HJ10.out; omega⟩, by repeat (first | exact Drawn0.refl _ | apply Drawn0.step)⟩
      case n6 =>
       obtain rfl := Option.some.inj H
       go_wp2
       go_ret
       exact ⟨by first | rfl | (simp; done) | (simp [*]; done), by repeat (first | exact Drawn0.refl _ | apply Drawn0.step)⟩
mutual
def clerestoryref1_NodeErr.j0 : Nat → Bool → Int → ByteArray → List (S122) → ByteArray → Int → List Int → Option (Int)
 | 0, _, _, _, _, _, _, _ => none
 | k + 1, x59, x114000, x114001, x114002, x114003, x114004, x114005 => if x59 = true then (some 7) else (if x114000 = 2 then ((clerestoryref1_domName.f k x114001 true).bind fun t115 => (clerestoryref1_NodeErr.j1 k (!t115) x114000 x114001 x114002 x114003 x114004 x114005)) else (clerestoryref1_NodeErr.j1 k false x114000 x114001 x114002 x114003 x114004 x114005))
def clerestoryref1_NodeErr.j1 : Nat → Bool → Int → ByteArray → List (S122) → ByteArray → Int → List Int → Option (Int)
 | 0, _, _, _, _, _, _, _ => none
 | k + 1, x68, x114000, x114001, x114002, x114003, x114004, x114005 => if x68 = true then (some 3) else (if (x114002.length : Int) > 12 then (some 2) else (clerestoryref1_NodeErr.l0 k 0 x114000 x114001 x114002 x114003 x114004 x114005))
def clerestoryref1_NodeErr.l0 : Nat → Int → Int → ByteArray → List (S122) → ByteArray → Int → List Int → Option (Int)
 | 0, _, _, _, _, _, _, _ => none
 | k + 1, x3, x114000, x114001, x114002, x114003, x114004, x114005 => if x3 < (x114002.length : Int) then (if 0 ≤ x3 then ((clerestoryref1_domName.f k ((q0e x114002 x3).f0) false).bind fun t117 => (if t117 = true then (if (((q0e x114002 x3).f1).size : Int) > 400 then (some 2) else (if x3 ≤ (x114002.length : Int) then ((clerestoryref1_AttrOf.f k (x114002.take (x3 : Int).toNat) ((q0e x114002 x3).f0)).bind fun bt124 => (if bt124.2 = true then (some 3) else (clerestoryref1_NodeErr.l0 k (wrap64 (x3 + 1)) x114000 x114001 x114002 x114003 x114004 x114005))) else (none))) else (some 3))) else (none)) else (if (x114003.size : Int) > 400 then (some 2) else (if (x114001.size : Int) > 400 then (some 2) else (some 0)))
end
def clerestoryref1_NodeErr.f (k : Nat) (a0_0 : Int) (a0_1 : ByteArray) (l0_2 : List (S122)) (a0_3 : ByteArray) (a0_4 : Int) (l0_5 : List Int) : Option (Int) := (clerestoryref1_between.f a0_0 1 5).bind fun t114 => (if t114 = true then (if a0_1.toList = ([] : List UInt8) then (if (l0_2.length : Int) > 0 then (if a0_0 = 2 then (if a0_3.toList = ([] : List UInt8) then (if (l0_5.length : Int) > 0 then (clerestoryref1_NodeErr.j0 k (decide (a0_0 > 2)) a0_0 a0_1 l0_2 a0_3 a0_4 l0_5) else (clerestoryref1_NodeErr.j0 k false a0_0 a0_1 l0_2 a0_3 a0_4 l0_5)) else (if a0_0 = 3 then (if (l0_5.length : Int) > 0 then (clerestoryref1_NodeErr.j0 k (decide (a0_0 > 2)) a0_0 a0_1 l0_2 a0_3 a0_4 l0_5) else (clerestoryref1_NodeErr.j0 k false a0_0 a0_1 l0_2 a0_3 a0_4 l0_5)) else (if a0_0 = 4 then (if (l0_5.length : Int) > 0 then (clerestoryref1_NodeErr.j0 k (decide (a0_0 > 2)) a0_0 a0_1 l0_2 a0_3 a0_4 l0_5) else (clerestoryref1_NodeErr.j0 k false a0_0 a0_1 l0_2 a0_3 a0_4 l0_5)) else (clerestoryref1_NodeErr.j0 k true a0_0 a0_1 l0_2 a0_3 a0_4 l0_5)))) else (clerestoryref1_NodeErr.j0 k true a0_0 a0_1 l0_2 a0_3 a0_4 l0_5)) else (if a0_3.toList = ([] : List UInt8) then (if (l0_5.length : Int) > 0 then (clerestoryref1_NodeErr.j0 k (decide (a0_0 > 2)) a0_0 a0_1 l0_2 a0_3 a0_4 l0_5) else (clerestoryref1_NodeErr.j0 k false a0_0 a0_1 l0_2 a0_3 a0_4 l0_5)) else (if a0_0 = 3 then (if (l0_5.length : Int) > 0 then (clerestoryref1_NodeErr.j0 k (decide (a0_0 > 2)) a0_0 a0_1 l0_2 a0_3 a0_4 l0_5) else (clerestoryref1_NodeErr.j0 k false a0_0 a0_1 l0_2 a0_3 a0_4 l0_5)) else (if a0_0 = 4 then (if (l0_5.length : Int) > 0 then (clerestoryref1_NodeErr.j0 k (decide (a0_0 > 2)) a0_0 a0_1 l0_2 a0_3 a0_4 l0_5) else (clerestoryref1_NodeErr.j0 k false a0_0 a0_1 l0_2 a0_3 a0_4 l0_5)) else (clerestoryref1_NodeErr.j0 k true a0_0 a0_1 l0_2 a0_3 a0_4 l0_5))))) else (if a0_0 = 2 then (if (l0_2.length : Int) > 0 then (if a0_3.toList = ([] : List UInt8) then (if (l0_5.length : Int) > 0 then (clerestoryref1_NodeErr.j0 k (decide (a0_0 > 2)) a0_0 a0_1 l0_2 a0_3 a0_4 l0_5) else (clerestoryref1_NodeErr.j0 k false a0_0 a0_1 l0_2 a0_3 a0_4 l0_5)) else (if a0_0 = 3 then (if (l0_5.length : Int) > 0 then (clerestoryref1_NodeErr.j0 k (decide (a0_0 > 2)) a0_0 a0_1 l0_2 a0_3 a0_4 l0_5) else (clerestoryref1_NodeErr.j0 k false a0_0 a0_1 l0_2 a0_3 a0_4 l0_5)) else (if a0_0 = 4 then (if (l0_5.length : Int) > 0 then (clerestoryref1_NodeErr.j0 k (decide (a0_0 > 2)) a0_0 a0_1 l0_2 a0_3 a0_4 l0_5) else (clerestoryref1_NodeErr.j0 k false a0_0 a0_1 l0_2 a0_3 a0_4 l0_5)) else (clerestoryref1_NodeErr.j0 k true a0_0 a0_1 l0_2 a0_3 a0_4 l0_5)))) else (if a0_3.toList = ([] : List UInt8) then (if (l0_5.length : Int) > 0 then (clerestoryref1_NodeErr.j0 k (decide (a0_0 > 2)) a0_0 a0_1 l0_2 a0_3 a0_4 l0_5) else (clerestoryref1_NodeErr.j0 k false a0_0 a0_1 l0_2 a0_3 a0_4 l0_5)) else (if a0_0 = 3 then (if (l0_5.length : Int) > 0 then (clerestoryref1_NodeErr.j0 k (decide (a0_0 > 2)) a0_0 a0_1 l0_2 a0_3 a0_4 l0_5) else (clerestoryref1_NodeErr.j0 k false a0_0 a0_1 l0_2 a0_3 a0_4 l0_5)) else (if a0_0 = 4 then (if (l0_5.length : Int) > 0 then (clerestoryref1_NodeErr.j0 k (decide (a0_0 > 2)) a0_0 a0_1 l0_2 a0_3 a0_4 l0_5) else (clerestoryref1_NodeErr.j0 k false a0_0 a0_1 l0_2 a0_3 a0_4 l0_5)) else (clerestoryref1_NodeErr.j0 k true a0_0 a0_1 l0_2 a0_3 a0_4 l0_5))))) else (if a0_0 = 5 then (if (l0_2.length : Int) > 0 then (clerestoryref1_NodeErr.j0 k true a0_0 a0_1 l0_2 a0_3 a0_4 l0_5) else (if a0_3.toList = ([] : List UInt8) then (if (l0_5.length : Int) > 0 then (clerestoryref1_NodeErr.j0 k (decide (a0_0 > 2)) a0_0 a0_1 l0_2 a0_3 a0_4 l0_5) else (clerestoryref1_NodeErr.j0 k false a0_0 a0_1 l0_2 a0_3 a0_4 l0_5)) else (if a0_0 = 3 then (if (l0_5.length : Int) > 0 then (clerestoryref1_NodeErr.j0 k (decide (a0_0 > 2)) a0_0 a0_1 l0_2 a0_3 a0_4 l0_5) else (clerestoryref1_NodeErr.j0 k false a0_0 a0_1 l0_2 a0_3 a0_4 l0_5)) else (if a0_0 = 4 then (if (l0_5.length : Int) > 0 then (clerestoryref1_NodeErr.j0 k (decide (a0_0 > 2)) a0_0 a0_1 l0_2 a0_3 a0_4 l0_5) else (clerestoryref1_NodeErr.j0 k false a0_0 a0_1 l0_2 a0_3 a0_4 l0_5)) else (clerestoryref1_NodeErr.j0 k true a0_0 a0_1 l0_2 a0_3 a0_4 l0_5))))) else (clerestoryref1_NodeErr.j0 k true a0_0 a0_1 l0_2 a0_3 a0_4 l0_5)))) else (some 7))
set_option maxHeartbeats 8000000 in
set_option maxRecDepth 100000 in
theorem clerestoryref1_NodeErr.calls (k : Nat) (a0_0 : Int) (a0_1 : ByteArray) (A0_2 : Option Addr) (c0_2 : Nat) (l0_2 : List (S122)) (a0_3 : ByteArray) (a0_4 : Int) (A0_5 : Option Addr) (c0_5 : Nat) (l0_5 : List Int) (r : Int) (w : World) (hr0_2 : Kd.C k122 w A0_2 l0_2.length l0_2) (hc0_2 : l0_2.length ≤ c0_2) (hr0_5 : Kd.C (Kd.int .i64) w A0_5 l0_5.length l0_5) (hc0_5 : l0_5.length ≤ c0_5) (h : clerestoryref1_NodeErr.f k a0_0 a0_1 l0_2 a0_3 a0_4 l0_5 = some r) :
 Calls Tryd.prog 72 #[.agg #[.int .i64 a0_0, .string a0_1, .slice A0_2 l0_2.length c0_2, .string a0_3, .int .i64 a0_4, .slice A0_5 l0_5.length c0_5]] w fun e w' => e = .returned (.int .i64 r) ∧ Below w.heap.size w w' := by
 have hu43 := Tryd.underlying43
 have HR0_2 := aS hr0_2
 have HC0_2 := aS hc0_2
 clear hr0_2 hc0_2
 have HR0_5 := aS hr0_5
 have HC0_5 := aS hc0_5
 clear hr0_5 hc0_5
 have HB := aS (Below.refl w.heap.size w)
 have H := h; clear h; unfold clerestoryref1_NodeErr.f at H
 replace H := iB H
 obtain ⟨t114, A2, H⟩ := H
 refine iV H ?p3 ?n3 <;> clear H
 case' p3 => intro c3 H; subst c3
 case' n3 => intro c3 H; subst c3
 case p3 =>
  have HC4 := aS H
  clear H
  go_enter Tryd.func72, Tryd.ntmps72
  go_upto_region 3 with (first | ((with_reducible refine q0g (N := 1) rfl ?_); (try (refine q0v (by rfl) ?_; dsimp only)); refine box0 rfl (N := 1) rfl (cs := #[.int .i64 a0_0, .string a0_1, .slice A0_2 l0_2.length c0_2, .string a0_3, .int .i64 a0_4, .slice A0_5 l0_5.length c0_5]) (t := 43) zi (z6 HB.out) ?_; clear HB; intro gb113 w5 BK113 GW113 HB; have GE113 := GW113; obtain ⟨hczL_0, hczL_1, hczL_2, hczL_3, hczL_4, hczL_5, hfzL_0, hfzL_1, hfzL_2, hfzL_3, hfzL_4, hfzL_5⟩ := bk6 BK113.out) | (go_at_call 73; (with_reducible refine (clerestoryref1_between.calls a0_0 1 5 true _ A2.out).mono ?_); rintro e w' ⟨rfl, ⟨nd, rfl⟩⟩; (try first | exact ⟨rfl, _, World.drewN_drewN _ _ _⟩ | exact ⟨rfl, _, Eq.trans (World.drewN_drewN _ _ _) (congrArg (World.drewN _) (Nat.add_assoc _ _ _))⟩)))
  repeat (go_quiet (first | ((with_reducible refine q0g (N := 1) rfl ?_); (try (refine q0v (by rfl) ?_; dsimp only)); refine box0 rfl (N := 1) rfl (cs := #[.int .i64 a0_0, .string a0_1, .slice A0_2 l0_2.length c0_2, .string a0_3, .int .i64 a0_4, .slice A0_5 l0_5.length c0_5]) (t := 43) zi (z6 HB.out) ?_; clear HB; intro gb113 w5 BK113 GW113 HB; have GE113 := GW113; obtain ⟨hczL_0, hczL_1, hczL_2, hczL_3, hczL_4, hczL_5, hfzL_0, hfzL_1, hfzL_2, hfzL_3, hfzL_4, hfzL_5⟩ := bk6 BK113.out) | (go_at_call 73; (with_reducible refine (clerestoryref1_between.calls a0_0 1 5 true _ A2.out).mono ?_); rintro e w' ⟨rfl, ⟨nd, rfl⟩⟩; (try first | exact ⟨rfl, _, World.drewN_drewN _ _ _⟩ | exact ⟨rfl, _, Eq.trans (World.drewN_drewN _ _ _) (congrArg (World.drewN _) (Nat.add_assoc _ _ _))⟩))); go_upto_region 3 with (first | ((with_reducible refine q0g (N := 1) rfl ?_); (try (refine q0v (by rfl) ?_; dsimp only)); refine box0 rfl (N := 1) rfl (cs := #[.int .i64 a0_0, .string a0_1, .slice A0_2 l0_2.length c0_2, .string a0_3, .int .i64 a0_4, .slice A0_5 l0_5.length c0_5]) (t := 43) zi (z6 HB.out) ?_; clear HB; intro gb113 w5 BK113 GW113 HB; have GE113 := GW113; obtain ⟨hczL_0, hczL_1, hczL_2, hczL_3, hczL_4, hczL_5, hfzL_0, hfzL_1, hfzL_2, hfzL_3, hfzL_4, hfzL_5⟩ := bk6 BK113.out) | (go_at_call 73; (with_reducible refine (clerestoryref1_between.calls a0_0 1 5 true _ A2.out).mono ?_); rintro e w' ⟨rfl, ⟨nd, rfl⟩⟩; (try first | exact ⟨rfl, _, World.drewN_drewN _ _ _⟩ | exact ⟨rfl, _, Eq.trans (World.drewN_drewN _ _ _) (congrArg (World.drewN _) (Nat.add_assoc _ _ _))⟩))))
  (try simp only [Act.put, s1, s2, s3])
  go_cut [59] (fun v59 wc => ∃ (kq : Nat) (x59_3 : Bool), v59 = .bool x59_3 ∧ Aside0 (clerestoryref1_NodeErr.j0 kq x59_3 a0_0 a0_1 l0_2 a0_3 a0_4 l0_5 = some r) ∧ Aside0 (kq ≤ k) ∧ Aside0 (wc.heap[gb113]? = some (.cells #[.int .i64 a0_0, .string a0_1, (.slice A0_2 l0_2.length c0_2), .string a0_3, .int .i64 a0_4, (.slice A0_5 l0_5.length c0_5)] 43 (0, 0))) ∧ Aside0 (Below w.heap.size w wc))
  case first =>
   have H := HC4.out
   clear HC4
   obtain ⟨hczL_0, hczL_1, hczL_2, hczL_3, hczL_4, hczL_5, hfzL_0, hfzL_1, hfzL_2, hfzL_3, hfzL_4, hfzL_5⟩ := bk6 BK113.out
   refine iE H ?p7 ?n7 <;> clear H
   case' p7 => intro c7b0 c7b1 H; (first | rw [c7b0] | (simp only [q0p, q0r]; rw [c7b0]) | skip); refine iTN (m := 0) (n := l0_2.length) H rfl rfl ?p8 ?n8 <;> clear H
   case' p8 => intro c8b0 c8b1 H; refine iE H ?p9 ?n9 <;> clear H
   case' p9 => intro c9b0 c9b1 H; refine iE H ?p10 ?n10 <;> clear H
   case' p10 => intro c10b0 c10b1 H; refine iTN (m := 0) (n := l0_5.length) H rfl rfl ?p11 ?n11 <;> clear H
   case' p11 => intro c11b0 c11b1 H
   case' n11 => intro c11b0 c11b1 H
   case' n10 => intro c10 c10b0 c10b1 H; refine iE H ?p14 ?n14 <;> clear H
   case' p14 => intro c14b0 c14b1 H; refine iTN (m := 0) (n := l0_5.length) H rfl rfl ?p15 ?n15 <;> clear H
   case' p15 => intro c15b0 c15b1 H
   case' n15 => intro c15b0 c15b1 H
   case' n14 => intro c14 c14b0 c14b1 H; refine iE H ?p18 ?n18 <;> clear H
   case' p18 => intro c18b0 c18b1 H; refine iTN (m := 0) (n := l0_5.length) H rfl rfl ?p19 ?n19 <;> clear H
   case' p19 => intro c19b0 c19b1 H
   case' n19 => intro c19b0 c19b1 H
   case' n18 => intro c18 c18b0 c18b1 H
   case' n9 => intro c9 c9b0 c9b1 H
   case' n8 => intro c8b0 c8b1 H; refine iE H ?p24 ?n24 <;> clear H
   case' p24 => intro c24b0 c24b1 H; refine iTN (m := 0) (n := l0_5.length) H rfl rfl ?p25 ?n25 <;> clear H
   case' p25 => intro c25b0 c25b1 H
   case' n25 => intro c25b0 c25b1 H
   case' n24 => intro c24 c24b0 c24b1 H; refine iE H ?p28 ?n28 <;> clear H
   case' p28 => intro c28b0 c28b1 H; refine iTN (m := 0) (n := l0_5.length) H rfl rfl ?p29 ?n29 <;> clear H
   case' p29 => intro c29b0 c29b1 H
   case' n29 => intro c29b0 c29b1 H
   case' n28 => intro c28 c28b0 c28b1 H; refine iE H ?p32 ?n32 <;> clear H
   case' p32 => intro c32b0 c32b1 H; refine iTN (m := 0) (n := l0_5.length) H rfl rfl ?p33 ?n33 <;> clear H
   case' p33 => intro c33b0 c33b1 H
   case' n33 => intro c33b0 c33b1 H
   case' n32 => intro c32 c32b0 c32b1 H
   case' n7 => intro c7 c7b0 c7b1 H; (first | rw [c7b0] | (simp only [q0p, q0r]; rw [c7b0]) | skip); refine iE H ?p37 ?n37 <;> clear H
   case' p37 => intro c37b0 c37b1 H; refine iTN (m := 0) (n := l0_2.length) H rfl rfl ?p38 ?n38 <;> clear H
   case' p38 => intro c38b0 c38b1 H; refine iE H ?p39 ?n39 <;> clear H
   case' p39 => intro c39b0 c39b1 H; refine iTN (m := 0) (n := l0_5.length) H rfl rfl ?p40 ?n40 <;> clear H
   case' p40 => intro c40b0 c40b1 H
   case' n40 => intro c40b0 c40b1 H
   case' n39 => intro c39 c39b0 c39b1 H; refine iE H ?p43 ?n43 <;> clear H
   case' p43 => intro c43b0 c43b1 H; refine iTN (m := 0) (n := l0_5.length) H rfl rfl ?p44 ?n44 <;> clear H
   case' p44 => intro c44b0 c44b1 H
   case' n44 => intro c44b0 c44b1 H
   case' n43 => intro c43 c43b0 c43b1 H; refine iE H ?p47 ?n47 <;> clear H
   case' p47 => intro c47b0 c47b1 H; refine iTN (m := 0) (n := l0_5.length) H rfl rfl ?p48 ?n48 <;> clear H
   case' p48 => intro c48b0 c48b1 H
   case' n48 => intro c48b0 c48b1 H
   case' n47 => intro c47 c47b0 c47b1 H
   case' n38 => intro c38b0 c38b1 H; refine iE H ?p52 ?n52 <;> clear H
   case' p52 => intro c52b0 c52b1 H; refine iTN (m := 0) (n := l0_5.length) H rfl rfl ?p53 ?n53 <;> clear H
   case' p53 => intro c53b0 c53b1 H
   case' n53 => intro c53b0 c53b1 H
   case' n52 => intro c52 c52b0 c52b1 H; refine iE H ?p56 ?n56 <;> clear H
   case' p56 => intro c56b0 c56b1 H; refine iTN (m := 0) (n := l0_5.length) H rfl rfl ?p57 ?n57 <;> clear H
   case' p57 => intro c57b0 c57b1 H
   case' n57 => intro c57b0 c57b1 H
   case' n56 => intro c56 c56b0 c56b1 H; refine iE H ?p60 ?n60 <;> clear H
   case' p60 => intro c60b0 c60b1 H; refine iTN (m := 0) (n := l0_5.length) H rfl rfl ?p61 ?n61 <;> clear H
   case' p61 => intro c61b0 c61b1 H
   case' n61 => intro c61b0 c61b1 H
   case' n60 => intro c60 c60b0 c60b1 H
   case' n37 => intro c37 c37b0 c37b1 H; refine iE H ?p65 ?n65 <;> clear H
   case' p65 => intro c65b0 c65b1 H; refine iTN (m := 0) (n := l0_2.length) H rfl rfl ?p66 ?n66 <;> clear H
   case' p66 => intro c66b0 c66b1 H
   case' n66 => intro c66b0 c66b1 H; refine iE H ?p68 ?n68 <;> clear H
   case' p68 => intro c68b0 c68b1 H; refine iTN (m := 0) (n := l0_5.length) H rfl rfl ?p69 ?n69 <;> clear H
   case' p69 => intro c69b0 c69b1 H
   case' n69 => intro c69b0 c69b1 H
   case' n68 => intro c68 c68b0 c68b1 H; refine iE H ?p72 ?n72 <;> clear H
   case' p72 => intro c72b0 c72b1 H; refine iTN (m := 0) (n := l0_5.length) H rfl rfl ?p73 ?n73 <;> clear H
   case' p73 => intro c73b0 c73b1 H
   case' n73 => intro c73b0 c73b1 H
   case' n72 => intro c72 c72b0 c72b1 H; refine iE H ?p76 ?n76 <;> clear H
   case' p76 => intro c76b0 c76b1 H; refine iTN (m := 0) (n := l0_5.length) H rfl rfl ?p77 ?n77 <;> clear H
   case' p77 => intro c77b0 c77b1 H
   case' n77 => intro c77b0 c77b1 H
   case' n76 => intro c76 c76b0 c76b1 H
   case' n65 => intro c65 c65b0 c65b1 H
   case p11|n11|p15|n15|p19|n19|n18|n9|p25|n25|p29|n29|p33|n33|n32|p40|n40|p44|n44|p48|n48|n47|p53|n53|p57|n57|p61|n61|n60|p66|p69|n69|p73|n73|p77|n77|n76|n65 =>
    have H' := aS H
    clear H
    go_wp2
    repeat (go_quiet (fail); try go_wp2)
    go_meet
    case rel => exact ⟨_, _, zj, H', ⟨by first | omega | exact Nat.le_refl _⟩, ⟨by (with_reducible repeat (first | refine kN ?_ _ | refine kD ?_ | refine kA ?_ _)); exact BK113.out⟩, ⟨by repeat (first | (with_reducible first | exact HB.out | apply bA | apply bN | apply bD | refine bS ?_ GE113.out) | exact HB.out)⟩⟩
  case rest =>
   clear HC4
   obtain ⟨kq, x59_3, rfl, HA, HJ3, BK113, HB⟩ := hcut
   cases kq with
   | zero => exact absurd HA.out (by simp [clerestoryref1_NodeErr.j0])
   | succ kj3 =>
    have H := HA.out
    clear HA
    simp only [clerestoryref1_NodeErr.j0] at H
    refine iV H ?p82 ?n82 <;> clear H
    case' p82 => intro c82 H; subst c82
    case' n82 => intro c82 H; subst c82
    case p82 =>
     obtain rfl := Option.some.inj H
     go_wp2
     repeat (go_quiet (fail); try go_wp2)
     go_ret
     exact ⟨by first | rfl | (simp [q04, q03] <;> rfl) | (simp [*, q04, q03] <;> rfl), by repeat (first | (with_reducible first | exact HB.out | apply bA | apply bN | apply bD | refine bS ?_ GE113.out) | exact HB.out)⟩
    case n82 =>
     have HC83 := aS H
     clear H
     go_upto_region 5 with (fail)
     repeat (go_quiet (fail); go_upto_region 5 with (fail))
     go_cut [68] (fun v68 wc => ∃ (kq : Nat) (x68_82 : Bool), v68 = .bool x68_82 ∧ Aside0 (clerestoryref1_NodeErr.j1 kq x68_82 a0_0 a0_1 l0_2 a0_3 a0_4 l0_5 = some r) ∧ Aside0 (kq ≤ kj3) ∧ Aside0 (wc.heap[gb113]? = some (.cells #[.int .i64 a0_0, .string a0_1, (.slice A0_2 l0_2.length c0_2), .string a0_3, .int .i64 a0_4, (.slice A0_5 l0_5.length c0_5)] 43 (0, 0))) ∧ Aside0 (Below w.heap.size w wc))
     case first =>
      have H := HC83.out
      clear HC83
      refine iE H ?p84 ?n84 <;> clear H
      case' p84 => intro c84b0 c84b1 H
      case' n84 => intro c84 c84b0 c84b1 H
      case p84 =>
       (first | rw [c84b0] | (simp only [q0p, q0r]; rw [c84b0]) | skip)
       replace H := iB H
       obtain ⟨t115, A85, H⟩ := H
       have H' := aS H
       clear H
       obtain ⟨hczL_0, hczL_1, hczL_2, hczL_3, hczL_4, hczL_5, hfzL_0, hfzL_1, hfzL_2, hfzL_3, hfzL_4, hfzL_5⟩ := bk6 BK113.out
       go_wp2_with (first | (go_at_call 120; (with_reducible refine (clerestoryref1_domName.calls kj3 a0_1 true t115 _ A85.out).mono ?_); rintro e w' ⟨rfl, ⟨nd, rfl⟩⟩; (try first | exact ⟨rfl, _, World.drewN_drewN _ _ _⟩ | exact ⟨rfl, _, Eq.trans (World.drewN_drewN _ _ _) (congrArg (World.drewN _) (Nat.add_assoc _ _ _))⟩)))
       repeat (go_quiet (first | (go_at_call 120; (with_reducible refine (clerestoryref1_domName.calls kj3 a0_1 true t115 _ A85.out).mono ?_); rintro e w' ⟨rfl, ⟨nd, rfl⟩⟩; (try first | exact ⟨rfl, _, World.drewN_drewN _ _ _⟩ | exact ⟨rfl, _, Eq.trans (World.drewN_drewN _ _ _) (congrArg (World.drewN _) (Nat.add_assoc _ _ _))⟩))); try go_wp2_with (first | (go_at_call 120; (with_reducible refine (clerestoryref1_domName.calls kj3 a0_1 true t115 _ A85.out).mono ?_); rintro e w' ⟨rfl, ⟨nd, rfl⟩⟩; (try first | exact ⟨rfl, _, World.drewN_drewN _ _ _⟩ | exact ⟨rfl, _, Eq.trans (World.drewN_drewN _ _ _) (congrArg (World.drewN _) (Nat.add_assoc _ _ _))⟩))))
       go_meet
       case rel => exact ⟨_, (!t115), zj, H', ⟨by have := HJ3.out; first | omega | exact Nat.le_refl _⟩, ⟨by (with_reducible repeat (first | refine kN ?_ _ | refine kD ?_ | refine kA ?_ _)); exact BK113.out⟩, ⟨by repeat (first | (with_reducible first | exact HB.out | apply bA | apply bN | apply bD | refine bS ?_ GE113.out) | exact HB.out)⟩⟩
      case n84 =>
       (first | rw [c84b0] | (simp only [q0p, q0r]; rw [c84b0]) | skip)
       have H' := aS H
       clear H
       obtain ⟨hczL_0, hczL_1, hczL_2, hczL_3, hczL_4, hczL_5, hfzL_0, hfzL_1, hfzL_2, hfzL_3, hfzL_4, hfzL_5⟩ := bk6 BK113.out
       go_wp2
       repeat (go_quiet (fail); try go_wp2)
       go_meet
       case rel => exact ⟨_, _, zj, H', ⟨by have := HJ3.out; first | omega | exact Nat.le_refl _⟩, ⟨by (with_reducible repeat (first | refine kN ?_ _ | refine kD ?_ | refine kA ?_ _)); exact BK113.out⟩, ⟨by repeat (first | (with_reducible first | exact HB.out | apply bA | apply bN | apply bD | refine bS ?_ GE113.out) | exact HB.out)⟩⟩
     case rest =>
      clear HC83
      obtain ⟨kq, x68_82, rfl, HA, HJ82, BK113, HB⟩ := hcut
      cases kq with
      | zero => exact absurd HA.out (by simp [clerestoryref1_NodeErr.j1])
      | succ kj82 =>
       have H := HA.out
       clear HA
       simp only [clerestoryref1_NodeErr.j1] at H
       refine iV H ?p88 ?n88 <;> clear H
       case' p88 => intro c88 H; subst c88
       case' n88 =>
        intro c88 H; subst c88
        obtain ⟨hczL_0, hczL_1, hczL_2, hczL_3, hczL_4, hczL_5, hfzL_0, hfzL_1, hfzL_2, hfzL_3, hfzL_4, hfzL_5⟩ := bk6 BK113.out
        refine iTN (m := 12) (n := l0_2.length) H rfl rfl ?p89 ?n89 <;> clear H
       case' p89 => intro c89b0 c89b1 H
       case' n89 => intro c89b0 c89b1 H
       case p88|p89 =>
        obtain rfl := Option.some.inj H
        go_wp2
        repeat (go_quiet (fail); try go_wp2)
        go_ret
        exact ⟨by first | rfl | (simp [q04, q03] <;> rfl) | (simp [*, q04, q03] <;> rfl), by repeat (first | (with_reducible first | exact HB.out | apply bA | apply bN | apply bD | refine bS ?_ GE113.out) | exact HB.out)⟩
       case n89 =>
        have H' := aS H
        clear H
        go_wp2
        repeat (go_quiet (fail); try go_wp2)
        go_loopg [3] kj82 (fun kq v3 w' => ∃ (x3_3 : Int), v3 = .int .i64 x3_3 ∧ Aside0 (clerestoryref1_NodeErr.l0 kq x3_3 a0_0 a0_1 l0_2 a0_3 a0_4 l0_5 = some r) ∧ Aside0 (kq ≤ kj82) ∧ Aside0 (w'.heap[gb113]? = some (.cells #[.int .i64 a0_0, .string a0_1, (.slice A0_2 l0_2.length c0_2), .string a0_3, .int .i64 a0_4, (.slice A0_5 l0_5.length c0_5)] 43 (0, 0))) ∧ Aside0 (Below w.heap.size w w'))
        case atStart => exact ⟨(0), zj, H', ⟨Nat.le_refl _⟩, ⟨by (with_reducible repeat (first | refine kN ?_ _ | refine kD ?_ | refine kA ?_ _)); exact BK113.out⟩, ⟨by repeat (first | (with_reducible first | exact HB.out | apply bA | apply bN | apply bD | refine bS ?_ GE113.out) | exact HB.out)⟩⟩
        case round =>
         clear H'
         obtain ⟨x3_3, rfl, HA, HK3, BK113, HB⟩ := hrel
         cases gk with
         | zero => exact absurd HA.out (by simp [clerestoryref1_NodeErr.l0])
         | succ k3 =>
          have H := HA.out
          clear HA
          simp only [clerestoryref1_NodeErr.l0] at H
          obtain ⟨hczL_0, hczL_1, hczL_2, hczL_3, hczL_4, hczL_5, hfzL_0, hfzL_1, hfzL_2, hfzL_3, hfzL_4, hfzL_5⟩ := bk6 BK113.out
          refine iT H ?p92 ?n92 <;> clear H
          case' p92 => intro c92b0 H; refine iLp H ?_; clear H; intro c93b0 H; replace H := iB H; obtain ⟨t117, A94, H⟩ := H; refine iV H ?p95 ?n95 <;> clear H
          case' p95 => intro c95 H; subst c95; refine iTN (m := 400) (n := ((q0e l0_2 x3_3).f1).size) H rfl rfl ?p96 ?n96 <;> clear H
          case' p96 => intro c96b0 c96b1 H
          case' n96 =>
           intro c96b0 c96b1 H
           have c98b0 := eq_true (od za : 0 ≤ x3_3)
           refine iGp H ?_; clear H; intro c99 H
           have c99b0 := eq_true c99
           have c99b1 : decide (x3_3 ≤ (l0_2.length : Int)) = true := decide_eq_true c99
           clear c99
           obtain ⟨y119, hy119⟩ : ∃ y_ : List (S122), y_ = (l0_2.take (x3_3 : Int).toNat) := ⟨_, rfl⟩
           replace H : ((clerestoryref1_AttrOf.f k3 y119 ((q0e l0_2 x3_3).f0)).bind fun bt124 => (if bt124.2 = true then (some 3) else (clerestoryref1_NodeErr.l0 k3 (wrap64 (x3_3 + 1)) a0_0 a0_1 l0_2 a0_3 a0_4 l0_5))) = some r := by first | (rw [hy119]; with_reducible exact H) | (have H2_ := (Option.bind_some _ _).symm.trans H; rw [hy119]; with_reducible exact H2_) | (have H2_ := (Option.bind_some _ _).symm.trans H; with_reducible exact H2_) | with_reducible exact H | (rw [hy119]; exact H) | exact H
           have Ny119 := aS hy119
           clear hy119
           replace H := iB H
           obtain ⟨⟨t124, t125⟩, A100, H⟩ := H
           try dsimp only at H
           obtain ⟨ad116, e116, hx116_0, hx116_1, p116, q116⟩ := q0u HB.out HR0_2.out x3_3 za za
           cases e116
           refine iV H ?p101 ?n101 <;> clear H
          case' p101 => intro c101 H; subst c101
          case' n101 => intro c101 H; subst c101
          case' n95 => intro c95 H; subst c95
          case' n92 => intro c92b0 H; refine iTN (m := 400) (n := a0_3.size) H rfl rfl ?p107 ?n107 <;> clear H
          case' p107 => intro c107b0 c107b1 H
          case' n107 => intro c107b0 c107b1 H; refine iTN (m := 400) (n := a0_1.size) H rfl rfl ?p109 ?n109 <;> clear H
          case' p109 => intro c109b0 c109b1 H
          case' n109 => intro c109b0 c109b1 H
          case p96 =>
           obtain rfl := Option.some.inj H
           obtain ⟨ad116, e116, hx116_0, hx116_1, p116, q116⟩ := q0u HB.out HR0_2.out x3_3 za za
           cases e116
           go_wp2_with (first | (go_at_call 120; (with_reducible refine (clerestoryref1_domName.calls k3 ((q0e l0_2 x3_3).f0) false true _ A94.out).mono ?_); rintro e w' ⟨rfl, ⟨nd, rfl⟩⟩; (try first | exact ⟨rfl, _, World.drewN_drewN _ _ _⟩ | exact ⟨rfl, _, Eq.trans (World.drewN_drewN _ _ _) (congrArg (World.drewN _) (Nat.add_assoc _ _ _))⟩); obtain ⟨ad118, e118, hx118_0, hx118_1, p118, q118⟩ := q0u HB.out HR0_2.out x3_3 za za; obtain rfl : ad116 = ad118 := (by injection e118)))
           repeat (go_quiet (first | (go_at_call 120; (with_reducible refine (clerestoryref1_domName.calls k3 ((q0e l0_2 x3_3).f0) false true _ A94.out).mono ?_); rintro e w' ⟨rfl, ⟨nd, rfl⟩⟩; (try first | exact ⟨rfl, _, World.drewN_drewN _ _ _⟩ | exact ⟨rfl, _, Eq.trans (World.drewN_drewN _ _ _) (congrArg (World.drewN _) (Nat.add_assoc _ _ _))⟩); obtain ⟨ad118, e118, hx118_0, hx118_1, p118, q118⟩ := q0u HB.out HR0_2.out x3_3 za za; obtain rfl : ad116 = ad118 := (by injection e118))); try go_wp2_with (first | (go_at_call 120; (with_reducible refine (clerestoryref1_domName.calls k3 ((q0e l0_2 x3_3).f0) false true _ A94.out).mono ?_); rintro e w' ⟨rfl, ⟨nd, rfl⟩⟩; (try first | exact ⟨rfl, _, World.drewN_drewN _ _ _⟩ | exact ⟨rfl, _, Eq.trans (World.drewN_drewN _ _ _) (congrArg (World.drewN _) (Nat.add_assoc _ _ _))⟩); obtain ⟨ad118, e118, hx118_0, hx118_1, p118, q118⟩ := q0u HB.out HR0_2.out x3_3 za za; obtain rfl : ad116 = ad118 := (by injection e118))))
           go_ret
           exact ⟨by first | rfl | (simp [q04, q03] <;> rfl) | (simp [*, q04, q03] <;> rfl), by repeat (first | (with_reducible first | exact HB.out | apply bA | apply bN | apply bD | refine bS ?_ GE113.out) | exact HB.out)⟩
          case p101 =>
           obtain rfl := Option.some.inj H
           go_wp2_with (first | (go_at_call 120; (with_reducible refine (clerestoryref1_domName.calls k3 ((q0e l0_2 x3_3).f0) false true _ A94.out).mono ?_); rintro e w' ⟨rfl, ⟨nd, rfl⟩⟩; (try first | exact ⟨rfl, _, World.drewN_drewN _ _ _⟩ | exact ⟨rfl, _, Eq.trans (World.drewN_drewN _ _ _) (congrArg (World.drewN _) (Nat.add_assoc _ _ _))⟩); obtain ⟨ad118, e118, hx118_0, hx118_1, p118, q118⟩ := q0u HB.out HR0_2.out x3_3 za za; obtain rfl : ad116 = ad118 := (by injection e118); have q103 : (x3_3 : Int) ≤ ((l0_2.length : Int) : Int) := od za; obtain ⟨i0103, hi0103, _, hsz103, _⟩ := info_parts info122; have hroom103 : l0_2.length ≤ c0_2 := HC0_2.out; have hC103 : Kd.C k122 _ (some ad116) l0_2.length l0_2 := HR0_2.out; have hcut103 := cut_to (P := Tryd.prog) 41 122 .i64 Tryd.underlying41 hi0103 (some ad116) l0_2.length c0_2 x3_3 (od za) q103 hroom103; have hr103 := Kd.C_take (m := (x3_3 : Int).toNat) hC103 (by omega); have hy103 : y119.length = (x3_3 : Int).toNat := (by rw [Ny119.out, List.length_take]; omega); rw [← Ny119.out] at hr103; rw [← hy103] at hcut103; have HR122 := aS hr103; have HC122 := aS (show y119.length ≤ c0_2 from by omega); clear hr103 hC103 hroom103 hi0103 hsz103; have KY103 := aS hy103; clear hy103; replace q103 := eq_true q103; obtain ⟨ad123, e123, hx123_0, hx123_1, p123, q123⟩ := q0u HB.out HR0_2.out x3_3 za za; obtain rfl : ad116 = ad123 := (by injection e123)) | (go_at_call 64; (with_reducible refine (clerestoryref1_AttrOf.calls k3 _ _ y119 ((q0e l0_2 x3_3).f0) t124 true _ ?side1 ?side2 A100.out).mono ?_); (case side1 => repeat (first | exact (Kd.C_below HR122.out (z1 HB.out GE113.out)) | (with_reducible refine cA ?_ _) | (with_reducible refine cN ?_ _) | (with_reducible refine cD ?_))); (case side2 => exact HC122.out); rintro e w' ⟨rfl, ⟨nd, rfl⟩⟩; (try first | exact ⟨rfl, _, World.drewN_drewN _ _ _⟩ | exact ⟨rfl, _, Eq.trans (World.drewN_drewN _ _ _) (congrArg (World.drewN _) (Nat.add_assoc _ _ _))⟩)))
           repeat (go_quiet (first | (go_at_call 120; (with_reducible refine (clerestoryref1_domName.calls k3 ((q0e l0_2 x3_3).f0) false true _ A94.out).mono ?_); rintro e w' ⟨rfl, ⟨nd, rfl⟩⟩; (try first | exact ⟨rfl, _, World.drewN_drewN _ _ _⟩ | exact ⟨rfl, _, Eq.trans (World.drewN_drewN _ _ _) (congrArg (World.drewN _) (Nat.add_assoc _ _ _))⟩); obtain ⟨ad118, e118, hx118_0, hx118_1, p118, q118⟩ := q0u HB.out HR0_2.out x3_3 za za; obtain rfl : ad116 = ad118 := (by injection e118); have q103 : (x3_3 : Int) ≤ ((l0_2.length : Int) : Int) := od za; obtain ⟨i0103, hi0103, _, hsz103, _⟩ := info_parts info122; have hroom103 : l0_2.length ≤ c0_2 := HC0_2.out; have hC103 : Kd.C k122 _ (some ad116) l0_2.length l0_2 := HR0_2.out; have hcut103 := cut_to (P := Tryd.prog) 41 122 .i64 Tryd.underlying41 hi0103 (some ad116) l0_2.length c0_2 x3_3 (od za) q103 hroom103; have hr103 := Kd.C_take (m := (x3_3 : Int).toNat) hC103 (by omega); have hy103 : y119.length = (x3_3 : Int).toNat := (by rw [Ny119.out, List.length_take]; omega); rw [← Ny119.out] at hr103; rw [← hy103] at hcut103; have HR122 := aS hr103; have HC122 := aS (show y119.length ≤ c0_2 from by omega); clear hr103 hC103 hroom103 hi0103 hsz103; have KY103 := aS hy103; clear hy103; replace q103 := eq_true q103; obtain ⟨ad123, e123, hx123_0, hx123_1, p123, q123⟩ := q0u HB.out HR0_2.out x3_3 za za; obtain rfl : ad116 = ad123 := (by injection e123)) | (go_at_call 64; (with_reducible refine (clerestoryref1_AttrOf.calls k3 _ _ y119 ((q0e l0_2 x3_3).f0) t124 true _ ?side1 ?side2 A100.out).mono ?_); (case side1 => repeat (first | exact (Kd.C_below HR122.out (z1 HB.out GE113.out)) | (with_reducible refine cA ?_ _) | (with_reducible refine cN ?_ _) | (with_reducible refine cD ?_))); (case side2 => exact HC122.out); rintro e w' ⟨rfl, ⟨nd, rfl⟩⟩; (try first | exact ⟨rfl, _, World.drewN_drewN _ _ _⟩ | exact ⟨rfl, _, Eq.trans (World.drewN_drewN _ _ _) (congrArg (World.drewN _) (Nat.add_assoc _ _ _))⟩))); try go_wp2_with (first | (go_at_call 120; (with_reducible refine (clerestoryref1_domName.calls k3 ((q0e l0_2 x3_3).f0) false true _ A94.out).mono ?_); rintro e w' ⟨rfl, ⟨nd, rfl⟩⟩; (try first | exact ⟨rfl, _, World.drewN_drewN _ _ _⟩ | exact ⟨rfl, _, Eq.trans (World.drewN_drewN _ _ _) (congrArg (World.drewN _) (Nat.add_assoc _ _ _))⟩); obtain ⟨ad118, e118, hx118_0, hx118_1, p118, q118⟩ := q0u HB.out HR0_2.out x3_3 za za; obtain rfl : ad116 = ad118 := (by injection e118); have q103 : (x3_3 : Int) ≤ ((l0_2.length : Int) : Int) := od za; obtain ⟨i0103, hi0103, _, hsz103, _⟩ := info_parts info122; have hroom103 : l0_2.length ≤ c0_2 := HC0_2.out; have hC103 : Kd.C k122 _ (some ad116) l0_2.length l0_2 := HR0_2.out; have hcut103 := cut_to (P := Tryd.prog) 41 122 .i64 Tryd.underlying41 hi0103 (some ad116) l0_2.length c0_2 x3_3 (od za) q103 hroom103; have hr103 := Kd.C_take (m := (x3_3 : Int).toNat) hC103 (by omega); have hy103 : y119.length = (x3_3 : Int).toNat := (by rw [Ny119.out, List.length_take]; omega); rw [← Ny119.out] at hr103; rw [← hy103] at hcut103; have HR122 := aS hr103; have HC122 := aS (show y119.length ≤ c0_2 from by omega); clear hr103 hC103 hroom103 hi0103 hsz103; have KY103 := aS hy103; clear hy103; replace q103 := eq_true q103; obtain ⟨ad123, e123, hx123_0, hx123_1, p123, q123⟩ := q0u HB.out HR0_2.out x3_3 za za; obtain rfl : ad116 = ad123 := (by injection e123)) | (go_at_call 64; (with_reducible refine (clerestoryref1_AttrOf.calls k3 _ _ y119 ((q0e l0_2 x3_3).f0) t124 true _ ?side1 ?side2 A100.out).mono ?_); (case side1 => repeat (first | exact (Kd.C_below HR122.out (z1 HB.out GE113.out)) | (with_reducible refine cA ?_ _) | (with_reducible refine cN ?_ _) | (with_reducible refine cD ?_))); (case side2 => exact HC122.out); rintro e w' ⟨rfl, ⟨nd, rfl⟩⟩; (try first | exact ⟨rfl, _, World.drewN_drewN _ _ _⟩ | exact ⟨rfl, _, Eq.trans (World.drewN_drewN _ _ _) (congrArg (World.drewN _) (Nat.add_assoc _ _ _))⟩))))
           go_ret
           exact ⟨by first | rfl | (simp [q04, q03] <;> rfl) | (simp [*, q04, q03] <;> rfl), by repeat (first | (with_reducible first | exact HB.out | apply bA | apply bN | apply bD | refine bS ?_ GE113.out) | exact HB.out)⟩
          case n101 =>
           have H' := aS H
           clear H
           go_wp2_with (first | (go_at_call 120; (with_reducible refine (clerestoryref1_domName.calls k3 ((q0e l0_2 x3_3).f0) false true _ A94.out).mono ?_); rintro e w' ⟨rfl, ⟨nd, rfl⟩⟩; (try first | exact ⟨rfl, _, World.drewN_drewN _ _ _⟩ | exact ⟨rfl, _, Eq.trans (World.drewN_drewN _ _ _) (congrArg (World.drewN _) (Nat.add_assoc _ _ _))⟩); obtain ⟨ad118, e118, hx118_0, hx118_1, p118, q118⟩ := q0u HB.out HR0_2.out x3_3 za za; obtain rfl : ad116 = ad118 := (by injection e118); have q105 : (x3_3 : Int) ≤ ((l0_2.length : Int) : Int) := od za; obtain ⟨i0105, hi0105, _, hsz105, _⟩ := info_parts info122; have hroom105 : l0_2.length ≤ c0_2 := HC0_2.out; have hC105 : Kd.C k122 _ (some ad116) l0_2.length l0_2 := HR0_2.out; have hcut105 := cut_to (P := Tryd.prog) 41 122 .i64 Tryd.underlying41 hi0105 (some ad116) l0_2.length c0_2 x3_3 (od za) q105 hroom105; have hr105 := Kd.C_take (m := (x3_3 : Int).toNat) hC105 (by omega); have hy105 : y119.length = (x3_3 : Int).toNat := (by rw [Ny119.out, List.length_take]; omega); rw [← Ny119.out] at hr105; rw [← hy105] at hcut105; have HR122 := aS hr105; have HC122 := aS (show y119.length ≤ c0_2 from by omega); clear hr105 hC105 hroom105 hi0105 hsz105; have KY105 := aS hy105; clear hy105; replace q105 := eq_true q105; obtain ⟨ad123, e123, hx123_0, hx123_1, p123, q123⟩ := q0u HB.out HR0_2.out x3_3 za za; obtain rfl : ad116 = ad123 := (by injection e123)) | (go_at_call 64; (with_reducible refine (clerestoryref1_AttrOf.calls k3 _ _ y119 ((q0e l0_2 x3_3).f0) t124 false _ ?side1 ?side2 A100.out).mono ?_); (case side1 => repeat (first | exact (Kd.C_below HR122.out (z1 HB.out GE113.out)) | (with_reducible refine cA ?_ _) | (with_reducible refine cN ?_ _) | (with_reducible refine cD ?_))); (case side2 => exact HC122.out); rintro e w' ⟨rfl, ⟨nd, rfl⟩⟩; (try first | exact ⟨rfl, _, World.drewN_drewN _ _ _⟩ | exact ⟨rfl, _, Eq.trans (World.drewN_drewN _ _ _) (congrArg (World.drewN _) (Nat.add_assoc _ _ _))⟩)))
           repeat (go_quiet (first | (go_at_call 120; (with_reducible refine (clerestoryref1_domName.calls k3 ((q0e l0_2 x3_3).f0) false true _ A94.out).mono ?_); rintro e w' ⟨rfl, ⟨nd, rfl⟩⟩; (try first | exact ⟨rfl, _, World.drewN_drewN _ _ _⟩ | exact ⟨rfl, _, Eq.trans (World.drewN_drewN _ _ _) (congrArg (World.drewN _) (Nat.add_assoc _ _ _))⟩); obtain ⟨ad118, e118, hx118_0, hx118_1, p118, q118⟩ := q0u HB.out HR0_2.out x3_3 za za; obtain rfl : ad116 = ad118 := (by injection e118); have q105 : (x3_3 : Int) ≤ ((l0_2.length : Int) : Int) := od za; obtain ⟨i0105, hi0105, _, hsz105, _⟩ := info_parts info122; have hroom105 : l0_2.length ≤ c0_2 := HC0_2.out; have hC105 : Kd.C k122 _ (some ad116) l0_2.length l0_2 := HR0_2.out; have hcut105 := cut_to (P := Tryd.prog) 41 122 .i64 Tryd.underlying41 hi0105 (some ad116) l0_2.length c0_2 x3_3 (od za) q105 hroom105; have hr105 := Kd.C_take (m := (x3_3 : Int).toNat) hC105 (by omega); have hy105 : y119.length = (x3_3 : Int).toNat := (by rw [Ny119.out, List.length_take]; omega); rw [← Ny119.out] at hr105; rw [← hy105] at hcut105; have HR122 := aS hr105; have HC122 := aS (show y119.length ≤ c0_2 from by omega); clear hr105 hC105 hroom105 hi0105 hsz105; have KY105 := aS hy105; clear hy105; replace q105 := eq_true q105; obtain ⟨ad123, e123, hx123_0, hx123_1, p123, q123⟩ := q0u HB.out HR0_2.out x3_3 za za; obtain rfl : ad116 = ad123 := (by injection e123)) | (go_at_call 64; (with_reducible refine (clerestoryref1_AttrOf.calls k3 _ _ y119 ((q0e l0_2 x3_3).f0) t124 false _ ?side1 ?side2 A100.out).mono ?_); (case side1 => repeat (first | exact (Kd.C_below HR122.out (z1 HB.out GE113.out)) | (with_reducible refine cA ?_ _) | (with_reducible refine cN ?_ _) | (with_reducible refine cD ?_))); (case side2 => exact HC122.out); rintro e w' ⟨rfl, ⟨nd, rfl⟩⟩; (try first | exact ⟨rfl, _, World.drewN_drewN _ _ _⟩ | exact ⟨rfl, _, Eq.trans (World.drewN_drewN _ _ _) (congrArg (World.drewN _) (Nat.add_assoc _ _ _))⟩))); try go_wp2_with (first | (go_at_call 120; (with_reducible refine (clerestoryref1_domName.calls k3 ((q0e l0_2 x3_3).f0) false true _ A94.out).mono ?_); rintro e w' ⟨rfl, ⟨nd, rfl⟩⟩; (try first | exact ⟨rfl, _, World.drewN_drewN _ _ _⟩ | exact ⟨rfl, _, Eq.trans (World.drewN_drewN _ _ _) (congrArg (World.drewN _) (Nat.add_assoc _ _ _))⟩); obtain ⟨ad118, e118, hx118_0, hx118_1, p118, q118⟩ := q0u HB.out HR0_2.out x3_3 za za; obtain rfl : ad116 = ad118 := (by injection e118); have q105 : (x3_3 : Int) ≤ ((l0_2.length : Int) : Int) := od za; obtain ⟨i0105, hi0105, _, hsz105, _⟩ := info_parts info122; have hroom105 : l0_2.length ≤ c0_2 := HC0_2.out; have hC105 : Kd.C k122 _ (some ad116) l0_2.length l0_2 := HR0_2.out; have hcut105 := cut_to (P := Tryd.prog) 41 122 .i64 Tryd.underlying41 hi0105 (some ad116) l0_2.length c0_2 x3_3 (od za) q105 hroom105; have hr105 := Kd.C_take (m := (x3_3 : Int).toNat) hC105 (by omega); have hy105 : y119.length = (x3_3 : Int).toNat := (by rw [Ny119.out, List.length_take]; omega); rw [← Ny119.out] at hr105; rw [← hy105] at hcut105; have HR122 := aS hr105; have HC122 := aS (show y119.length ≤ c0_2 from by omega); clear hr105 hC105 hroom105 hi0105 hsz105; have KY105 := aS hy105; clear hy105; replace q105 := eq_true q105; obtain ⟨ad123, e123, hx123_0, hx123_1, p123, q123⟩ := q0u HB.out HR0_2.out x3_3 za za; obtain rfl : ad116 = ad123 := (by injection e123)) | (go_at_call 64; (with_reducible refine (clerestoryref1_AttrOf.calls k3 _ _ y119 ((q0e l0_2 x3_3).f0) t124 false _ ?side1 ?side2 A100.out).mono ?_); (case side1 => repeat (first | exact (Kd.C_below HR122.out (z1 HB.out GE113.out)) | (with_reducible refine cA ?_ _) | (with_reducible refine cN ?_ _) | (with_reducible refine cD ?_))); (case side2 => exact HC122.out); rintro e w' ⟨rfl, ⟨nd, rfl⟩⟩; (try first | exact ⟨rfl, _, World.drewN_drewN _ _ _⟩ | exact ⟨rfl, _, Eq.trans (World.drewN_drewN _ _ _) (congrArg (World.drewN _) (Nat.add_assoc _ _ _))⟩))))
           go_roundg k3
           case measure => have := HJ3.out; have := HJ82.out; have := HK3.out; omega
           case rel => exact ⟨(wrap64 (x3_3 + 1)), zj, H', ⟨by have := HJ3.out; have := HJ82.out; have := HK3.out; omega⟩, ⟨by (with_reducible repeat (first | refine kN ?_ _ | refine kD ?_ | refine kA ?_ _)); exact BK113.out⟩, ⟨by repeat (first | (with_reducible first | exact HB.out | apply bA | apply bN | apply bD | refine bS ?_ GE113.out) | exact HB.out)⟩⟩
          case n95 =>
           obtain rfl := Option.some.inj H
           obtain ⟨ad116, e116, hx116_0, hx116_1, p116, q116⟩ := q0u HB.out HR0_2.out x3_3 za za
           cases e116
           go_wp2_with (first | (go_at_call 120; (with_reducible refine (clerestoryref1_domName.calls k3 ((q0e l0_2 x3_3).f0) false false _ A94.out).mono ?_); rintro e w' ⟨rfl, ⟨nd, rfl⟩⟩; (try first | exact ⟨rfl, _, World.drewN_drewN _ _ _⟩ | exact ⟨rfl, _, Eq.trans (World.drewN_drewN _ _ _) (congrArg (World.drewN _) (Nat.add_assoc _ _ _))⟩)))
           repeat (go_quiet (first | (go_at_call 120; (with_reducible refine (clerestoryref1_domName.calls k3 ((q0e l0_2 x3_3).f0) false false _ A94.out).mono ?_); rintro e w' ⟨rfl, ⟨nd, rfl⟩⟩; (try first | exact ⟨rfl, _, World.drewN_drewN _ _ _⟩ | exact ⟨rfl, _, Eq.trans (World.drewN_drewN _ _ _) (congrArg (World.drewN _) (Nat.add_assoc _ _ _))⟩))); try go_wp2_with (first | (go_at_call 120; (with_reducible refine (clerestoryref1_domName.calls k3 ((q0e l0_2 x3_3).f0) false false _ A94.out).mono ?_); rintro e w' ⟨rfl, ⟨nd, rfl⟩⟩; (try first | exact ⟨rfl, _, World.drewN_drewN _ _ _⟩ | exact ⟨rfl, _, Eq.trans (World.drewN_drewN _ _ _) (congrArg (World.drewN _) (Nat.add_assoc _ _ _))⟩))))
           go_ret
           exact ⟨by first | rfl | (simp [q04, q03] <;> rfl) | (simp [*, q04, q03] <;> rfl), by repeat (first | (with_reducible first | exact HB.out | apply bA | apply bN | apply bD | refine bS ?_ GE113.out) | exact HB.out)⟩
          case p107|p109|n109 =>
           obtain rfl := Option.some.inj H
           go_wp2
           repeat (go_quiet (fail); try go_wp2)
           go_ret
           exact ⟨by first | rfl | (simp [q04, q03] <;> rfl) | (simp [*, q04, q03] <;> rfl), by repeat (first | (with_reducible first | exact HB.out | apply bA | apply bN | apply bD | refine bS ?_ GE113.out) | exact HB.out)⟩
 case n3 =>
  obtain rfl := Option.some.inj H
  go_enter Tryd.func72, Tryd.ntmps72
  go_wp2_with (first | ((with_reducible refine q0g (N := 1) rfl ?_); (try (refine q0v (by rfl) ?_; dsimp only)); refine box0 rfl (N := 1) rfl (cs := #[.int .i64 a0_0, .string a0_1, .slice A0_2 l0_2.length c0_2, .string a0_3, .int .i64 a0_4, .slice A0_5 l0_5.length c0_5]) (t := 43) zi (z6 HB.out) ?_; clear HB; intro gb113 w112 BK113 GW113 HB; have GE113 := GW113; obtain ⟨hczL_0, hczL_1, hczL_2, hczL_3, hczL_4, hczL_5, hfzL_0, hfzL_1, hfzL_2, hfzL_3, hfzL_4, hfzL_5⟩ := bk6 BK113.out) | (go_at_call 73; (with_reducible refine (clerestoryref1_between.calls a0_0 1 5 false _ A2.out).mono ?_); rintro e w' ⟨rfl, ⟨nd, rfl⟩⟩; (try first | exact ⟨rfl, _, World.drewN_drewN _ _ _⟩ | exact ⟨rfl, _, Eq.trans (World.drewN_drewN _ _ _) (congrArg (World.drewN _) (Nat.add_assoc _ _ _))⟩)))
  repeat (go_quiet (first | ((with_reducible refine q0g (N := 1) rfl ?_); (try (refine q0v (by rfl) ?_; dsimp only)); refine box0 rfl (N := 1) rfl (cs := #[.int .i64 a0_0, .string a0_1, .slice A0_2 l0_2.length c0_2, .string a0_3, .int .i64 a0_4, .slice A0_5 l0_5.length c0_5]) (t := 43) zi (z6 HB.out) ?_; clear HB; intro gb113 w112 BK113 GW113 HB; have GE113 := GW113; obtain ⟨hczL_0, hczL_1, hczL_2, hczL_3, hczL_4, hczL_5, hfzL_0, hfzL_1, hfzL_2, hfzL_3, hfzL_4, hfzL_5⟩ := bk6 BK113.out) | (go_at_call 73; (with_reducible refine (clerestoryref1_between.calls a0_0 1 5 false _ A2.out).mono ?_); rintro e w' ⟨rfl, ⟨nd, rfl⟩⟩; (try first | exact ⟨rfl, _, World.drewN_drewN _ _ _⟩ | exact ⟨rfl, _, Eq.trans (World.drewN_drewN _ _ _) (congrArg (World.drewN _) (Nat.add_assoc _ _ _))⟩))); try go_wp2_with (first | ((with_reducible refine q0g (N := 1) rfl ?_); (try (refine q0v (by rfl) ?_; dsimp only)); refine box0 rfl (N := 1) rfl (cs := #[.int .i64 a0_0, .string a0_1, .slice A0_2 l0_2.length c0_2, .string a0_3, .int .i64 a0_4, .slice A0_5 l0_5.length c0_5]) (t := 43) zi (z6 HB.out) ?_; clear HB; intro gb113 w112 BK113 GW113 HB; have GE113 := GW113; obtain ⟨hczL_0, hczL_1, hczL_2, hczL_3, hczL_4, hczL_5, hfzL_0, hfzL_1, hfzL_2, hfzL_3, hfzL_4, hfzL_5⟩ := bk6 BK113.out) | (go_at_call 73; (with_reducible refine (clerestoryref1_between.calls a0_0 1 5 false _ A2.out).mono ?_); rintro e w' ⟨rfl, ⟨nd, rfl⟩⟩; (try first | exact ⟨rfl, _, World.drewN_drewN _ _ _⟩ | exact ⟨rfl, _, Eq.trans (World.drewN_drewN _ _ _) (congrArg (World.drewN _) (Nat.add_assoc _ _ _))⟩))))
  go_ret
  exact ⟨by first | rfl | (simp [q04, q03] <;> rfl) | (simp [*, q04, q03] <;> rfl), by repeat (first | (with_reducible first | exact HB.out | apply bA | apply bN | apply bD | refine bS ?_ GE113.out) | exact HB.out)⟩
def clerestoryref1_placeIn.l0 : Nat → List Int → Int → Int → Option (Int)
 | 0, _, _, _ => none
 | k + 1, x0, x1, x5 => if x5 < (x0.length : Int) then (if 0 ≤ x5 then (if (rd x0 x5) = x1 then (some x5) else (clerestoryref1_placeIn.l0 k x0 x1 (wrap64 (x5 + 1)))) else (none)) else (some (-1))
def clerestoryref1_placeIn.f (k : Nat) (l0 : List Int) (a1 : Int) : Option (Int) := clerestoryref1_placeIn.l0 k l0 a1 0
set_option maxHeartbeats 8000000 in
set_option maxRecDepth 100000 in
theorem clerestoryref1_placeIn.calls (k : Nat) (A0 : Option Addr) (c0 : Nat) (l0 : List Int) (a1 : Int) (r : Int) (w : World) (hr0 : Kd.C (Kd.int .i64) w A0 l0.length l0) (hc0 : l0.length ≤ c0) (h : clerestoryref1_placeIn.f k l0 a1 = some r) :
 Calls Tryd.prog 74 #[.slice A0 l0.length c0, .int .i64 a1] w fun e w' => e = .returned (.int .i64 r) ∧ Drawn0 w w' := by
 have HR0 := aS hr0
 have HC0 := aS hc0
 clear hr0 hc0
 have H := h; clear h; unfold clerestoryref1_placeIn.f at H
 have H' := aS H
 clear H
 go_enter Tryd.func74, Tryd.ntmps74
 go_wp2
 go_loopg [5] k (fun kq v5 w' => ∃ (x5_1 : Int), v5 = .int .i64 x5_1 ∧ Aside0 (clerestoryref1_placeIn.l0 kq l0 a1 x5_1 = some r) ∧ Aside0 (kq ≤ k) ∧ Drawn0 w w')
 case atStart => exact ⟨(0), zj, H', ⟨Nat.le_refl _⟩, by repeat (first | exact Drawn0.refl _ | apply Drawn0.step)⟩
 case round =>
  clear H'
  obtain ⟨x5_1, rfl, HA, HK1, ⟨m1, rfl⟩⟩ := hrel
  cases gk with
  | zero => exact absurd HA.out (by simp [clerestoryref1_placeIn.l0])
  | succ k1 =>
   have H := HA.out
   clear HA
   simp only [clerestoryref1_placeIn.l0] at H
   refine iT H ?p3 ?n3 <;> clear H
   case' p3 =>
    intro c3b0 H
    refine iLp H ?_; clear H; intro c4b0 H
    obtain ⟨ad126, e126, hx126_0, p126, q126⟩ := atIA HR0.out x5_1 za za
    cases e126
    refine iE H ?p5 ?n5 <;> clear H
   case' p5 => intro c5b0 c5b1 H
   case' n5 => intro c5 c5b0 c5b1 H
   case' n3 => intro c3b0 H
   case p5|n3 =>
    obtain rfl := Option.some.inj H
    go_wp2
    go_ret
    exact ⟨by first | rfl | (simp; done) | (simp [*]; done), by repeat (first | exact Drawn0.refl _ | apply Drawn0.step)⟩
   case n5 =>
    have H' := aS H
    clear H
    go_wp2
    go_roundg k1
    case measure => have := HK1.out; omega
    case rel => exact ⟨(wrap64 (x5_1 + 1)), zj, H', ⟨by have := HK1.out; omega⟩, by repeat (first | exact Drawn0.refl _ | apply Drawn0.step)⟩
mutual
def clerestoryref1_DocErr.l0 : Nat → Int → Int → List (S43) → Bool → Option (Int)
 | 0, _, _, _, _ => none
 | k + 1, x3, x4, x128000, x128001 => if x4 < x3 then (if x4 = 0 then (if 0 ≤ x4 then (if x4 < (x128000.length : Int) then (if ((q00 x128000 x4).f0) = 1 then (if x4 > 0 then (clerestoryref1_DocErr.j1 k x3 x4 (((q00 x128000 x4).f0) == 1) x128000 x128001) else (clerestoryref1_DocErr.j1 k x3 x4 false x128000 x128001)) else (clerestoryref1_DocErr.j1 k x3 x4 true x128000 x128001)) else (none)) else (none)) else (if x4 > 0 then (if 0 ≤ x4 then (if x4 < (x128000.length : Int) then (clerestoryref1_DocErr.j1 k x3 x4 (((q00 x128000 x4).f0) == 1) x128000 x128001) else (none)) else (none)) else (clerestoryref1_DocErr.j1 k x3 x4 false x128000 x128001))) else (clerestoryref1_DocErr.l1 k x3 0 x128000 x128001)
def clerestoryref1_DocErr.j1 : Nat → Int → Int → Bool → List (S43) → Bool → Option (Int)
 | 0, _, _, _, _, _ => none
 | k + 1, x3, x4, x48, x128000, x128001 => if x48 = true then (some 3) else (if 0 ≤ x4 then (if x4 < (x128000.length : Int) then ((clerestoryref1_NodeErr.f k ((q00 x128000 x4).f0) ((q00 x128000 x4).f1) ((q00 x128000 x4).f2) ((q00 x128000 x4).f3) ((q00 x128000 x4).f4) ((q00 x128000 x4).f5)).bind fun t132 => (if t132 = 0 then (clerestoryref1_DocErr.l0 k x3 (wrap64 (x4 + 1)) x128000 x128001) else (some t132))) else (none)) else (none))
def clerestoryref1_DocErr.l1 : Nat → Int → Int → List (S43) → Bool → Option (Int)
 | 0, _, _, _, _ => none
 | k + 1, x3, x6, x128000, x128001 => if x6 < x3 then (clerestoryref1_DocErr.l2 k x3 x6 0 x128000 x128001) else (clerestoryref1_DocErr.l3 k x3 0 x128000 x128001)
def clerestoryref1_DocErr.l2 : Nat → Int → Int → Int → List (S43) → Bool → Option (Int)
 | 0, _, _, _, _, _ => none
 | k + 1, x3, x6, x7, x128000, x128001 => if 0 ≤ x6 then (if x6 < (x128000.length : Int) then (if x7 < (((q00 x128000 x6).f5).length : Int) then (if 0 ≤ x7 then ((clerestoryref1_between.f (rd ((q00 x128000 x6).f5) x7) 0 (wrap64 (x3 - 1))).bind fun t136 => (if t136 = true then (if 0 ≤ (rd ((q00 x128000 x6).f5) x7) then (if (rd ((q00 x128000 x6).f5) x7) < (x128000.length : Int) then (if ((q00 x128000 (rd ((q00 x128000 x6).f5) x7)).f4) = x6 then (if x7 ≤ (((q00 x128000 x6).f5).length : Int) then ((clerestoryref1_placeIn.f k (((q00 x128000 x6).f5).take (x7 : Int).toNat) (rd ((q00 x128000 x6).f5) x7)).bind fun t140 => (clerestoryref1_DocErr.j4 k x3 x6 x7 (rd ((q00 x128000 x6).f5) x7) (decide (t140 ≥ 0)) x128000 x128001)) else (none)) else (clerestoryref1_DocErr.j4 k x3 x6 x7 (rd ((q00 x128000 x6).f5) x7) true x128000 x128001)) else (none)) else (none)) else (clerestoryref1_DocErr.j4 k x3 x6 x7 (rd ((q00 x128000 x6).f5) x7) true x128000 x128001))) else (none)) else (clerestoryref1_DocErr.l1 k x3 (wrap64 (x6 + 1)) x128000 x128001)) else (none)) else (none)
def clerestoryref1_DocErr.j4 : Nat → Int → Int → Int → Int → Bool → List (S43) → Bool → Option (Int)
 | 0, _, _, _, _, _, _, _ => none
 | k + 1, x3, x6, x7, x8, x110, x128000, x128001 => if x110 = true then (some 3) else (if x6 = 0 then (if 0 ≤ x8 then (if x8 < (x128000.length : Int) then (if ((q00 x128000 x8).f0) = 3 then (some 7) else (clerestoryref1_DocErr.l2 k x3 x6 (wrap64 (x7 + 1)) x128000 x128001)) else (none)) else (none)) else (clerestoryref1_DocErr.l2 k x3 x6 (wrap64 (x7 + 1)) x128000 x128001))
def clerestoryref1_DocErr.l3 : Nat → Int → Int → List (S43) → Bool → Option (Int)
 | 0, _, _, _, _ => none
 | k + 1, x3, x9, x128000, x128001 => if x9 < x3 then (if 0 ≤ x9 then (if x9 < (x128000.length : Int) then (if ((q00 x128000 x9).f4) = (-1) then (clerestoryref1_DocErr.l3 k x3 (wrap64 (x9 + 1)) x128000 x128001) else ((clerestoryref1_between.f ((q00 x128000 x9).f4) 0 (wrap64 (x3 - 1))).bind fun t143 => (if t143 = true then (if 0 ≤ ((q00 x128000 x9).f4) then (if ((q00 x128000 x9).f4) < (x128000.length : Int) then ((clerestoryref1_placeIn.f k ((q00 x128000 ((q00 x128000 x9).f4)).f5) x9).bind fun t145 => (if t145 < 0 then (some 3) else (clerestoryref1_DocErr.l3 k x3 (wrap64 (x9 + 1)) x128000 x128001))) else (none)) else (none)) else (some 3)))) else (none)) else (none)) else (if 0 < (x128000.length : Int) then (if ((q00 x128000 0).f4) = (-1) then (clerestoryref1_DocErr.l4 k x3 0 x128000 x128001) else (some 3)) else (none))
def clerestoryref1_DocErr.l4 : Nat → Int → Int → List (S43) → Bool → Option (Int)
 | 0, _, _, _, _ => none
 | k + 1, x3, x11, x128000, x128001 => if x11 < x3 then ((clerestoryref1_Deep.f k x128000 x128001 x11).bind fun t147 => (if t147 < 0 then (some 8) else (if t147 > 40 then (some 2) else (clerestoryref1_DocErr.l4 k x3 (wrap64 (x11 + 1)) x128000 x128001)))) else (some 0)
end
def clerestoryref1_DocErr.f (k : Nat) (l0_0 : List (S43)) (a0_1 : Bool) : Option (Int) := if (l0_0.length : Int) > 200 then (some 2) else (if (l0_0.length : Int) = 0 then (some 3) else (clerestoryref1_DocErr.l0 k (l0_0.length : Int) 0 l0_0 a0_1))
set_option maxHeartbeats 8000000 in
set_option maxRecDepth 100000 in
theorem clerestoryref1_DocErr.calls (k : Nat) (A0_0 : Option Addr) (c0_0 : Nat) (l0_0 : List (S43)) (a0_1 : Bool) (r : Int) (w : World) (hr0_0 : Kd.C k43 w A0_0 l0_0.length l0_0) (hc0_0 : l0_0.length ≤ c0_0) (h : clerestoryref1_DocErr.f k l0_0 a0_1 = some r) :
 Calls Tryd.prog 17 #[.agg #[.slice A0_0 l0_0.length c0_0, .bool a0_1]] w fun e w' => e = .returned (.int .i64 r) ∧ Below w.heap.size w w' := by
 have hu24 := Tryd.underlying24
 have hu43 := Tryd.underlying43
 have HR0_0 := aS hr0_0
 have HC0_0 := aS hc0_0
 clear hr0_0 hc0_0
 have HB := aS (Below.refl w.heap.size w)
 have H := h; clear h; unfold clerestoryref1_DocErr.f at H
 refine iTN (m := 200) (n := l0_0.length) H rfl rfl ?p2 ?n2 <;> clear H
 case' p2 => intro c2b0 c2b1 H
 case' n2 => intro c2b0 c2b1 H; refine iG H ?p5 ?n5 <;> clear H
 case' p5 => intro c5 H; have c5b0 : ((l0_0.length : Int) == 0) = true := beq_iff_eq.mpr c5; have c5b1 : ((l0_0.length : Int) != 0) = false := bne_eq_false_iff_eq.mpr c5; clear c5
 case' n5 => intro c5 H; have c5b0 : ((l0_0.length : Int) == 0) = false := beq_eq_false_iff_ne.mpr c5; have c5b1 : ((l0_0.length : Int) != 0) = true := bne_iff_ne.mpr c5; have c5b2 : ¬ (l0_0 = []) := fun h_ => c5 (by rw [h_]; rfl)
 case p2 =>
  obtain rfl := Option.some.inj H
  go_enter Tryd.func17, Tryd.ntmps17
  go_wp2_with (first | ((with_reducible refine q0g (N := 1) rfl ?_); refine box0 rfl (N := 1) rfl (cs := #[.slice A0_0 l0_0.length c0_0, .bool a0_1]) (t := 24) zi (z6 HB.out) ?_; clear HB; intro gb127 w3 BK127 GW127 HB; have GE127 := GW127; obtain ⟨hczL_0, hczL_1, hfzL_0, hfzL_1⟩ := bk2 BK127.out))
  go_ret
  exact ⟨by first | rfl | (simp [q04, q03] <;> rfl) | (simp [*, q04, q03] <;> rfl), by repeat (first | (with_reducible first | exact HB.out | apply bA | apply bN | apply bD | refine bS ?_ GE127.out) | exact HB.out)⟩
 case p5 =>
  obtain rfl := Option.some.inj H
  go_enter Tryd.func17, Tryd.ntmps17
  go_wp2_with (first | ((with_reducible refine q0g (N := 1) rfl ?_); refine box0 rfl (N := 1) rfl (cs := #[.slice A0_0 l0_0.length c0_0, .bool a0_1]) (t := 24) zi (z6 HB.out) ?_; clear HB; intro gb127 w6 BK127 GW127 HB; have GE127 := GW127; obtain ⟨hczL_0, hczL_1, hfzL_0, hfzL_1⟩ := bk2 BK127.out))
  go_ret
  exact ⟨by first | rfl | (simp [q04, q03] <;> rfl) | (simp [*, q04, q03] <;> rfl), by repeat (first | (with_reducible first | exact HB.out | apply bA | apply bN | apply bD | refine bS ?_ GE127.out) | exact HB.out)⟩
 case n5 =>
  have H' := aS H
  clear H
  go_enter Tryd.func17, Tryd.ntmps17
  go_wp2_with (first | ((with_reducible refine q0g (N := 1) rfl ?_); refine box0 rfl (N := 1) rfl (cs := #[.slice A0_0 l0_0.length c0_0, .bool a0_1]) (t := 24) zi (z6 HB.out) ?_; clear HB; intro gb127 w8 BK127 GW127 HB; have GE127 := GW127; obtain ⟨hczL_0, hczL_1, hfzL_0, hfzL_1⟩ := bk2 BK127.out))
  go_loopg [4] k (fun kq v4 w' => ∃ (x4_1 : Int), v4 = .int .i64 x4_1 ∧ Aside0 (clerestoryref1_DocErr.l0 kq (l0_0.length : Int) x4_1 l0_0 a0_1 = some r) ∧ Aside0 (kq ≤ k) ∧ Aside0 (w'.heap[gb127]? = some (.cells #[(.slice A0_0 l0_0.length c0_0), .bool a0_1] 24 (0, 0))) ∧ Aside0 (Below w.heap.size w w'))
  case atStart => exact ⟨(0), zj, H', ⟨Nat.le_refl _⟩, ⟨by (with_reducible repeat (first | refine kN ?_ _ | refine kD ?_ | refine kA ?_ _)); exact BK127.out⟩, ⟨by repeat (first | (with_reducible first | exact HB.out | apply bA | apply bN | apply bD | refine bS ?_ GE127.out) | exact HB.out)⟩⟩
  case round =>
   clear H'
   obtain ⟨x4_1, rfl, HA, HK1, BK127, HB⟩ := hrel
   cases gk with
   | zero => exact absurd HA.out (by simp [clerestoryref1_DocErr.l0])
   | succ k1 =>
    have H := HA.out
    clear HA
    simp only [clerestoryref1_DocErr.l0] at H
    refine iT H ?p10 ?n10 <;> clear H
    case' p10 => intro c10b0 H
    case' n10 => intro c10b0 H
    case p10 =>
     have HC11 := aS H
     clear H
     go_upto_region 9 with (fail)
     go_cut [48] (fun v48 wc => ∃ (kq : Nat) (x48_10 : Bool), v48 = .bool x48_10 ∧ Aside0 (clerestoryref1_DocErr.j1 kq (l0_0.length : Int) x4_1 x48_10 l0_0 a0_1 = some r) ∧ Aside0 (kq ≤ k1) ∧ Aside0 (wc.heap[gb127]? = some (.cells #[(.slice A0_0 l0_0.length c0_0), .bool a0_1] 24 (0, 0))) ∧ Aside0 (Below w.heap.size w wc))
     case first =>
      have H := HC11.out
      clear HC11
      refine iE H ?p12 ?n12 <;> clear H
      case' p12 =>
       intro c12b0 c12b1 H
       (first | rw [c12b0] | (simp only [q0p, q0r]; rw [c12b0]) | skip)
       obtain ⟨hczL_0, hczL_1, hfzL_0, hfzL_1⟩ := bk2 BK127.out
       refine iLp H ?_; clear H; intro c13b0 H
       refine iTp H ?_; clear H; intro c14b0 H
       obtain ⟨ad128, A128_2, c128_2, A128_5, c128_5, e128, hx128_0, hx128_1, hx128_2, hx128_3, hx128_4, hx128_5, HC128_2, HR128_2, HC128_5, HR128_5, p128, q128⟩ := q0m HB.out HR0_0.out x4_1 za za
       cases e128
       refine iE H ?p15 ?n15 <;> clear H
      case' p15 => intro c15b0 c15b1 H; refine iT H ?p16 ?n16 <;> clear H
      case' p16 => intro c16b0 H
      case' n16 => intro c16b0 H
      case' n15 => intro c15 c15b0 c15b1 H
      case' n12 => intro c12 c12b0 c12b1 H; (first | rw [c12b0] | (simp only [q0p, q0r]; rw [c12b0]) | skip); refine iT H ?p20 ?n20 <;> clear H
      case' p20 => intro c20b0 H; obtain ⟨hczL_0, hczL_1, hfzL_0, hfzL_1⟩ := bk2 BK127.out; refine iLp H ?_; clear H; intro c21b0 H; refine iTp H ?_; clear H; intro c22b0 H
      case' n20 => intro c20b0 H
      case p16 =>
       have H' := aS H
       clear H
       obtain ⟨ad129, A129_2, c129_2, A129_5, c129_5, e129, hx129_0, hx129_1, hx129_2, hx129_3, hx129_4, hx129_5, HC129_2, HR129_2, HC129_5, HR129_5, p129, q129⟩ := q0m HB.out HR0_0.out x4_1 za za
       obtain rfl : ad128 = ad129 := (by injection e129)
       have ea_ := Option.some.inj (hx128_2.symm.trans hx129_2)
       injection ea_ with ea_ en_ ec_
       subst ea_
       subst ec_
       clear en_
       have ea_ := Option.some.inj (hx128_5.symm.trans hx129_5)
       injection ea_ with ea_ en_ ec_
       subst ea_
       subst ec_
       clear en_
       go_wp2
       go_meet
       case rel => exact ⟨_, ((((q00 l0_0 x4_1).f0) == 1)), zj, H', ⟨by have := HK1.out; first | omega | exact Nat.le_refl _⟩, ⟨by (with_reducible repeat (first | refine kN ?_ _ | refine kD ?_ | refine kA ?_ _)); exact BK127.out⟩, ⟨by repeat (first | (with_reducible first | exact HB.out | apply bA | apply bN | apply bD | refine bS ?_ GE127.out) | exact HB.out)⟩⟩
      case n16|n15|n20 =>
       have H' := aS H
       clear H
       go_wp2
       go_meet
       case rel => exact ⟨_, _, zj, H', ⟨by have := HK1.out; first | omega | exact Nat.le_refl _⟩, ⟨by (with_reducible repeat (first | refine kN ?_ _ | refine kD ?_ | refine kA ?_ _)); exact BK127.out⟩, ⟨by repeat (first | (with_reducible first | exact HB.out | apply bA | apply bN | apply bD | refine bS ?_ GE127.out) | exact HB.out)⟩⟩
      case p20 =>
       have H' := aS H
       clear H
       obtain ⟨ad130, A130_2, c130_2, A130_5, c130_5, e130, hx130_0, hx130_1, hx130_2, hx130_3, hx130_4, hx130_5, HC130_2, HR130_2, HC130_5, HR130_5, p130, q130⟩ := q0m HB.out HR0_0.out x4_1 za za
       cases e130
       go_wp2
       go_meet
       case rel => exact ⟨_, ((((q00 l0_0 x4_1).f0) == 1)), zj, H', ⟨by have := HK1.out; first | omega | exact Nat.le_refl _⟩, ⟨by (with_reducible repeat (first | refine kN ?_ _ | refine kD ?_ | refine kA ?_ _)); exact BK127.out⟩, ⟨by repeat (first | (with_reducible first | exact HB.out | apply bA | apply bN | apply bD | refine bS ?_ GE127.out) | exact HB.out)⟩⟩
     case rest =>
      clear HC11
      obtain ⟨kq, x48_10, rfl, HA, HJ10, BK127, HB⟩ := hcut
      cases kq with
      | zero => exact absurd HA.out (by simp [clerestoryref1_DocErr.j1])
      | succ kj10 =>
       have H := HA.out
       clear HA
       simp only [clerestoryref1_DocErr.j1] at H
       refine iV H ?p24 ?n24 <;> clear H
       case' p24 => intro c24 H; subst c24
       case' n24 =>
        intro c24 H; subst c24
        obtain ⟨hczL_0, hczL_1, hfzL_0, hfzL_1⟩ := bk2 BK127.out
        refine iLp H ?_; clear H; intro c25b0 H
        refine iTp H ?_; clear H; intro c26b0 H
        replace H := iB H
        obtain ⟨t132, A27, H⟩ := H
        obtain ⟨ad131, A131_2, c131_2, A131_5, c131_5, e131, hx131_0, hx131_1, hx131_2, hx131_3, hx131_4, hx131_5, HC131_2, HR131_2, HC131_5, HR131_5, p131, q131⟩ := q0m HB.out HR0_0.out x4_1 za za
        cases e131
        refine iE H ?p28 ?n28 <;> clear H
       case' p28 => intro c28b0 c28b1 H
       case' n28 => intro c28 c28b0 c28b1 H
       case p24 =>
        obtain rfl := Option.some.inj H
        go_wp2
        go_ret
        exact ⟨by first | rfl | (simp [q04, q03] <;> rfl) | (simp [*, q04, q03] <;> rfl), by repeat (first | (with_reducible first | exact HB.out | apply bA | apply bN | apply bD | refine bS ?_ GE127.out) | exact HB.out)⟩
       case p28 =>
        have H' := aS H
        clear H
        go_wp2_with (first | ((with_reducible refine q06 (f := 72) rfl ?_); refine q0l (some 54) rfl rfl Tryd.func72 (by kernel_rfl) rfl #[.agg #[.int .i64 ((q00 l0_0 x4_1).f0), .string ((q00 l0_0 x4_1).f1), .slice A131_2 ((q00 l0_0 x4_1).f2).length c131_2, .string ((q00 l0_0 x4_1).f3), .int .i64 ((q00 l0_0 x4_1).f4), .slice A131_5 ((q00 l0_0 x4_1).f5).length c131_5]] rfl zd ?_; (with_reducible refine (clerestoryref1_NodeErr.calls kj10 ((q00 l0_0 x4_1).f0) ((q00 l0_0 x4_1).f1) _ _ ((q00 l0_0 x4_1).f2) ((q00 l0_0 x4_1).f3) ((q00 l0_0 x4_1).f4) _ _ ((q00 l0_0 x4_1).f5) t132 _ ?side1 ?side2 ?side3 ?side4 A27.out).mono ?_); (case side1 => repeat (first | exact (Kd.C_below HR131_2.out HB.out) | (with_reducible refine cA ?_ _) | (with_reducible refine cN ?_ _) | (with_reducible refine cD ?_))); (case side2 => exact HC131_2.out); (case side3 => repeat (first | exact (Kd.C_below HR131_5.out HB.out) | (with_reducible refine cA ?_ _) | (with_reducible refine cN ?_ _) | (with_reducible refine cD ?_))); (case side4 => exact HC131_5.out); rintro e w30 ⟨rfl, hb⟩; refine ⟨_, rfl, ?_⟩; replace BK127 := aS (q07 (g := gb127) (o := .cells #[.slice (some ad131) l0_0.length c0_0, .bool a0_1] 24 (0, 0)) (z8 BK127.out) hb); replace HB := aS (q01 (z1 HB.out GE127.out) hb); (try clear hb); (try clear hb2); (try clear hk); (try clear hi)))
        go_roundg kj10
        case measure => have := HK1.out; have := HJ10.out; omega
        case rel => exact ⟨(wrap64 (x4_1 + 1)), zj, H', ⟨by have := HK1.out; have := HJ10.out; omega⟩, ⟨by (with_reducible repeat (first | refine kN ?_ _ | refine kD ?_ | refine kA ?_ _)); exact BK127.out⟩, ⟨by repeat (first | (with_reducible first | exact HB.out | apply bA | apply bN | apply bD | refine bS ?_ GE127.out) | exact HB.out)⟩⟩
       case n28 =>
        obtain rfl := Option.some.inj H
        go_wp2_with (first | ((with_reducible refine q06 (f := 72) rfl ?_); refine q0l (some 54) rfl rfl Tryd.func72 (by kernel_rfl) rfl #[.agg #[.int .i64 ((q00 l0_0 x4_1).f0), .string ((q00 l0_0 x4_1).f1), .slice A131_2 ((q00 l0_0 x4_1).f2).length c131_2, .string ((q00 l0_0 x4_1).f3), .int .i64 ((q00 l0_0 x4_1).f4), .slice A131_5 ((q00 l0_0 x4_1).f5).length c131_5]] rfl zd ?_; (with_reducible refine (clerestoryref1_NodeErr.calls kj10 ((q00 l0_0 x4_1).f0) ((q00 l0_0 x4_1).f1) _ _ ((q00 l0_0 x4_1).f2) ((q00 l0_0 x4_1).f3) ((q00 l0_0 x4_1).f4) _ _ ((q00 l0_0 x4_1).f5) t132 _ ?side1 ?side2 ?side3 ?side4 A27.out).mono ?_); (case side1 => repeat (first | exact (Kd.C_below HR131_2.out HB.out) | (with_reducible refine cA ?_ _) | (with_reducible refine cN ?_ _) | (with_reducible refine cD ?_))); (case side2 => exact HC131_2.out); (case side3 => repeat (first | exact (Kd.C_below HR131_5.out HB.out) | (with_reducible refine cA ?_ _) | (with_reducible refine cN ?_ _) | (with_reducible refine cD ?_))); (case side4 => exact HC131_5.out); rintro e w32 ⟨rfl, hb⟩; refine ⟨_, rfl, ?_⟩; replace BK127 := aS (q07 (g := gb127) (o := .cells #[.slice (some ad131) l0_0.length c0_0, .bool a0_1] 24 (0, 0)) (z8 BK127.out) hb); replace HB := aS (q01 (z1 HB.out GE127.out) hb); (try clear hb); (try clear hb2); (try clear hk); (try clear hi)))
        go_ret
        exact ⟨by first | rfl | (simp [q04, q03] <;> rfl) | (simp [*, q04, q03] <;> rfl), by repeat (first | (with_reducible first | exact HB.out | apply bA | apply bN | apply bD | refine bS ?_ GE127.out) | exact HB.out)⟩
    case n10 =>
     have H' := aS H
     clear H
     go_wp2
     go_loopg [6] k1 (fun kq v6 w' => ∃ (x6_2 : Int), v6 = .int .i64 x6_2 ∧ Aside0 (clerestoryref1_DocErr.l1 kq (l0_0.length : Int) x6_2 l0_0 a0_1 = some r) ∧ Aside0 (kq ≤ k1) ∧ Aside0 (w'.heap[gb127]? = some (.cells #[(.slice A0_0 l0_0.length c0_0), .bool a0_1] 24 (0, 0))) ∧ Aside0 (Below w.heap.size w w'))
     case atStart => exact ⟨(0), zj, H', ⟨Nat.le_refl _⟩, ⟨by (with_reducible repeat (first | refine kN ?_ _ | refine kD ?_ | refine kA ?_ _)); exact BK127.out⟩, ⟨by repeat (first | (with_reducible first | exact HB.out | apply bA | apply bN | apply bD | refine bS ?_ GE127.out) | exact HB.out)⟩⟩
     case round =>
      clear H'
      obtain ⟨x6_2, rfl, HA, HK2, BK127, HB⟩ := hrel
      cases gk with
      | zero => exact absurd HA.out (by simp [clerestoryref1_DocErr.l1])
      | succ k2 =>
       have H := HA.out
       clear HA
       simp only [clerestoryref1_DocErr.l1] at H
       refine iT H ?p33 ?n33 <;> clear H
       case' p33 => intro c33b0 H
       case' n33 => intro c33b0 H
       case p33 =>
        have H' := aS H
        clear H
        go_wp2
        go_loopg [7] k2 (fun kq v7 w' => ∃ (x7_3 : Int), v7 = .int .i64 x7_3 ∧ Aside0 (clerestoryref1_DocErr.l2 kq (l0_0.length : Int) x6_2 x7_3 l0_0 a0_1 = some r) ∧ Aside0 (kq ≤ k2) ∧ Aside0 (w'.heap[gb127]? = some (.cells #[(.slice A0_0 l0_0.length c0_0), .bool a0_1] 24 (0, 0))) ∧ Aside0 (Below w.heap.size w w'))
        case atStart => exact ⟨(0), zj, H', ⟨Nat.le_refl _⟩, ⟨by (with_reducible repeat (first | refine kN ?_ _ | refine kD ?_ | refine kA ?_ _)); exact BK127.out⟩, ⟨by repeat (first | (with_reducible first | exact HB.out | apply bA | apply bN | apply bD | refine bS ?_ GE127.out) | exact HB.out)⟩⟩
        case round =>
         clear H'
         obtain ⟨x7_3, rfl, HA, HK3, BK127, HB⟩ := hrel
         cases gk with
         | zero => exact absurd HA.out (by simp [clerestoryref1_DocErr.l2])
         | succ k3 =>
          have H := HA.out
          clear HA
          simp only [clerestoryref1_DocErr.l2] at H
          refine iLp H ?_; clear H; intro c34b0 H
          refine iTp H ?_; clear H; intro c35b0 H
          refine iT H ?p36 ?n36 <;> clear H
          case' p36 => intro c36b0 H; refine iLp H ?_; clear H; intro c37b0 H
          case' n36 => intro c36b0 H
          case p36 =>
           have HC38 := aS H
           clear H
           obtain ⟨hczL_0, hczL_1, hfzL_0, hfzL_1⟩ := bk2 BK127.out
           obtain ⟨ad133, A133_2, c133_2, A133_5, c133_5, e133, hx133_0, hx133_1, hx133_2, hx133_3, hx133_4, hx133_5, HC133_2, HR133_2, HC133_5, HR133_5, p133, q133⟩ := q0m HB.out HR0_0.out x6_2 za za
           cases e133
           obtain ⟨ad134, A134_2, c134_2, A134_5, c134_5, e134, hx134_0, hx134_1, hx134_2, hx134_3, hx134_4, hx134_5, HC134_2, HR134_2, HC134_5, HR134_5, p134, q134⟩ := q0m HB.out HR0_0.out x6_2 za za
           obtain rfl : ad133 = ad134 := (by injection e134)
           have ea_ := Option.some.inj (hx133_2.symm.trans hx134_2)
           injection ea_ with ea_ en_ ec_
           subst ea_
           subst ec_
           clear en_
           have ea_ := Option.some.inj (hx133_5.symm.trans hx134_5)
           injection ea_ with ea_ en_ ec_
           subst ea_
           subst ec_
           clear en_
           obtain ⟨ad135, e135, hx135_0, p135, q135⟩ := atIB HB.out HR134_5.out x7_3 za za
           cases e135
           go_upto_region 21 with (fail)
           go_cut [110] (fun v110 wc => ∃ (kq : Nat) (x110_37 : Bool), v110 = .bool x110_37 ∧ Aside0 (clerestoryref1_DocErr.j4 kq (l0_0.length : Int) x6_2 x7_3 (rd ((q00 l0_0 x6_2).f5) x7_3) x110_37 l0_0 a0_1 = some r) ∧ Aside0 (kq ≤ k3) ∧ Aside0 (wc.heap[gb127]? = some (.cells #[(.slice (some ad133) l0_0.length c0_0), .bool a0_1] 24 (0, 0))) ∧ Aside0 (Below w.heap.size w wc))
           case first =>
            have H := HC38.out
            clear HC38
            replace H := iB H
            obtain ⟨t136, A40, H⟩ := H
            refine iV H ?p41 ?n41 <;> clear H
            case' p41 => intro c41 H; subst c41; refine iLp H ?_; clear H; intro c42b0 H; (first | rw [c42b0] | (simp only [q0p, q0r]; rw [c42b0]) | skip); refine iTp H ?_; clear H; intro c43b0 H; refine iE H ?p44 ?n44 <;> clear H
            case' p44 => intro c44b0 c44b1 H; have c45b0 := eq_true (od za : 0 ≤ x7_3); refine iGp H ?_; clear H; intro c46 H; have c46b0 := eq_true c46; have c46b1 : decide (x7_3 ≤ (((q00 l0_0 x6_2).f5).length : Int)) = true := decide_eq_true c46; clear c46
            case' n44 => intro c44 c44b0 c44b1 H
            case' n41 => intro c41 H; subst c41
            case p44 =>
             replace H := iB H
             obtain ⟨t140, A47, H⟩ := H
             have H' := aS H
             clear H
             go_wp2_with (first | ((with_reducible refine q06 (f := 73) rfl ?_); refine q0l (some 86) rfl rfl Tryd.func73 (by kernel_rfl) rfl #[.int .i64 (rd ((q00 l0_0 x6_2).f5) x7_3), .int .i64 0, .int .i64 (wrap64 ((l0_0.length : Int) - 1))] rfl zd ?_; (with_reducible refine (clerestoryref1_between.calls (rd ((q00 l0_0 x6_2).f5) x7_3) 0 (wrap64 ((l0_0.length : Int) - 1)) true _ A40.out).mono ?_); rintro e w' ⟨rfl, ⟨nd, rfl⟩⟩; refine ⟨_, rfl, ?_⟩; obtain ⟨hczL_0, hczL_1, hfzL_0, hfzL_1⟩ := bk2 BK127.out; obtain ⟨ad137, A137_2, c137_2, A137_5, c137_5, e137, hx137_0, hx137_1, hx137_2, hx137_3, hx137_4, hx137_5, HC137_2, HR137_2, HC137_5, HR137_5, p137, q137⟩ := q0m HB.out HR0_0.out (rd ((q00 l0_0 x6_2).f5) x7_3) za za; obtain rfl : ad133 = ad137 := (by injection e137); obtain ⟨ad138, A138_2, c138_2, A138_5, c138_5, e138, hx138_0, hx138_1, hx138_2, hx138_3, hx138_4, hx138_5, HC138_2, HR138_2, HC138_5, HR138_5, p138, q138⟩ := q0m HB.out HR0_0.out x6_2 za za; obtain rfl : ad133 = ad138 := (by injection e138); obtain ⟨i049, hi049, _, hsz49, _⟩ := info_parts info3; obtain ⟨hcut49, hA49, hC49⟩ := print_take_of (P := Tryd.prog) (Value.int .i64) 0 31 3 .i64 Tryd.underlying31 hi049 hsz49 A138_5 c138_5 ((q00 l0_0 x6_2).f5) x7_3 (od za) (od za) HC138_5.out; have HR139 := aS (Kd.C_of_reads (h1 := fun _ => rfl) (hA49 _ (Kd.reads_of_C HR138_5.out))); have HC139 := aS hC49; clear hA49 hC49 hi049 hsz49; obtain ⟨rfl, rfl⟩ : A138_5 = _ ∧ c138_5 = _ := (by have e_ := hx138_5.symm.trans hx134_5; injection e_ with e_; injection e_ with e1_ _ e2_; exact ⟨e1_, e2_⟩); have HSL139 := aS (show (((q00 l0_0 x6_2).f5).take (x7_3 : Int).toNat).length = x7_3.toNat from (by rw [List.length_take]; have h_ : (x7_3 : Int) ≤ (((q00 l0_0 x6_2).f5).length : Int) := od za; omega))) | (go_at_call 74; (try rw [← HSL139.out]); (with_reducible refine (clerestoryref1_placeIn.calls k3 _ _ (((q00 l0_0 x6_2).f5).take (x7_3 : Int).toNat) (rd ((q00 l0_0 x6_2).f5) x7_3) t140 _ ?side1 ?side2 A47.out).mono ?_); (case side1 => repeat (first | exact (Kd.C_below HR139.out (z1 HB.out GE127.out)) | (with_reducible refine cA ?_ _) | (with_reducible refine cN ?_ _) | (with_reducible refine cD ?_))); (case side2 => exact HC139.out); rintro e w' ⟨rfl, ⟨nd, rfl⟩⟩))
             go_meet
             case rel => exact ⟨_, _, zj, H', ⟨by have := HK1.out; have := HK2.out; have := HK3.out; first | omega | exact Nat.le_refl _⟩, ⟨by (with_reducible repeat (first | refine kN ?_ _ | refine kD ?_ | refine kA ?_ _)); exact BK127.out⟩, ⟨by repeat (first | (with_reducible first | exact HB.out | apply bA | apply bN | apply bD | refine bS ?_ GE127.out) | exact HB.out)⟩⟩
            case n44 =>
             have H' := aS H
             clear H
             go_wp2_with (first | ((with_reducible refine q06 (f := 73) rfl ?_); refine q0l (some 86) rfl rfl Tryd.func73 (by kernel_rfl) rfl #[.int .i64 (rd ((q00 l0_0 x6_2).f5) x7_3), .int .i64 0, .int .i64 (wrap64 ((l0_0.length : Int) - 1))] rfl zd ?_; (with_reducible refine (clerestoryref1_between.calls (rd ((q00 l0_0 x6_2).f5) x7_3) 0 (wrap64 ((l0_0.length : Int) - 1)) true _ A40.out).mono ?_); rintro e w' ⟨rfl, ⟨nd, rfl⟩⟩; refine ⟨_, rfl, ?_⟩; obtain ⟨hczL_0, hczL_1, hfzL_0, hfzL_1⟩ := bk2 BK127.out; obtain ⟨ad137, A137_2, c137_2, A137_5, c137_5, e137, hx137_0, hx137_1, hx137_2, hx137_3, hx137_4, hx137_5, HC137_2, HR137_2, HC137_5, HR137_5, p137, q137⟩ := q0m HB.out HR0_0.out (rd ((q00 l0_0 x6_2).f5) x7_3) za za; obtain rfl : ad133 = ad137 := (by injection e137)))
             go_meet
             case rel => exact ⟨_, _, zj, H', ⟨by have := HK1.out; have := HK2.out; have := HK3.out; first | omega | exact Nat.le_refl _⟩, ⟨by (with_reducible repeat (first | refine kN ?_ _ | refine kD ?_ | refine kA ?_ _)); exact BK127.out⟩, ⟨by repeat (first | (with_reducible first | exact HB.out | apply bA | apply bN | apply bD | refine bS ?_ GE127.out) | exact HB.out)⟩⟩
            case n41 =>
             have H' := aS H
             clear H
             go_wp2_with (first | ((with_reducible refine q06 (f := 73) rfl ?_); refine q0l (some 86) rfl rfl Tryd.func73 (by kernel_rfl) rfl #[.int .i64 (rd ((q00 l0_0 x6_2).f5) x7_3), .int .i64 0, .int .i64 (wrap64 ((l0_0.length : Int) - 1))] rfl zd ?_; (with_reducible refine (clerestoryref1_between.calls (rd ((q00 l0_0 x6_2).f5) x7_3) 0 (wrap64 ((l0_0.length : Int) - 1)) false _ A40.out).mono ?_); rintro e w' ⟨rfl, ⟨nd, rfl⟩⟩; refine ⟨_, rfl, ?_⟩))
             go_meet
             case rel => exact ⟨_, _, zj, H', ⟨by have := HK1.out; have := HK2.out; have := HK3.out; first | omega | exact Nat.le_refl _⟩, ⟨by (with_reducible repeat (first | refine kN ?_ _ | refine kD ?_ | refine kA ?_ _)); exact BK127.out⟩, ⟨by repeat (first | (with_reducible first | exact HB.out | apply bA | apply bN | apply bD | refine bS ?_ GE127.out) | exact HB.out)⟩⟩
           case rest =>
            clear HC38
            obtain ⟨kq, x110_37, rfl, HA, HJ37, BK127, HB⟩ := hcut
            cases kq with
            | zero => exact absurd HA.out (by simp [clerestoryref1_DocErr.j4])
            | succ kj37 =>
             have H := HA.out
             clear HA
             simp only [clerestoryref1_DocErr.j4] at H
             refine iV H ?p51 ?n51 <;> clear H
             case' p51 => intro c51 H; subst c51
             case' n51 => intro c51 H; subst c51; refine iE H ?p52 ?n52 <;> clear H
             case' p52 =>
              intro c52b0 c52b1 H
              obtain ⟨hczL_0, hczL_1, hfzL_0, hfzL_1⟩ := bk2 BK127.out
              refine iLp H ?_; clear H; intro c53b0 H
              refine iTp H ?_; clear H; intro c54b0 H
              obtain ⟨ad141, A141_2, c141_2, A141_5, c141_5, e141, hx141_0, hx141_1, hx141_2, hx141_3, hx141_4, hx141_5, HC141_2, HR141_2, HC141_5, HR141_5, p141, q141⟩ := q0m HB.out HR0_0.out (rd ((q00 l0_0 x6_2).f5) x7_3) za za
              obtain rfl : ad133 = ad141 := (by injection e141)
              refine iE H ?p55 ?n55 <;> clear H
             case' p55 => intro c55b0 c55b1 H
             case' n55 => intro c55 c55b0 c55b1 H
             case' n52 => intro c52 c52b0 c52b1 H
             case p51|p55 =>
              obtain rfl := Option.some.inj H
              go_wp2
              go_ret
              exact ⟨by first | rfl | (simp [q04, q03] <;> rfl) | (simp [*, q04, q03] <;> rfl), by repeat (first | (with_reducible first | exact HB.out | apply bA | apply bN | apply bD | refine bS ?_ GE127.out) | exact HB.out)⟩
             case n55|n52 =>
              have H' := aS H
              clear H
              go_wp2
              go_roundg kj37
              case measure => have := HK1.out; have := HK2.out; have := HK3.out; have := HJ37.out; omega
              case rel => exact ⟨(wrap64 (x7_3 + 1)), zj, H', ⟨by have := HK1.out; have := HK2.out; have := HK3.out; have := HJ37.out; omega⟩, ⟨by (with_reducible repeat (first | refine kN ?_ _ | refine kD ?_ | refine kA ?_ _)); exact BK127.out⟩, ⟨by repeat (first | (with_reducible first | exact HB.out | apply bA | apply bN | apply bD | refine bS ?_ GE127.out) | exact HB.out)⟩⟩
          case n36 =>
           have H' := aS H
           clear H
           obtain ⟨hczL_0, hczL_1, hfzL_0, hfzL_1⟩ := bk2 BK127.out
           obtain ⟨ad133, A133_2, c133_2, A133_5, c133_5, e133, hx133_0, hx133_1, hx133_2, hx133_3, hx133_4, hx133_5, HC133_2, HR133_2, HC133_5, HR133_5, p133, q133⟩ := q0m HB.out HR0_0.out x6_2 za za
           cases e133
           go_wp2
           go_roundg k3
           case measure => have := HK1.out; have := HK2.out; have := HK3.out; omega
           case rel => exact ⟨(wrap64 (x6_2 + 1)), zj, H', ⟨by have := HK1.out; have := HK2.out; have := HK3.out; omega⟩, ⟨by (with_reducible repeat (first | refine kN ?_ _ | refine kD ?_ | refine kA ?_ _)); exact BK127.out⟩, ⟨by repeat (first | (with_reducible first | exact HB.out | apply bA | apply bN | apply bD | refine bS ?_ GE127.out) | exact HB.out)⟩⟩
       case n33 =>
        have H' := aS H
        clear H
        go_wp2
        go_loopg [9] k2 (fun kq v9 w' => ∃ (x9_3 : Int), v9 = .int .i64 x9_3 ∧ Aside0 (clerestoryref1_DocErr.l3 kq (l0_0.length : Int) x9_3 l0_0 a0_1 = some r) ∧ Aside0 (kq ≤ k2) ∧ Aside0 (w'.heap[gb127]? = some (.cells #[(.slice A0_0 l0_0.length c0_0), .bool a0_1] 24 (0, 0))) ∧ Aside0 (Below w.heap.size w w'))
        case atStart => exact ⟨(0), zj, H', ⟨Nat.le_refl _⟩, ⟨by (with_reducible repeat (first | refine kN ?_ _ | refine kD ?_ | refine kA ?_ _)); exact BK127.out⟩, ⟨by repeat (first | (with_reducible first | exact HB.out | apply bA | apply bN | apply bD | refine bS ?_ GE127.out) | exact HB.out)⟩⟩
        case round =>
         clear H'
         obtain ⟨x9_3, rfl, HA, HK3, BK127, HB⟩ := hrel
         cases gk with
         | zero => exact absurd HA.out (by simp [clerestoryref1_DocErr.l3])
         | succ k3 =>
          have H := HA.out
          clear HA
          simp only [clerestoryref1_DocErr.l3] at H
          obtain ⟨hczL_0, hczL_1, hfzL_0, hfzL_1⟩ := bk2 BK127.out
          refine iT H ?p59 ?n59 <;> clear H
          case' p59 => intro c59b0 H; refine iLp H ?_; clear H; intro c60b0 H; refine iTp H ?_; clear H; intro c61b0 H; refine iE H ?p62 ?n62 <;> clear H
          case' p62 => intro c62b0 c62b1 H
          case' n62 => intro c62 c62b0 c62b1 H; replace H := iB H; obtain ⟨t143, A64, H⟩ := H; refine iV H ?p65 ?n65 <;> clear H
          case' p65 =>
           intro c65 H; subst c65
           refine iLp H ?_; clear H; intro c66b0 H
           refine iTp H ?_; clear H; intro c67b0 H
           replace H := iB H
           obtain ⟨t145, A68, H⟩ := H
           obtain ⟨ad142, A142_2, c142_2, A142_5, c142_5, e142, hx142_0, hx142_1, hx142_2, hx142_3, hx142_4, hx142_5, HC142_2, HR142_2, HC142_5, HR142_5, p142, q142⟩ := q0m HB.out HR0_0.out x9_3 za za
           cases e142
           refine iT H ?p69 ?n69 <;> clear H
          case' p69 => intro c69b0 H
          case' n69 => intro c69b0 H
          case' n65 => intro c65 H; subst c65
          case' n59 =>
           intro c59b0 H
           refine iTNp (m := 0) (n := l0_0.length) H rfl rfl ?_; clear H; intro c73b0 c73b1 H
           have p146 : 0 ≤ (0 : Int) := (by omega)
           have q146 : 0 < (l0_0.length : Int) := od za
           obtain ⟨ad146, A146_2, c146_2, A146_5, c146_5, e146, hx146_0, hx146_1, hx146_2, hx146_3, hx146_4, hx146_5, hl146_2, hi146_2, hl146_5, hi146_5⟩ := at_T43 HR0_0.out 0 p146 q146
           cases e146
           refine iE H ?p74 ?n74 <;> clear H
          case' p74 => intro c74b0 c74b1 H
          case' n74 => intro c74 c74b0 c74b1 H
          case p62 =>
           have H' := aS H
           clear H
           obtain ⟨ad142, A142_2, c142_2, A142_5, c142_5, e142, hx142_0, hx142_1, hx142_2, hx142_3, hx142_4, hx142_5, HC142_2, HR142_2, HC142_5, HR142_5, p142, q142⟩ := q0m HB.out HR0_0.out x9_3 za za
           cases e142
           go_wp2
           go_roundg k3
           case measure => have := HK1.out; have := HK2.out; have := HK3.out; omega
           case rel => exact ⟨(wrap64 (x9_3 + 1)), zj, H', ⟨by have := HK1.out; have := HK2.out; have := HK3.out; omega⟩, ⟨by (with_reducible repeat (first | refine kN ?_ _ | refine kD ?_ | refine kA ?_ _)); exact BK127.out⟩, ⟨by repeat (first | (with_reducible first | exact HB.out | apply bA | apply bN | apply bD | refine bS ?_ GE127.out) | exact HB.out)⟩⟩
          case p69 =>
           obtain rfl := Option.some.inj H
           go_wp2_with (first | (go_at_call 73; (with_reducible refine (clerestoryref1_between.calls ((q00 l0_0 x9_3).f4) 0 (wrap64 ((l0_0.length : Int) - 1)) true _ A64.out).mono ?_); rintro e w' ⟨rfl, ⟨nd, rfl⟩⟩; obtain ⟨ad144, A144_2, c144_2, A144_5, c144_5, e144, hx144_0, hx144_1, hx144_2, hx144_3, hx144_4, hx144_5, HC144_2, HR144_2, HC144_5, HR144_5, p144, q144⟩ := q0m HB.out HR0_0.out ((q00 l0_0 x9_3).f4) za za; obtain rfl : ad142 = ad144 := (by injection e144)) | (go_at_call 74; (with_reducible refine (clerestoryref1_placeIn.calls k3 _ _ ((q00 l0_0 ((q00 l0_0 x9_3).f4)).f5) x9_3 t145 _ ?side1 ?side2 A68.out).mono ?_); (case side1 => repeat (first | exact (Kd.C_below HR144_5.out (z1 HB.out GE127.out)) | (with_reducible refine cA ?_ _) | (with_reducible refine cN ?_ _) | (with_reducible refine cD ?_))); (case side2 => exact HC144_5.out); rintro e w' ⟨rfl, ⟨nd, rfl⟩⟩))
           go_ret
           exact ⟨by first | rfl | (simp [q04, q03] <;> rfl) | (simp [*, q04, q03] <;> rfl), by repeat (first | (with_reducible first | exact HB.out | apply bA | apply bN | apply bD | refine bS ?_ GE127.out) | exact HB.out)⟩
          case n69 =>
           have H' := aS H
           clear H
           go_wp2_with (first | (go_at_call 73; (with_reducible refine (clerestoryref1_between.calls ((q00 l0_0 x9_3).f4) 0 (wrap64 ((l0_0.length : Int) - 1)) true _ A64.out).mono ?_); rintro e w' ⟨rfl, ⟨nd, rfl⟩⟩; obtain ⟨ad144, A144_2, c144_2, A144_5, c144_5, e144, hx144_0, hx144_1, hx144_2, hx144_3, hx144_4, hx144_5, HC144_2, HR144_2, HC144_5, HR144_5, p144, q144⟩ := q0m HB.out HR0_0.out ((q00 l0_0 x9_3).f4) za za; obtain rfl : ad142 = ad144 := (by injection e144)) | (go_at_call 74; (with_reducible refine (clerestoryref1_placeIn.calls k3 _ _ ((q00 l0_0 ((q00 l0_0 x9_3).f4)).f5) x9_3 t145 _ ?side1 ?side2 A68.out).mono ?_); (case side1 => repeat (first | exact (Kd.C_below HR144_5.out (z1 HB.out GE127.out)) | (with_reducible refine cA ?_ _) | (with_reducible refine cN ?_ _) | (with_reducible refine cD ?_))); (case side2 => exact HC144_5.out); rintro e w' ⟨rfl, ⟨nd, rfl⟩⟩))
           go_roundg k3
           case measure => have := HK1.out; have := HK2.out; have := HK3.out; omega
           case rel => exact ⟨(wrap64 (x9_3 + 1)), zj, H', ⟨by have := HK1.out; have := HK2.out; have := HK3.out; omega⟩, ⟨by (with_reducible repeat (first | refine kN ?_ _ | refine kD ?_ | refine kA ?_ _)); exact BK127.out⟩, ⟨by repeat (first | (with_reducible first | exact HB.out | apply bA | apply bN | apply bD | refine bS ?_ GE127.out) | exact HB.out)⟩⟩
          case n65 =>
           obtain rfl := Option.some.inj H
           obtain ⟨ad142, A142_2, c142_2, A142_5, c142_5, e142, hx142_0, hx142_1, hx142_2, hx142_3, hx142_4, hx142_5, HC142_2, HR142_2, HC142_5, HR142_5, p142, q142⟩ := q0m HB.out HR0_0.out x9_3 za za
           cases e142
           go_wp2_with (first | (go_at_call 73; (with_reducible refine (clerestoryref1_between.calls ((q00 l0_0 x9_3).f4) 0 (wrap64 ((l0_0.length : Int) - 1)) false _ A64.out).mono ?_); rintro e w' ⟨rfl, ⟨nd, rfl⟩⟩))
           go_ret
           exact ⟨by first | rfl | (simp [q04, q03] <;> rfl) | (simp [*, q04, q03] <;> rfl), by repeat (first | (with_reducible first | exact HB.out | apply bA | apply bN | apply bD | refine bS ?_ GE127.out) | exact HB.out)⟩
          case p74 =>
           have H' := aS H
           clear H
           have qi146 : (0 < l0_0.length) = True := eq_true (by omega)
           (try rw [show ((0 : Int)).toNat = 0 from rfl] at hx146_0)
           (try rw [show 0 * 6 = 0 from rfl] at hx146_0)
           (try rw [Addr.add_zero'] at hx146_0)
           (try rw [show ((0 : Int)).toNat = 0 from rfl] at hx146_1)
           (try rw [show 0 * 6 = 0 from rfl] at hx146_1)
           (try rw [Addr.add_zero'] at hx146_1)
           (try rw [show ((0 : Int)).toNat = 0 from rfl] at hx146_2)
           (try rw [show 0 * 6 = 0 from rfl] at hx146_2)
           (try rw [Addr.add_zero'] at hx146_2)
           (try rw [show ((0 : Int)).toNat = 0 from rfl] at hx146_3)
           (try rw [show 0 * 6 = 0 from rfl] at hx146_3)
           (try rw [Addr.add_zero'] at hx146_3)
           (try rw [show ((0 : Int)).toNat = 0 from rfl] at hx146_4)
           (try rw [show 0 * 6 = 0 from rfl] at hx146_4)
           (try rw [Addr.add_zero'] at hx146_4)
           (try rw [show ((0 : Int)).toNat = 0 from rfl] at hx146_5)
           (try rw [show 0 * 6 = 0 from rfl] at hx146_5)
           (try rw [Addr.add_zero'] at hx146_5)
           replace hx146_0 := q09 HB.out hx146_0
           replace hx146_1 := q09 HB.out hx146_1
           replace hx146_2 := q09 HB.out hx146_2
           replace hx146_3 := q09 HB.out hx146_3
           replace hx146_4 := q09 HB.out hx146_4
           replace hx146_5 := q09 HB.out hx146_5
           have HR146_2 := aS hi146_2
           have HC146_2 := aS hl146_2
           clear hi146_2 hl146_2
           have HR146_5 := aS hi146_5
           have HC146_5 := aS hl146_5
           clear hi146_5 hl146_5
           replace p146 := eq_true p146
           replace q146 := eq_true q146
           go_wp2
           go_loopg [11] k3 (fun kq v11 w' => ∃ (x11_4 : Int), v11 = .int .i64 x11_4 ∧ Aside0 (clerestoryref1_DocErr.l4 kq (l0_0.length : Int) x11_4 l0_0 a0_1 = some r) ∧ Aside0 (kq ≤ k3) ∧ Aside0 (w'.heap[gb127]? = some (.cells #[(.slice (some ad146) l0_0.length c0_0), .bool a0_1] 24 (0, 0))) ∧ Aside0 (Below w.heap.size w w'))
           case atStart => exact ⟨(0), zj, H', ⟨Nat.le_refl _⟩, ⟨by (with_reducible repeat (first | refine kN ?_ _ | refine kD ?_ | refine kA ?_ _)); exact BK127.out⟩, ⟨by repeat (first | (with_reducible first | exact HB.out | apply bA | apply bN | apply bD | refine bS ?_ GE127.out) | exact HB.out)⟩⟩
           case round =>
            clear H'
            obtain ⟨x11_4, rfl, HA, HK4, BK127, HB⟩ := hrel
            cases gk with
            | zero => exact absurd HA.out (by simp [clerestoryref1_DocErr.l4])
            | succ k4 =>
             have H := HA.out
             clear HA
             simp only [clerestoryref1_DocErr.l4] at H
             refine iT H ?p76 ?n76 <;> clear H
             case' p76 => intro c76b0 H; replace H := iB H; obtain ⟨t147, A77, H⟩ := H; obtain ⟨hczL_0, hczL_1, hfzL_0, hfzL_1⟩ := bk2 BK127.out; refine iT H ?p78 ?n78 <;> clear H
             case' p78 => intro c78b0 H
             case' n78 => intro c78b0 H; refine iT H ?p81 ?n81 <;> clear H
             case' p81 => intro c81b0 H
             case' n81 => intro c81b0 H
             case' n76 => intro c76b0 H
             case p78 =>
              obtain rfl := Option.some.inj H
              go_wp2_with (first | ((with_reducible refine q06 (f := 65) rfl ?_); refine q0l (some 166) rfl rfl Tryd.func65 (by kernel_rfl) rfl #[.agg #[.slice (some ad146) l0_0.length c0_0, .bool a0_1], .int .i64 x11_4] rfl zd ?_; (with_reducible refine (clerestoryref1_Deep.calls k4 _ _ l0_0 a0_1 x11_4 t147 _ ?side1 ?side2 A77.out).mono ?_); (case side1 => repeat (first | exact (Kd.C_below HR0_0.out HB.out) | (with_reducible refine cA ?_ _) | (with_reducible refine cN ?_ _) | (with_reducible refine cD ?_))); (case side2 => exact HC0_0.out); rintro e w80 ⟨rfl, hb⟩; refine ⟨_, rfl, ?_⟩; replace BK127 := aS (q07 (g := gb127) (o := .cells #[.slice (some ad146) l0_0.length c0_0, .bool a0_1] 24 (0, 0)) (z8 BK127.out) hb); replace HB := aS (q01 (z1 HB.out GE127.out) hb); (try clear hb); (try clear hb2); (try clear hk); (try clear hi)))
              go_ret
              exact ⟨by first | rfl | (simp [q04, q03] <;> rfl) | (simp [*, q04, q03] <;> rfl), by repeat (first | (with_reducible first | exact HB.out | apply bA | apply bN | apply bD | refine bS ?_ GE127.out) | exact HB.out)⟩
             case p81 =>
              obtain rfl := Option.some.inj H
              go_wp2_with (first | ((with_reducible refine q06 (f := 65) rfl ?_); refine q0l (some 166) rfl rfl Tryd.func65 (by kernel_rfl) rfl #[.agg #[.slice (some ad146) l0_0.length c0_0, .bool a0_1], .int .i64 x11_4] rfl zd ?_; (with_reducible refine (clerestoryref1_Deep.calls k4 _ _ l0_0 a0_1 x11_4 t147 _ ?side1 ?side2 A77.out).mono ?_); (case side1 => repeat (first | exact (Kd.C_below HR0_0.out HB.out) | (with_reducible refine cA ?_ _) | (with_reducible refine cN ?_ _) | (with_reducible refine cD ?_))); (case side2 => exact HC0_0.out); rintro e w83 ⟨rfl, hb⟩; refine ⟨_, rfl, ?_⟩; replace BK127 := aS (q07 (g := gb127) (o := .cells #[.slice (some ad146) l0_0.length c0_0, .bool a0_1] 24 (0, 0)) (z8 BK127.out) hb); replace HB := aS (q01 (z1 HB.out GE127.out) hb); (try clear hb); (try clear hb2); (try clear hk); (try clear hi)))
              go_ret
              exact ⟨by first | rfl | (simp [q04, q03] <;> rfl) | (simp [*, q04, q03] <;> rfl), by repeat (first | (with_reducible first | exact HB.out | apply bA | apply bN | apply bD | refine bS ?_ GE127.out) | exact HB.out)⟩
             case n81 =>
              have H' := aS H
              clear H
              go_wp2_with (first | ((with_reducible refine q06 (f := 65) rfl ?_); refine q0l (some 166) rfl rfl Tryd.func65 (by kernel_rfl) rfl #[.agg #[.slice (some ad146) l0_0.length c0_0, .bool a0_1], .int .i64 x11_4] rfl zd ?_; (with_reducible refine (clerestoryref1_Deep.calls k4 _ _ l0_0 a0_1 x11_4 t147 _ ?side1 ?side2 A77.out).mono ?_); (case side1 => repeat (first | exact (Kd.C_below HR0_0.out HB.out) | (with_reducible refine cA ?_ _) | (with_reducible refine cN ?_ _) | (with_reducible refine cD ?_))); (case side2 => exact HC0_0.out); rintro e w85 ⟨rfl, hb⟩; refine ⟨_, rfl, ?_⟩; replace BK127 := aS (q07 (g := gb127) (o := .cells #[.slice (some ad146) l0_0.length c0_0, .bool a0_1] 24 (0, 0)) (z8 BK127.out) hb); replace HB := aS (q01 (z1 HB.out GE127.out) hb); (try clear hb); (try clear hb2); (try clear hk); (try clear hi)))
              go_roundg k4
              case measure => have := HK1.out; have := HK2.out; have := HK3.out; have := HK4.out; omega
              case rel => exact ⟨(wrap64 (x11_4 + 1)), zj, H', ⟨by have := HK1.out; have := HK2.out; have := HK3.out; have := HK4.out; omega⟩, ⟨by (with_reducible repeat (first | refine kN ?_ _ | refine kD ?_ | refine kA ?_ _)); exact BK127.out⟩, ⟨by repeat (first | (with_reducible first | exact HB.out | apply bA | apply bN | apply bD | refine bS ?_ GE127.out) | exact HB.out)⟩⟩
             case n76 =>
              obtain rfl := Option.some.inj H
              go_wp2
              go_ret
              exact ⟨by first | rfl | (simp [q04, q03] <;> rfl) | (simp [*, q04, q03] <;> rfl), by repeat (first | (with_reducible first | exact HB.out | apply bA | apply bN | apply bD | refine bS ?_ GE127.out) | exact HB.out)⟩
          case n74 =>
           obtain rfl := Option.some.inj H
           have qi146 : (0 < l0_0.length) = True := eq_true (by omega)
           (try rw [show ((0 : Int)).toNat = 0 from rfl] at hx146_0)
           (try rw [show 0 * 6 = 0 from rfl] at hx146_0)
           (try rw [Addr.add_zero'] at hx146_0)
           (try rw [show ((0 : Int)).toNat = 0 from rfl] at hx146_1)
           (try rw [show 0 * 6 = 0 from rfl] at hx146_1)
           (try rw [Addr.add_zero'] at hx146_1)
           (try rw [show ((0 : Int)).toNat = 0 from rfl] at hx146_2)
           (try rw [show 0 * 6 = 0 from rfl] at hx146_2)
           (try rw [Addr.add_zero'] at hx146_2)
           (try rw [show ((0 : Int)).toNat = 0 from rfl] at hx146_3)
           (try rw [show 0 * 6 = 0 from rfl] at hx146_3)
           (try rw [Addr.add_zero'] at hx146_3)
           (try rw [show ((0 : Int)).toNat = 0 from rfl] at hx146_4)
           (try rw [show 0 * 6 = 0 from rfl] at hx146_4)
           (try rw [Addr.add_zero'] at hx146_4)
           (try rw [show ((0 : Int)).toNat = 0 from rfl] at hx146_5)
           (try rw [show 0 * 6 = 0 from rfl] at hx146_5)
           (try rw [Addr.add_zero'] at hx146_5)
           replace hx146_0 := q09 HB.out hx146_0
           replace hx146_1 := q09 HB.out hx146_1
           replace hx146_2 := q09 HB.out hx146_2
           replace hx146_3 := q09 HB.out hx146_3
           replace hx146_4 := q09 HB.out hx146_4
           replace hx146_5 := q09 HB.out hx146_5
           have HR146_2 := aS hi146_2
           have HC146_2 := aS hl146_2
           clear hi146_2 hl146_2
           have HR146_5 := aS hi146_5
           have HC146_5 := aS hl146_5
           clear hi146_5 hl146_5
           replace p146 := eq_true p146
           replace q146 := eq_true q146
           go_wp2
           go_ret
           exact ⟨by first | rfl | (simp [q04, q03] <;> rfl) | (simp [*, q04, q03] <;> rfl), by repeat (first | (with_reducible first | exact HB.out | apply bA | apply bN | apply bD | refine bS ?_ GE127.out) | exact HB.out)⟩
def dom_parent.f (a0 : Int) : Option (Bool) := if a0 = 1 then (some true) else (some (a0 == 2))
set_option maxHeartbeats 8000000 in
set_option maxRecDepth 100000 in
theorem dom_parent.calls (a0 : Int) (r : Bool) (w : World) (h : dom_parent.f a0 = some r) :
 Calls Tryd.prog 158 #[.int .i64 a0] w fun e w' => e = .returned (.bool r) ∧ Drawn0 w w' := by
 have H := h; clear h; unfold dom_parent.f at H
 refine iE H ?p2 ?n2 <;> clear H
 case' p2 => intro c2b0 c2b1 H
 case' n2 => intro c2 c2b0 c2b1 H
 case p2|n2 =>
  obtain rfl := Option.some.inj H
  go_enter Tryd.func158, Tryd.ntmps158
  go_wp2
  go_ret
  exact ⟨by first | rfl | (simp; done) | (simp [*]; done), by repeat (first | exact Drawn0.refl _ | apply Drawn0.step)⟩
def dom_bare.f (a0_0 : Int) (a0_1 : ByteArray) (l0_2 : List (S122)) (a0_3 : ByteArray) (a0_4 : Int) (l0_5 : List Int) : Option (Bool) := if a0_0 = 3 then (if a0_0 = 2 then ((dom_parent.f a0_0).bind fun t109 => (if t109 = true then (some true) else (some ((l0_5.length : Int) == 0)))) else (if a0_0 = 5 then (if (l0_2.length : Int) = 0 then ((dom_parent.f a0_0).bind fun t110 => (if t110 = true then (some true) else (some ((l0_5.length : Int) == 0)))) else (some false)) else (if a0_1.toList = ([] : List UInt8) then (if (l0_2.length : Int) = 0 then ((dom_parent.f a0_0).bind fun t111 => (if t111 = true then (some true) else (some ((l0_5.length : Int) == 0)))) else (some false)) else (some false)))) else (if a0_0 = 2 then (if a0_0 = 4 then ((dom_parent.f a0_0).bind fun t112 => (if t112 = true then (some true) else (some ((l0_5.length : Int) == 0)))) else (if a0_3.toList = ([] : List UInt8) then ((dom_parent.f a0_0).bind fun t113 => (if t113 = true then (some true) else (some ((l0_5.length : Int) == 0)))) else (some false))) else (if a0_0 = 5 then (if (l0_2.length : Int) = 0 then (if a0_0 = 4 then ((dom_parent.f a0_0).bind fun t114 => (if t114 = true then (some true) else (some ((l0_5.length : Int) == 0)))) else (if a0_3.toList = ([] : List UInt8) then ((dom_parent.f a0_0).bind fun t115 => (if t115 = true then (some true) else (some ((l0_5.length : Int) == 0)))) else (some false))) else (some false)) else (if a0_1.toList = ([] : List UInt8) then (if (l0_2.length : Int) = 0 then (if a0_0 = 4 then ((dom_parent.f a0_0).bind fun t116 => (if t116 = true then (some true) else (some ((l0_5.length : Int) == 0)))) else (if a0_3.toList = ([] : List UInt8) then ((dom_parent.f a0_0).bind fun t117 => (if t117 = true then (some true) else (some ((l0_5.length : Int) == 0)))) else (some false))) else (some false)) else (some false))))
set_option maxHeartbeats 64000000 in
set_option maxRecDepth 100000 in
theorem dom_bare.core (a0_0 : Int) (a0_1 : ByteArray) (A0_2 : Option Addr) (c0_2 : Nat) (l0_2 : List (S122)) (a0_3 : ByteArray) (a0_4 : Int) (A0_5 : Option Addr) (c0_5 : Nat) (l0_5 : List Int) (b2 b3 b4 b5 bn ba bt bc pv : Bool) (w : World)
 (h2 : (a0_0 == 2) = b2) (h3 : (a0_0 == 3) = b3) (h4 : (a0_0 == 4) = b4) (h5 : (a0_0 == 5) = b5) (hn : (a0_1.toList == ([] : List UInt8)) = bn) (ha : ((l0_2.length : Int) == 0) = ba) (ht : (a0_3.toList == ([] : List UInt8)) = bt) (hc : ((l0_5.length : Int) == 0) = bc) (hp : dom_parent.f a0_0 = some pv)
 (hk : (b2 = true ∧ b3 = false ∧ b4 = false ∧ b5 = false) ∨ (b2 = false ∧ b3 = true ∧ b4 = false ∧ b5 = false) ∨ (b2 = false ∧ b3 = false ∧ b4 = true ∧ b5 = false) ∨ (b2 = false ∧ b3 = false ∧ b4 = false ∧ b5 = true) ∨ (b2 = false ∧ b3 = false ∧ b4 = false ∧ b5 = false)) :
 Calls Tryd.prog 135 #[.agg #[.int .i64 a0_0, .string a0_1, .slice A0_2 l0_2.length c0_2, .string a0_3, .int .i64 a0_4, .slice A0_5 l0_5.length c0_5]] w fun e w' => e = .returned (.bool ((b2 || b5 || bn) && (b2 || ba) && (b3 || b4 || bt) && (pv || bc))) ∧ Below w.heap.size w w' := by
 have hu43 := Tryd.underlying43
 have HB := aS (Below.refl w.heap.size w)
 rcases hk with ⟨rfl, rfl, rfl, rfl⟩ | ⟨rfl, rfl, rfl, rfl⟩ | ⟨rfl, rfl, rfl, rfl⟩ | ⟨rfl, rfl, rfl, rfl⟩ | ⟨rfl, rfl, rfl, rfl⟩
 ·cases bt
  case' true => (cases pv; case' false => cases bc)
  all_goals (go_enter Tryd.func135, Tryd.ntmps135; go_wp2_with (first | ((with_reducible refine q0g (N := 1) rfl ?_); refine q0n ?hg (N := 1) ?hd (cs := #[.int .i64 a0_0, .string a0_1, .slice A0_2 l0_2.length c0_2, .string a0_3, .int .i64 a0_4, .slice A0_5 l0_5.length c0_5]) (t := 43) ?hr ?_; (case hd => rfl); (case hg => rfl); (case hr => first | (go_simp; done) | (go_simp; rfl)); intro gb hg wb hbox hb; have n0_ := aS (q01 (z7 HB.out) hb); have BK := aS hbox; have hz0 : wb.cell? ⟨gb, 0, none⟩ = some (.int .i64 a0_0) := (q05 BK.out 0).trans rfl; have hz1 : wb.cell? ⟨gb, 1, none⟩ = some (.string a0_1) := (q05 BK.out 1).trans rfl; have hz2 : wb.cell? ⟨gb, 2, none⟩ = some (.slice A0_2 l0_2.length c0_2) := (q05 BK.out 2).trans rfl; have hz3 : wb.cell? ⟨gb, 3, none⟩ = some (.string a0_3) := (q05 BK.out 3).trans rfl; have hz4 : wb.cell? ⟨gb, 4, none⟩ = some (.int .i64 a0_4) := (q05 BK.out 4).trans rfl; have hz5 : wb.cell? ⟨gb, 5, none⟩ = some (.slice A0_5 l0_5.length c0_5) := (q05 BK.out 5).trans rfl; clear HB; have HB := n0_; clear n0_ hg hbox hb) | (go_at_call 158; (with_reducible refine (dom_parent.calls a0_0 _ _ hp).mono ?_); rintro e w' ⟨rfl, ⟨nd, rfl⟩⟩)); repeat (go_quiet ((go_at_call 158; (with_reducible refine (dom_parent.calls a0_0 _ _ hp).mono ?_); rintro e w' ⟨rfl, ⟨nd, rfl⟩⟩; (try first | exact ⟨rfl, _, World.drewN_drewN _ _ _⟩ | exact ⟨rfl, _, Eq.trans (World.drewN_drewN _ _ _) (congrArg (World.drewN _) (Nat.add_assoc _ _ _))⟩))); try go_wp2_with (first | (go_at_call 158; (with_reducible refine (dom_parent.calls a0_0 _ _ hp).mono ?_); rintro e w' ⟨rfl, ⟨nd, rfl⟩⟩))); go_ret; exact ⟨rfl, (z7 HB.out)⟩)
 ·cases bn
  case' true => (cases ba; case' true => (cases pv; case' false => cases bc))
  all_goals (go_enter Tryd.func135, Tryd.ntmps135; go_wp2_with (first | ((with_reducible refine q0g (N := 1) rfl ?_); refine q0n ?hg (N := 1) ?hd (cs := #[.int .i64 a0_0, .string a0_1, .slice A0_2 l0_2.length c0_2, .string a0_3, .int .i64 a0_4, .slice A0_5 l0_5.length c0_5]) (t := 43) ?hr ?_; (case hd => rfl); (case hg => rfl); (case hr => first | (go_simp; done) | (go_simp; rfl)); intro gb hg wb hbox hb; have n0_ := aS (q01 (z7 HB.out) hb); have BK := aS hbox; have hz0 : wb.cell? ⟨gb, 0, none⟩ = some (.int .i64 a0_0) := (q05 BK.out 0).trans rfl; have hz1 : wb.cell? ⟨gb, 1, none⟩ = some (.string a0_1) := (q05 BK.out 1).trans rfl; have hz2 : wb.cell? ⟨gb, 2, none⟩ = some (.slice A0_2 l0_2.length c0_2) := (q05 BK.out 2).trans rfl; have hz3 : wb.cell? ⟨gb, 3, none⟩ = some (.string a0_3) := (q05 BK.out 3).trans rfl; have hz4 : wb.cell? ⟨gb, 4, none⟩ = some (.int .i64 a0_4) := (q05 BK.out 4).trans rfl; have hz5 : wb.cell? ⟨gb, 5, none⟩ = some (.slice A0_5 l0_5.length c0_5) := (q05 BK.out 5).trans rfl; clear HB; have HB := n0_; clear n0_ hg hbox hb) | (go_at_call 158; (with_reducible refine (dom_parent.calls a0_0 _ _ hp).mono ?_); rintro e w' ⟨rfl, ⟨nd, rfl⟩⟩)); repeat (go_quiet ((go_at_call 158; (with_reducible refine (dom_parent.calls a0_0 _ _ hp).mono ?_); rintro e w' ⟨rfl, ⟨nd, rfl⟩⟩; (try first | exact ⟨rfl, _, World.drewN_drewN _ _ _⟩ | exact ⟨rfl, _, Eq.trans (World.drewN_drewN _ _ _) (congrArg (World.drewN _) (Nat.add_assoc _ _ _))⟩))); try go_wp2_with (first | (go_at_call 158; (with_reducible refine (dom_parent.calls a0_0 _ _ hp).mono ?_); rintro e w' ⟨rfl, ⟨nd, rfl⟩⟩))); go_ret; exact ⟨rfl, (z7 HB.out)⟩)
 ·cases bn
  case' true => (cases ba; case' true => (cases pv; case' false => cases bc))
  all_goals (go_enter Tryd.func135, Tryd.ntmps135; go_wp2_with (first | ((with_reducible refine q0g (N := 1) rfl ?_); refine q0n ?hg (N := 1) ?hd (cs := #[.int .i64 a0_0, .string a0_1, .slice A0_2 l0_2.length c0_2, .string a0_3, .int .i64 a0_4, .slice A0_5 l0_5.length c0_5]) (t := 43) ?hr ?_; (case hd => rfl); (case hg => rfl); (case hr => first | (go_simp; done) | (go_simp; rfl)); intro gb hg wb hbox hb; have n0_ := aS (q01 (z7 HB.out) hb); have BK := aS hbox; have hz0 : wb.cell? ⟨gb, 0, none⟩ = some (.int .i64 a0_0) := (q05 BK.out 0).trans rfl; have hz1 : wb.cell? ⟨gb, 1, none⟩ = some (.string a0_1) := (q05 BK.out 1).trans rfl; have hz2 : wb.cell? ⟨gb, 2, none⟩ = some (.slice A0_2 l0_2.length c0_2) := (q05 BK.out 2).trans rfl; have hz3 : wb.cell? ⟨gb, 3, none⟩ = some (.string a0_3) := (q05 BK.out 3).trans rfl; have hz4 : wb.cell? ⟨gb, 4, none⟩ = some (.int .i64 a0_4) := (q05 BK.out 4).trans rfl; have hz5 : wb.cell? ⟨gb, 5, none⟩ = some (.slice A0_5 l0_5.length c0_5) := (q05 BK.out 5).trans rfl; clear HB; have HB := n0_; clear n0_ hg hbox hb) | (go_at_call 158; (with_reducible refine (dom_parent.calls a0_0 _ _ hp).mono ?_); rintro e w' ⟨rfl, ⟨nd, rfl⟩⟩)); repeat (go_quiet ((go_at_call 158; (with_reducible refine (dom_parent.calls a0_0 _ _ hp).mono ?_); rintro e w' ⟨rfl, ⟨nd, rfl⟩⟩; (try first | exact ⟨rfl, _, World.drewN_drewN _ _ _⟩ | exact ⟨rfl, _, Eq.trans (World.drewN_drewN _ _ _) (congrArg (World.drewN _) (Nat.add_assoc _ _ _))⟩))); try go_wp2_with (first | (go_at_call 158; (with_reducible refine (dom_parent.calls a0_0 _ _ hp).mono ?_); rintro e w' ⟨rfl, ⟨nd, rfl⟩⟩))); go_ret; exact ⟨rfl, (z7 HB.out)⟩)
 ·cases ba
  case' true => (cases bt; case' true => (cases pv; case' false => cases bc))
  all_goals (go_enter Tryd.func135, Tryd.ntmps135; go_wp2_with (first | ((with_reducible refine q0g (N := 1) rfl ?_); refine q0n ?hg (N := 1) ?hd (cs := #[.int .i64 a0_0, .string a0_1, .slice A0_2 l0_2.length c0_2, .string a0_3, .int .i64 a0_4, .slice A0_5 l0_5.length c0_5]) (t := 43) ?hr ?_; (case hd => rfl); (case hg => rfl); (case hr => first | (go_simp; done) | (go_simp; rfl)); intro gb hg wb hbox hb; have n0_ := aS (q01 (z7 HB.out) hb); have BK := aS hbox; have hz0 : wb.cell? ⟨gb, 0, none⟩ = some (.int .i64 a0_0) := (q05 BK.out 0).trans rfl; have hz1 : wb.cell? ⟨gb, 1, none⟩ = some (.string a0_1) := (q05 BK.out 1).trans rfl; have hz2 : wb.cell? ⟨gb, 2, none⟩ = some (.slice A0_2 l0_2.length c0_2) := (q05 BK.out 2).trans rfl; have hz3 : wb.cell? ⟨gb, 3, none⟩ = some (.string a0_3) := (q05 BK.out 3).trans rfl; have hz4 : wb.cell? ⟨gb, 4, none⟩ = some (.int .i64 a0_4) := (q05 BK.out 4).trans rfl; have hz5 : wb.cell? ⟨gb, 5, none⟩ = some (.slice A0_5 l0_5.length c0_5) := (q05 BK.out 5).trans rfl; clear HB; have HB := n0_; clear n0_ hg hbox hb) | (go_at_call 158; (with_reducible refine (dom_parent.calls a0_0 _ _ hp).mono ?_); rintro e w' ⟨rfl, ⟨nd, rfl⟩⟩)); repeat (go_quiet ((go_at_call 158; (with_reducible refine (dom_parent.calls a0_0 _ _ hp).mono ?_); rintro e w' ⟨rfl, ⟨nd, rfl⟩⟩; (try first | exact ⟨rfl, _, World.drewN_drewN _ _ _⟩ | exact ⟨rfl, _, Eq.trans (World.drewN_drewN _ _ _) (congrArg (World.drewN _) (Nat.add_assoc _ _ _))⟩))); try go_wp2_with (first | (go_at_call 158; (with_reducible refine (dom_parent.calls a0_0 _ _ hp).mono ?_); rintro e w' ⟨rfl, ⟨nd, rfl⟩⟩))); go_ret; exact ⟨rfl, (z7 HB.out)⟩)
 ·cases bn
  case' true => (cases ba; case' true => (cases bt; case' true => (cases pv; case' false => cases bc)))
  all_goals (go_enter Tryd.func135, Tryd.ntmps135; go_wp2_with (first | ((with_reducible refine q0g (N := 1) rfl ?_); refine q0n ?hg (N := 1) ?hd (cs := #[.int .i64 a0_0, .string a0_1, .slice A0_2 l0_2.length c0_2, .string a0_3, .int .i64 a0_4, .slice A0_5 l0_5.length c0_5]) (t := 43) ?hr ?_; (case hd => rfl); (case hg => rfl); (case hr => first | (go_simp; done) | (go_simp; rfl)); intro gb hg wb hbox hb; have n0_ := aS (q01 (z7 HB.out) hb); have BK := aS hbox; have hz0 : wb.cell? ⟨gb, 0, none⟩ = some (.int .i64 a0_0) := (q05 BK.out 0).trans rfl; have hz1 : wb.cell? ⟨gb, 1, none⟩ = some (.string a0_1) := (q05 BK.out 1).trans rfl; have hz2 : wb.cell? ⟨gb, 2, none⟩ = some (.slice A0_2 l0_2.length c0_2) := (q05 BK.out 2).trans rfl; have hz3 : wb.cell? ⟨gb, 3, none⟩ = some (.string a0_3) := (q05 BK.out 3).trans rfl; have hz4 : wb.cell? ⟨gb, 4, none⟩ = some (.int .i64 a0_4) := (q05 BK.out 4).trans rfl; have hz5 : wb.cell? ⟨gb, 5, none⟩ = some (.slice A0_5 l0_5.length c0_5) := (q05 BK.out 5).trans rfl; clear HB; have HB := n0_; clear n0_ hg hbox hb) | (go_at_call 158; (with_reducible refine (dom_parent.calls a0_0 _ _ hp).mono ?_); rintro e w' ⟨rfl, ⟨nd, rfl⟩⟩)); repeat (go_quiet ((go_at_call 158; (with_reducible refine (dom_parent.calls a0_0 _ _ hp).mono ?_); rintro e w' ⟨rfl, ⟨nd, rfl⟩⟩; (try first | exact ⟨rfl, _, World.drewN_drewN _ _ _⟩ | exact ⟨rfl, _, Eq.trans (World.drewN_drewN _ _ _) (congrArg (World.drewN _) (Nat.add_assoc _ _ _))⟩))); try go_wp2_with (first | (go_at_call 158; (with_reducible refine (dom_parent.calls a0_0 _ _ hp).mono ?_); rintro e w' ⟨rfl, ⟨nd, rfl⟩⟩))); go_ret; exact ⟨rfl, (z7 HB.out)⟩)
set_option maxHeartbeats 8000000 in
theorem dom_bare.calls (a0_0 : Int) (a0_1 : ByteArray) (A0_2 : Option Addr) (c0_2 : Nat) (l0_2 : List (S122)) (a0_3 : ByteArray) (a0_4 : Int) (A0_5 : Option Addr) (c0_5 : Nat) (l0_5 : List Int) (r : Bool) (w : World) (hr0_2 : Kd.C k122 w A0_2 l0_2.length l0_2) (hc0_2 : l0_2.length ≤ c0_2) (hr0_5 : Kd.C (Kd.int .i64) w A0_5 l0_5.length l0_5) (hc0_5 : l0_5.length ≤ c0_5) (h : dom_bare.f a0_0 a0_1 l0_2 a0_3 a0_4 l0_5 = some r) :
 Calls Tryd.prog 135 #[.agg #[.int .i64 a0_0, .string a0_1, .slice A0_2 l0_2.length c0_2, .string a0_3, .int .i64 a0_4, .slice A0_5 l0_5.length c0_5]] w fun e w' => e = .returned (.bool r) ∧ Below w.heap.size w w' := by
  obtain ⟨pv, hp⟩ : ∃ pv, dom_parent.f a0_0 = some pv := by unfold dom_parent.f; split <;> exact ⟨_, rfl⟩
  have hr : r = ((decide (a0_0 = 2) || decide (a0_0 = 5) || (a0_1.toList == ([] : List UInt8))) && (decide (a0_0 = 2) || ((l0_2.length : Int) == 0)) && (decide (a0_0 = 3) || decide (a0_0 = 4) || (a0_3.toList == ([] : List UInt8))) && (pv || ((l0_5.length : Int) == 0))) := by
   unfold dom_bare.f at h
   rw [hp] at h
   simp only [Option.bind_some] at h
   clear hp
   generalize ((l0_5.length : Int) == 0) = bc at h ⊢
   have bs : ∀ s : ByteArray, (s.toList == ([] : List UInt8)) = decide (s.toList = []) := fun s => by by_cases c : s.toList = [] <;> simp [c]
   have bl : ((l0_2.length : Int) == 0) = decide ((l0_2.length : Int) = 0) := rfl
   rw [bs, bs, bl]
   generalize (l0_2.length : Int) = L at h ⊢
   generalize a0_1.toList = X at h ⊢
   generalize a0_3.toList = Y at h ⊢
   by_cases k2 : a0_0 = 2
   ·subst k2; by_cases x : Y = [] <;> cases pv <;> simp [x] at h ⊢ <;> first | exact h.symm | exact h
   by_cases k3 : a0_0 = 3
   ·subst k3; by_cases x : X = [] <;> by_cases y : L = 0 <;> cases pv <;> simp [x, y] at h ⊢ <;> first | exact h.symm | exact h
   by_cases k4 : a0_0 = 4
   ·subst k4; by_cases x : X = [] <;> by_cases y : L = 0 <;> cases pv <;> simp [x, y] at h ⊢ <;> first | exact h.symm | exact h
   by_cases k5 : a0_0 = 5
   ·subst k5; by_cases x : Y = [] <;> by_cases y : L = 0 <;> cases pv <;> simp [x, y] at h ⊢ <;> first | exact h.symm | exact h
   by_cases x : X = [] <;> by_cases y : L = 0 <;> by_cases z : Y = [] <;> cases pv <;> simp [k2, k3, k4, k5, x, y, z] at h ⊢ <;> first | exact h.symm | exact h
  subst hr
  refine dom_bare.core a0_0 a0_1 A0_2 c0_2 l0_2 a0_3 a0_4 A0_5 c0_5 l0_5 _ _ _ _ _ _ _ _ pv w rfl rfl rfl rfl rfl rfl rfl rfl hp ?_
  by_cases k2 : a0_0 = 2
  ·subst k2; simp
  by_cases k3 : a0_0 = 3
  ·subst k3; simp
  by_cases k4 : a0_0 = 4
  ·subst k4; simp
  by_cases k5 : a0_0 = 5
  ·subst k5; simp
  simp [k2, k3, k4, k5]
def strings_IndexByte.f (a0 : ByteArray) (a1 : Int) : Option Int := some (Lib.indexByte a0.data.toList (UInt8.ofNat a1.toNat))
theorem strings_IndexByte.calls (a0 : ByteArray) (a1 : Int) (r : Int) (w : World) (h : strings_IndexByte.f a0 a1 = some r) :
 Calls Tryd.prog 154 #[.string a0, .int .u8 a1] w fun e w' => e = .returned (.int .i64 r) ∧ Drawn0 w w' := by
 obtain rfl := Option.some.inj h
 exact (Tryd.strings_IndexByte a0 a1 w).mono fun e w' ⟨he, hw⟩ => ⟨he, hw ▸ Drawn0.refl _⟩
def strings_Trim.f (a0 a1 : ByteArray) : Option ByteArray := if a0.size ≤ 140737488355328 ∧ a1.size ≤ 1000 ∧ a1.data.toList.all (fun b => decide (b.toNat < 128)) = true then some ⟨(Lib.trimS a0.data.toList a1.data.toList).toArray⟩ else none
theorem strings_Trim.calls (a0 a1 : ByteArray) (r : ByteArray) (w : World) (h : strings_Trim.f a0 a1 = some r) :
 Calls Tryd.prog 177 #[.string a0, .string a1] w fun e w' => e = .returned (.string r) ∧ Below w.heap.size w w' := by
 unfold strings_Trim.f at h
 split at h
 ·rename_i hs
  obtain rfl := Option.some.inj h
  exact Tryd.strings_Trim a0 a1 w (by omega) (by omega) (ascii_of_all hs.2.2)
 ·cases h
def dom_named.f (a0 : ByteArray) (a1 : ByteArray) : Option (Bool) := if a0.toList = ([] : List UInt8) then (some false) else (if (a0.size : Int) ≤ 40 then (if 0 < (a0.size : Int) then ((strings_IndexByte.f a1 (bt a0 0)).bind fun t148 => (if t148 ≥ 0 then ((strings_Trim.f a0 (⟨#[97, 98, 99, 100, 101, 102, 103, 104, 105, 106, 107, 108, 109, 110, 111, 112, 113, 114, 115, 116, 117, 118, 119, 120, 121, 122, 48, 49, 50, 51, 52, 53, 54, 55, 56, 57, 45, 95, 58]⟩ : ByteArray)).bind fun t149 => (some (t149.toList == ([] : List UInt8)))) else (some false))) else (none)) else (some false))
set_option maxHeartbeats 8000000 in
set_option maxRecDepth 100000 in
theorem dom_named.calls (a0 : ByteArray) (a1 : ByteArray) (r : Bool) (w : World) (h : dom_named.f a0 a1 = some r) :
 Calls Tryd.prog 159 #[.string a0, .string a1] w fun e w' => e = .returned (.bool r) ∧ Below w.heap.size w w' := by
 have HB := aS (Below.refl w.heap.size w)
 have H := h; clear h; unfold dom_named.f at H
 refine iE H ?p3 ?n3 <;> clear H
 case' p3 => intro c3b0 c3b1 H
 case' n3 => intro c3 c3b0 c3b1 H; refine iLN (m := a0.size) (n := 40) H rfl rfl ?p4 ?n4 <;> clear H
 case' p4 => intro c4b0 c4b1 H; refine iTNp (m := 0) (n := a0.size) H rfl rfl ?_; clear H; intro c5b0 c5b1 H; replace H := iB H; obtain ⟨t148, A7, H⟩ := H; refine iL H ?p8 ?n8 <;> clear H
 case' p8 => intro c8b0 H
 case' n8 => intro c8b0 H
 case' n4 => intro c4b0 c4b1 H
 case p3|n4 =>
  obtain rfl := Option.some.inj H
  go_enter Tryd.func159, Tryd.ntmps159
  go_wp2
  go_ret
  exact ⟨by first | rfl | (simp [q04, q03] <;> rfl) | (simp [*, q04, q03] <;> rfl), by repeat (first | (with_reducible first | exact HB.out | apply bA | apply bN | apply bD) | exact HB.out)⟩
 case p8 =>
  replace H := iB H
  obtain ⟨t149, A9, H⟩ := H
  obtain rfl := Option.some.inj H
  have p6 : 0 ≤ (0 : Int) := (by omega)
  have q6 : 0 < a0.size := (by have : (0 : Int) < (a0.size : Int) := od za; omega)
  have hx6 : ∀ h : 0 < a0.size, ((a0[0]'h).toNat : Int) = bt a0 0 := bt_at a0 0
  clear p6
  have qi6 : (0 < (a0.size : Int)) = True := eq_true (od za)
  replace q6 := eq_true q6
  go_enter Tryd.func159, Tryd.ntmps159
  go_wp2_with (first | (go_at_call 154; (with_reducible refine (strings_IndexByte.calls a1 (bt a0 0) t148 _ A7.out).mono ?_); rintro e w' ⟨rfl, ⟨nd, rfl⟩⟩) | (go_at_call 177; (with_reducible refine (strings_Trim.calls a0 (⟨#[97, 98, 99, 100, 101, 102, 103, 104, 105, 106, 107, 108, 109, 110, 111, 112, 113, 114, 115, 116, 117, 118, 119, 120, 121, 122, 48, 49, 50, 51, 52, 53, 54, 55, 56, 57, 45, 95, 58]⟩ : ByteArray) t149 _ A9.out).mono ?_); rintro e w10 ⟨rfl, hb⟩; replace HB := aS (q01 (z6 HB.out) hb); (try clear hb); (try clear hb2); (try clear hk); (try clear hi)))
  go_ret
  exact ⟨by first | rfl | (simp [q04, q03] <;> rfl) | (simp [*, q04, q03] <;> rfl), by repeat (first | (with_reducible first | exact HB.out | apply bA | apply bN | apply bD) | exact HB.out)⟩
 case n8 =>
  obtain rfl := Option.some.inj H
  have p6 : 0 ≤ (0 : Int) := (by omega)
  have q6 : 0 < a0.size := (by have : (0 : Int) < (a0.size : Int) := od za; omega)
  have hx6 : ∀ h : 0 < a0.size, ((a0[0]'h).toNat : Int) = bt a0 0 := bt_at a0 0
  clear p6
  have qi6 : (0 < (a0.size : Int)) = True := eq_true (od za)
  replace q6 := eq_true q6
  go_enter Tryd.func159, Tryd.ntmps159
  go_wp2_with (first | (go_at_call 154; (with_reducible refine (strings_IndexByte.calls a1 (bt a0 0) t148 _ A7.out).mono ?_); rintro e w' ⟨rfl, ⟨nd, rfl⟩⟩))
  go_ret
  exact ⟨by first | rfl | (simp [q04, q03] <;> rfl) | (simp [*, q04, q03] <;> rfl), by repeat (first | (with_reducible first | exact HB.out | apply bA | apply bN | apply bD) | exact HB.out)⟩
def dom_Name.f (a0 : ByteArray) : Option (Bool) := if 0 ≤ 26 then (if 26 ≤ 39 then ((dom_named.f a0 ((⟨#[97, 98, 99, 100, 101, 102, 103, 104, 105, 106, 107, 108, 109, 110, 111, 112, 113, 114, 115, 116, 117, 118, 119, 120, 121, 122, 48, 49, 50, 51, 52, 53, 54, 55, 56, 57, 45, 95, 58]⟩ : ByteArray).extract 0 26)).bind fun t150 => (some t150)) else (none)) else (none)
set_option maxHeartbeats 8000000 in
set_option maxRecDepth 100000 in
theorem dom_Name.calls (a0 : ByteArray) (r : Bool) (w : World) (h : dom_Name.f a0 = some r) :
 Calls Tryd.prog 136 #[.string a0] w fun e w' => e = .returned (.bool r) ∧ Below w.heap.size w w' := by
 have HB := aS (Below.refl w.heap.size w)
 have H := h; clear h; unfold dom_Name.f at H
 refine iGp H ?_; clear H; intro c2 H
 have c2b0 := eq_true c2
 have c2b1 : decide (0 ≤ 26) = true := decide_eq_true c2
 clear c2
 refine iGp H ?_; clear H; intro c3 H
 have c3b0 := eq_true c3
 have c3b1 : decide (26 ≤ 39) = true := decide_eq_true c3
 clear c3
 replace H := iB H
 obtain ⟨t150, A4, H⟩ := H
 obtain rfl := Option.some.inj H
 go_enter Tryd.func136, Tryd.ntmps136
 go_wp2_with (first | ((with_reducible refine q06 (f := 159) rfl ?_); refine q0l (some 5) rfl rfl Tryd.func159 (by kernel_rfl) rfl #[.string a0, .string ((⟨#[97, 98, 99, 100, 101, 102, 103, 104, 105, 106, 107, 108, 109, 110, 111, 112, 113, 114, 115, 116, 117, 118, 119, 120, 121, 122, 48, 49, 50, 51, 52, 53, 54, 55, 56, 57, 45, 95, 58]⟩ : ByteArray).extract 0 26)] rfl zd ?_; (with_reducible refine (dom_named.calls a0 ((⟨#[97, 98, 99, 100, 101, 102, 103, 104, 105, 106, 107, 108, 109, 110, 111, 112, 113, 114, 115, 116, 117, 118, 119, 120, 121, 122, 48, 49, 50, 51, 52, 53, 54, 55, 56, 57, 45, 95, 58]⟩ : ByteArray).extract 0 26) t150 _ A4.out).mono ?_); rintro e w5 ⟨rfl, hb⟩; refine ⟨_, rfl, ?_⟩; replace HB := aS (q01 (z6 HB.out) hb); (try clear hb); (try clear hb2); (try clear hk); (try clear hi)))
 go_ret
 exact ⟨by first | rfl | (simp [q04, q03] <;> rfl) | (simp [*, q04, q03] <;> rfl), by repeat (first | (with_reducible first | exact HB.out | apply bA | apply bN | apply bD) | exact HB.out)⟩
set_option maxHeartbeats 2000000 in
theorem api_Attr_141.idx (A0 : Option Addr) (c0 : Nat) (l0 : List S122) (p : S122 → Bool) (g : Nat) (lb : Array Value) (eg : ∀ args w, (callFunc g args).run Tryd.prog w = .ok (.enter g args) w) (w : World) (hr0 : Kd.C k122 w A0 l0.length l0) (hn : l0.length ≤ 9223372036854775807)
 (hp : ∀ W x cs, x ∈ l0 → Below w.heap.size w W → (k122).K W x cs → Calls Tryd.prog g (#[.agg cs.toArray] ++ lb) W fun e w' => e = .returned (.bool (p x)) ∧ Below W.heap.size W w') :
 Calls Tryd.prog 141 #[.slice A0 l0.length c0, .func (.func g) #[] lb] w fun e w' => e = .returned (.int .i64 (Cl.idxOf p l0)) ∧ Below w.heap.size w w' := by
 have hC := aS hr0
 have HP := aS hp
 have HN := aS hn
 clear hr0 hp
 go_enter Tryd.func141, Tryd.ntmps141
 go_wp2
 go_loopg [5, 8] l0.length (fun gg _ s8 wr => ∃ kk : Nat, kk ≤ l0.length ∧ l0.length - kk ≤ gg ∧ s8 = .int .i64 kk ∧ Aside0 (Below w.heap.size w wr) ∧ Aside0 (∀ j, j < kk → p (l0.getD j z122) = false))
 case atStart => exact ⟨0, Nat.zero_le _, by omega, rfl, ⟨Below.refl _ w⟩, ⟨fun j hj => absurd hj (Nat.not_lt_zero _)⟩⟩
 case round =>
  obtain ⟨kk, hkk, hg, rfl, BW, HA⟩ := hrel
  by_cases hlt : kk < l0.length
  ·have hltz : (kk : Int) < (l0.length : Int) := by omega
   obtain ⟨ad, cs, rfl, hcl, hK, hcc⟩ := Cl.getC (Kd.C_below hC.out BW.out) z122 kk hlt
   have hcall := HP.out wr (l0.getD kk z122) cs (Cl.mem_getD l0 kk z122 hlt) BW.out hK
   have hcl' : cs.length = 2 := hcl
   have hcc' : ∀ j u, cs[j]? = some u → wr.cell? (ad.add (kk * 2 + j)) = some u := hcc
   obtain ⟨u0_, u1_, rfl⟩ : ∃ u0_ u1_, cs = [u0_, u1_] := by
    match cs, hcl' with
    | [u0_, u1_], _ => exact ⟨u0_, u1_, rfl⟩
   have hz0 : wr.cell? (ad.add (kk * 2)) = some u0_ := hcc' 0 _ rfl
   have hz1 : wr.cell? ⟨(ad.add (kk * 2)).block, (ad.add (kk * 2)).off + 1, none⟩ = some u1_ := by rw [← add_field _ _ 1 (by omega)]; exact hcc' 1 _ rfl
   replace hcall : Calls Tryd.prog g (#[.agg #[u0_, u1_]] ++ lb) wr _ := hcall
   clear hcl hcc hK hcc'
   obtain ⟨x, hx⟩ : ∃ x, l0.getD kk z122 = x := ⟨_, rfl⟩
   rw [hx] at hcall
   have HX := aS hx
   clear hx
   cases hq : p x with
   | true =>
    rw [hq] at hcall
    have HQ := aS hq
    clear hq
    go_wp2_with (go_at_fn g; refine hcall.mono ?_; rintro e w' ⟨rfl, hb'⟩)
    go_ret
    refine ⟨?_, BW.out.trans (hb'.mono BW.out.size)⟩
    rw [Cl.idxOf_hit p z122 l0 kk hlt (by rw [HX.out]; exact HQ.out) HA.out]
    rfl
   | false =>
    rw [hq] at hcall
    have HQ := aS hq
    clear hq
    go_wp2_with (go_at_fn g; refine hcall.mono ?_; rintro e w' ⟨rfl, hb'⟩)
    go_roundg (l0.length - (kk + 1))
    case measure => omega
    case rel =>
     refine ⟨kk + 1, by omega, by omega, by go_num, ⟨BW.out.trans (hb'.mono BW.out.size)⟩, ⟨fun j hj => ?_⟩⟩
     by_cases e : j = kk
     ·subst e
      rw [HX.out]; exact HQ.out
     ·exact HA.out j (by omega)
  ·have hltz : ¬ (kk : Int) < (l0.length : Int) := by omega
   have : kk = l0.length := by omega
   subst this
   go_wp2
   go_ret
   refine ⟨?_, BW.out⟩
   rw [Cl.idxOf_miss p z122 l0 HA.out]
   rfl
def dom_find.f (l0 : List S122) (a1 : ByteArray) : Option Int := if l0.length * 32 ≤ 140737488355328 then some (Cl.idxOf (fun x => x.f0.toList == a1.toList) l0) else none
theorem dom_find.calls (A0 : Option Addr) (c0 : Nat) (l0 : List S122) (a1 : ByteArray) (r : Int) (w : World) (hr0 : Kd.C k122 w A0 l0.length l0) (hc0 : l0.length ≤ c0) (h : dom_find.f l0 a1 = some r) :
 Calls Tryd.prog 112 #[.slice A0 l0.length c0, .string a1] w fun e w' => e = .returned (.int .i64 r) ∧ Below w.heap.size w w' := by
 unfold dom_find.f at h
 split at h
 ·rename_i hs0
  have hr := Option.some.inj h
  clear h
  have eg : ∀ args w, (callFunc 142 args).run Tryd.prog w = .ok (.enter 142 args) w := enters_of Tryd.func142 (by kernel_rfl) rfl
  have hb0 : Below w.heap.size w (w.alloc (.cells #[.string a1] 9)) := (Below.refl _ w).alloc (Nat.le_refl _) _
  have hH := api_Attr_141.idx A0 c0 l0 (fun x => x.f0.toList == a1.toList) 142 #[.pointer (some ⟨w.heap.size, 0, none⟩)] eg _ (Kd.C_below hr0 hb0) (by omega) (fun W x cs hx hb hK => by
   obtain rfl := k122_open hK
   have hcell : W.cell? ⟨w.heap.size, 0, none⟩ = some (.string a1) := (hb.cell (p := ⟨w.heap.size, 0, none⟩) (by simp)).trans (by simp)
   have hlt : w.heap.size < W.heap.size := Nat.lt_of_lt_of_le (by simp) hb.size
   show Calls Tryd.prog 142 #[.agg #[.string x.f0, .string x.f1], .pointer (some ⟨w.heap.size, 0, none⟩)] W _
   have hne : w.heap.size ≠ W.heap.size := by omega
   clear hb hr hr0 hb0 hx hK
   go_enter Tryd.func142, Tryd.ntmps142
   go_wp2
   go_ret
   exact ⟨by first | rfl | simp, (Below.refl _ W).alloc (Nat.le_refl _) _⟩)
  rw [hr] at hH
  clear hr hr0
  go_enter Tryd.func112, Tryd.ntmps112
  go_wp2_with (go_at_call 141; refine hH.mono ?_; rintro e w' ⟨rfl, hb'⟩)
  go_ret
  exact ⟨rfl, ((Below.refl _ w).alloc (Nat.le_refl _) _).trans (hb'.mono (by simp))⟩
 ·cases h
def dom_attrName.f (a0 : ByteArray) : Option (Bool) := if 0 ≤ 26 then (if 26 ≤ 39 then (if ((⟨#[97, 98, 99, 100, 101, 102, 103, 104, 105, 106, 107, 108, 109, 110, 111, 112, 113, 114, 115, 116, 117, 118, 119, 120, 121, 122, 48, 49, 50, 51, 52, 53, 54, 55, 56, 57, 45, 95, 58]⟩ : ByteArray).extract 0 26).size + 2 ≤ 9223372036854775807 then ((dom_named.f a0 (((⟨#[97, 98, 99, 100, 101, 102, 103, 104, 105, 106, 107, 108, 109, 110, 111, 112, 113, 114, 115, 116, 117, 118, 119, 120, 121, 122, 48, 49, 50, 51, 52, 53, 54, 55, 56, 57, 45, 95, 58]⟩ : ByteArray).extract 0 26) ++ (⟨#[45, 95]⟩ : ByteArray))).bind fun t151 => (some t151)) else (none)) else (none)) else (none)
set_option maxHeartbeats 8000000 in
set_option maxRecDepth 100000 in
theorem dom_attrName.calls (a0 : ByteArray) (r : Bool) (w : World) (h : dom_attrName.f a0 = some r) :
 Calls Tryd.prog 160 #[.string a0] w fun e w' => e = .returned (.bool r) ∧ Below w.heap.size w w' := by
 have HB := aS (Below.refl w.heap.size w)
 have H := h; clear h; unfold dom_attrName.f at H
 refine iGp H ?_; clear H; intro c2 H
 have c2b0 := eq_true c2
 have c2b1 : decide (0 ≤ 26) = true := decide_eq_true c2
 clear c2
 refine iGp H ?_; clear H; intro c3 H
 have c3b0 := eq_true c3
 have c3b1 : decide (26 ≤ 39) = true := decide_eq_true c3
 clear c3
 refine iGp H ?_; clear H; intro c4 H
 have c4b0 := eq_true c4
 have c4b1 : decide (((⟨#[97, 98, 99, 100, 101, 102, 103, 104, 105, 106, 107, 108, 109, 110, 111, 112, 113, 114, 115, 116, 117, 118, 119, 120, 121, 122, 48, 49, 50, 51, 52, 53, 54, 55, 56, 57, 45, 95, 58]⟩ : ByteArray).extract 0 26).size + 2 ≤ 9223372036854775807) = true := decide_eq_true c4
 try have c4b2 : (9223372036854775807 < ((⟨#[97, 98, 99, 100, 101, 102, 103, 104, 105, 106, 107, 108, 109, 110, 111, 112, 113, 114, 115, 116, 117, 118, 119, 120, 121, 122, 48, 49, 50, 51, 52, 53, 54, 55, 56, 57, 45, 95, 58]⟩ : ByteArray).extract 0 26).size + 2) = False := eq_false (Nat.not_lt.2 c4)
 replace H := iB H
 obtain ⟨t151, A5, H⟩ := H
 obtain rfl := Option.some.inj H
 go_enter Tryd.func160, Tryd.ntmps160
 go_wp2_with (first | ((with_reducible refine q06 (f := 159) rfl ?_); refine q0l (some 6) rfl rfl Tryd.func159 (by kernel_rfl) rfl #[.string a0, .string (((⟨#[97, 98, 99, 100, 101, 102, 103, 104, 105, 106, 107, 108, 109, 110, 111, 112, 113, 114, 115, 116, 117, 118, 119, 120, 121, 122, 48, 49, 50, 51, 52, 53, 54, 55, 56, 57, 45, 95, 58]⟩ : ByteArray).extract 0 26) ++ (⟨#[45, 95]⟩ : ByteArray))] rfl zd ?_; (with_reducible refine (dom_named.calls a0 (((⟨#[97, 98, 99, 100, 101, 102, 103, 104, 105, 106, 107, 108, 109, 110, 111, 112, 113, 114, 115, 116, 117, 118, 119, 120, 121, 122, 48, 49, 50, 51, 52, 53, 54, 55, 56, 57, 45, 95, 58]⟩ : ByteArray).extract 0 26) ++ (⟨#[45, 95]⟩ : ByteArray)) t151 _ A5.out).mono ?_); rintro e w6 ⟨rfl, hb⟩; refine ⟨_, rfl, ?_⟩; replace HB := aS (q01 (z6 HB.out) hb); (try clear hb); (try clear hb2); (try clear hk); (try clear hi)))
 go_ret
 exact ⟨by first | rfl | (simp [q04, q03] <;> rfl) | (simp [*, q04, q03] <;> rfl), by repeat (first | (with_reducible first | exact HB.out | apply bA | apply bN | apply bD) | exact HB.out)⟩
def dom_attrs.l0 : Nat → List (S122) → List (S122) → Int → Int → Option (Int)
 | 0, _, _, _, _ => none
 | k + 1, x0, x8, x9, x10 => if x10 < x9 then (if 0 ≤ x10 then (if x10 < (x8.length : Int) then ((dom_attrName.f ((q0e x8 x10).f0)).bind fun t154 => (if t154 = true then (if (((q0e x8 x10).f1).size : Int) > 400 then (some 2) else (if x10 ≤ (x0.length : Int) then ((dom_find.f (x0.take (x10 : Int).toNat) ((q0e x8 x10).f0)).bind fun t159 => (if t159 ≥ 0 then (some 3) else (dom_attrs.l0 k x0 x8 x9 (wrap64 (x10 + 1))))) else (none))) else (some 3))) else (none)) else (none)) else (some 0)
def dom_attrs.f (k : Nat) (l0 : List (S122)) : Option (Int) := if (l0.length : Int) > 12 then (some 2) else (dom_attrs.l0 k l0 l0 (l0.length : Int) 0)
theorem dom_attrs.mono_l : ∀ k, (∀ y0 y1 y2 y3, LeO (dom_attrs.l0 k y0 y1 y2 y3) (dom_attrs.l0 (k + 1) y0 y1 y2 y3))
 | 0 => fun _ _ _ _ r h => by simp [dom_attrs.l0] at h
 | k + 1 => by
  have ih0 := dom_attrs.mono_l k
  ·intro y0 y1 y2 y3
   unfold dom_attrs.l0
   repeat' first | with_reducible first | apply ih0 | exact LeO.refl _ | exact LeO.none _ | refine LeO.ite ?_ ?_ | refine LeO.bind ?_ (fun _ => ?_) | (first | apply ih0 | exact LeO.none _ | refine LeO.ite ?_ ?_ | refine LeO.bind ?_ (fun _ => ?_))
theorem dom_attrs.mono : ∀ a0 k, LeO (dom_attrs.f k a0) (dom_attrs.f (k + 1) a0) := by
 intro a0 k
 have ih0 := dom_attrs.mono_l k
 unfold dom_attrs.f
 repeat' first | with_reducible first | apply ih0 | exact LeO.refl _ | exact LeO.none _ | refine LeO.ite ?_ ?_ | refine LeO.bind ?_ (fun _ => ?_) | (first | apply ih0 | exact LeO.none _ | refine LeO.ite ?_ ?_ | refine LeO.bind ?_ (fun _ => ?_))
def dom_attrs.T10 : Bool × List (List Nat × List Nat) := (true, [([], []), ([], []), ([0, 1], [0, 1]), ([], []), ([3], [3]), ([2, 4], [2, 4]), ([5], [5]), ([6, 5], [6])])
def dom_attrs.B10 : List Nat := [0, 0, 3, 0, 8, 31, 63, 127]
theorem dom_attrs.tab10 : rtab .any (opsOf Tryd.f137 10) = dom_attrs.T10 := by kernel_rfl
theorem dom_attrs.bits10 : waitsOk dom_attrs.T10.2 dom_attrs.B10 = true := by kernel_rfl
set_option maxHeartbeats 8000000 in
set_option maxRecDepth 100000 in
theorem dom_attrs.calls (k : Nat) (A0 : Option Addr) (c0 : Nat) (l0 : List (S122)) (r : Int) (w : World) (hr0 : Kd.C k122 w A0 l0.length l0) (hc0 : l0.length ≤ c0) (h : dom_attrs.f k l0 = some r) :
 Calls Tryd.prog 137 #[.slice A0 l0.length c0] w fun e w' => e = .returned (.int .i64 r) ∧ Below w.heap.size w w' := by
 have hu122 := Tryd.underlying122
 have HR0 := aS hr0
 have HC0 := aS hc0
 clear hr0 hc0
 have HB := aS (Below.refl w.heap.size w)
 have H := h; clear h; unfold dom_attrs.f at H
 refine iTN (m := 12) (n := l0.length) H rfl rfl ?p2 ?n2 <;> clear H
 case' p2 => intro c2b0 c2b1 H
 case' n2 => intro c2b0 c2b1 H
 case p2 =>
  obtain rfl := Option.some.inj H
  go_enter Tryd.func137, Tryd.ntmps137
  go_wp2
  go_ret
  exact ⟨by first | rfl | (simp [q04, q03] <;> rfl) | (simp [*, q04, q03] <;> rfl), by repeat (first | (with_reducible first | exact HB.out | apply bA | apply bN | apply bD) | exact HB.out)⟩
 case n2 =>
  have H' := aS H
  clear H
  go_enter Tryd.func137, Tryd.ntmps137
  go_wp2
  go_loopg [10] k (fun kq v10 w' => ∃ (x10_1 : Int), v10 = .int .i64 x10_1 ∧ Aside0 (dom_attrs.l0 kq l0 l0 (l0.length : Int) x10_1 = some r) ∧ Aside0 (kq ≤ k) ∧ Aside0 (Below w.heap.size w w'))
  case atStart => exact ⟨(0), zj, H', ⟨Nat.le_refl _⟩, ⟨by repeat (first | (with_reducible first | exact HB.out | apply bA | apply bN | apply bD) | exact HB.out)⟩⟩
  case round =>
   clear H'
   obtain ⟨x10_1, rfl, HA, HK1, HB⟩ := hrel
   cases gk with
   | zero => exact absurd HA.out (by simp [dom_attrs.l0])
   | succ k1 =>
    have H := HA.out
    clear HA
    simp only [dom_attrs.l0] at H
    refine iT H ?p3 ?n3 <;> clear H
    case' p3 => intro c3b0 H; refine iLp H ?_; clear H; intro c4b0 H; refine iTp H ?_; clear H; intro c5b0 H; replace H := iB H; obtain ⟨t154, A6, H⟩ := H; refine iV H ?p7 ?n7 <;> clear H
    case' p7 => intro c7 H; subst c7; refine iTN (m := 400) (n := ((q0e l0 x10_1).f1).size) H rfl rfl ?p8 ?n8 <;> clear H
    case' p8 => intro c8b0 c8b1 H
    case' n8 =>
     intro c8b0 c8b1 H
     have c13b0 := eq_true (od za : 0 ≤ x10_1)
     refine iGp H ?_; clear H; intro c14 H
     have c14b0 := eq_true c14
     have c14b1 : decide (x10_1 ≤ (l0.length : Int)) = true := decide_eq_true c14
     clear c14
     obtain ⟨y155, hy155⟩ : ∃ y_ : List (S122), y_ = (l0.take (x10_1 : Int).toNat) := ⟨_, rfl⟩
     replace H : ((dom_find.f y155 ((q0e l0 x10_1).f0)).bind fun t159 => (if t159 ≥ 0 then (some 3) else (dom_attrs.l0 k1 l0 l0 (l0.length : Int) (wrap64 (x10_1 + 1))))) = some r := by first | (rw [hy155]; with_reducible exact H) | (have H2_ := (Option.bind_some _ _).symm.trans H; rw [hy155]; with_reducible exact H2_) | (have H2_ := (Option.bind_some _ _).symm.trans H; with_reducible exact H2_) | with_reducible exact H | (rw [hy155]; exact H) | exact H
     have Ny155 := aS hy155
     clear hy155
     replace H := iB H
     obtain ⟨t159, A15, H⟩ := H
     obtain ⟨ad152, e152, hx152_0, hx152_1, p152, q152⟩ := q0u HB.out HR0.out x10_1 za za
     cases e152
     refine iL H ?p16 ?n16 <;> clear H
    case' p16 => intro c16b0 H
    case' n16 => intro c16b0 H
    case' n7 => intro c7 H; subst c7
    case' n3 => intro c3b0 H
    case p8 =>
     obtain rfl := Option.some.inj H
     obtain ⟨ad152, e152, hx152_0, hx152_1, p152, q152⟩ := q0u HB.out HR0.out x10_1 za za
     cases e152
     go_wp2_with (first | ((with_reducible refine q0g (N := 4) rfl ?_); refine box0 rfl (N := 4) rfl (cs := #[.string (⟨#[]⟩ : ByteArray), .string (⟨#[]⟩ : ByteArray)]) (t := 122) zi (z6 HB.out) ?_; clear HB; intro gb153 w9 BK153 GW153 HB; have GE153 := GW153; obtain ⟨hczL_0, hczL_1, hfzL_0, hfzL_1⟩ := bk2 BK153.out) | ((with_reducible refine q06 (f := 160) rfl ?_); refine q0l (some 18) rfl rfl Tryd.func160 (by kernel_rfl) rfl #[.string ((q0e l0 x10_1).f0)] rfl zd ?_; (with_reducible refine (dom_attrName.calls ((q0e l0 x10_1).f0) true _ A6.out).mono ?_); rintro e w11 ⟨rfl, hb⟩; refine ⟨_, rfl, ?_⟩; replace BK153 := aS (q07 (g := gb153) (o := .cells #[.string ((q0e l0 x10_1).f0), .string ((q0e l0 x10_1).f1)] 122 (0, 0)) (by (with_reducible repeat (first | refine kN ?_ _ | refine kD ?_ | refine kA ?_ _)); refine q0t (cs := #[.string ((q0e l0 x10_1).f0), .string (⟨#[]⟩ : ByteArray)]) ?_ 1 _ rfl; (with_reducible repeat (first | refine kN ?_ _ | refine kD ?_ | refine kA ?_ _)); refine q0t (cs := #[.string (⟨#[]⟩ : ByteArray), .string (⟨#[]⟩ : ByteArray)]) ?_ 0 _ rfl; (with_reducible repeat (first | refine kN ?_ _ | refine kD ?_ | refine kA ?_ _)); exact BK153.out) hb); replace HB := aS (q01 (z1 HB.out GE153.out) hb); (try clear hb); (try clear hb2); (try clear hk); (try clear hi); obtain ⟨hczL_0, hczL_1, hfzL_0, hfzL_1⟩ := bk2 BK153.out))
     go_ret
     exact ⟨by first | rfl | (simp [q04, q03] <;> rfl) | (simp [*, q04, q03] <;> rfl), by repeat (first | (with_reducible first | exact HB.out | apply bA | apply bN | apply bD | refine bS ?_ GE153.out) | exact HB.out)⟩
    case p16 =>
     obtain rfl := Option.some.inj H
     try go_wp2_with (first | ((with_reducible refine q0g (N := 4) rfl ?_); refine box0 rfl (N := 4) rfl (cs := #[.string (⟨#[]⟩ : ByteArray), .string (⟨#[]⟩ : ByteArray)]) (t := 122) zi (z6 HB.out) ?_; clear HB; intro gb153 w17 BK153 GW153 HB; have GE153 := GW153; obtain ⟨hczL_0, hczL_1, hfzL_0, hfzL_1⟩ := bk2 BK153.out) | ((with_reducible refine q06 (f := 160) rfl ?_); refine q0l (some 18) rfl rfl Tryd.func160 (by kernel_rfl) rfl #[.string ((q0e l0 x10_1).f0)] rfl zd ?_; (with_reducible refine (dom_attrName.calls ((q0e l0 x10_1).f0) true _ A6.out).mono ?_); rintro e w19 ⟨rfl, hb⟩; refine ⟨_, rfl, ?_⟩; replace BK153 := aS (q07 (g := gb153) (o := .cells #[.string ((q0e l0 x10_1).f0), .string ((q0e l0 x10_1).f1)] 122 (0, 0)) (by (with_reducible repeat (first | refine kN ?_ _ | refine kD ?_ | refine kA ?_ _)); refine q0t (cs := #[.string ((q0e l0 x10_1).f0), .string (⟨#[]⟩ : ByteArray)]) ?_ 1 _ rfl; (with_reducible repeat (first | refine kN ?_ _ | refine kD ?_ | refine kA ?_ _)); refine q0t (cs := #[.string (⟨#[]⟩ : ByteArray), .string (⟨#[]⟩ : ByteArray)]) ?_ 0 _ rfl; (with_reducible repeat (first | refine kN ?_ _ | refine kD ?_ | refine kA ?_ _)); exact BK153.out) hb); replace HB := aS (q01 (z1 HB.out GE153.out) hb); (try clear hb); (try clear hb2); (try clear hk); (try clear hi); obtain ⟨hczL_0, hczL_1, hfzL_0, hfzL_1⟩ := bk2 BK153.out))
     have n0_ := aS (blk_drew BK153.out)
     have n1_ := aS (q0i HB.out)
     clear BK153
     clear HB
     have BK153 := n0_
     have HB := n1_
     clear n0_ n1_
     have q22 : (x10_1 : Int) ≤ ((l0.length : Int) : Int) := od za
     obtain ⟨i022, hi022, _, hsz22, _⟩ := info_parts info122
     have hroom22 : l0.length ≤ c0 := HC0.out
     have hC22 : Kd.C k122 _ (some ad152) l0.length l0 := HR0.out
     have hcut22 := cut_to (P := Tryd.prog) 41 122 .i64 Tryd.underlying41 hi022 (some ad152) l0.length c0 x10_1 (od za) q22 hroom22
     have hr22 := Kd.C_take (m := (x10_1 : Int).toNat) hC22 (by omega)
     have hy22 : y155.length = (x10_1 : Int).toNat := (by rw [Ny155.out, List.length_take]; omega)
     rw [← Ny155.out] at hr22
     rw [← hy22] at hcut22
     have HR158 := aS hr22
     have HC158 := aS (show y155.length ≤ c0 from by omega)
     clear hr22 hC22 hroom22 hi022 hsz22
     have KY22 := aS hy22
     clear hy22
     replace q22 := eq_true q22
     refine start_ (n := 8) (S := fun w' => w'.cell? ⟨gb153, 0, none⟩ = some (.string ((q0e l0 x10_1).f0)) ∧ w'.cell? ⟨gb153, 1, none⟩ = some (.string ((q0e l0 x10_1).f1))) (ds := []) #[false, false, false, false, false, false, false, false] (by kernel_rfl) rfl rfl ⟨(q05 BK153.out 0).trans rfl, (q05 BK153.out 1).trans rfl⟩ (fun hHeld => ?_); refine with_tabW dom_attrs.tab10 dom_attrs.bits10 (fun HT_ HW_ => ?_)
     generalize w19.drew = w21 at BK153 HB HR158 hHeld ⊢
     refine q18 (i := 0) (N := some 26) (v := ?_) (a' := ?_) #[true, false, false, false, false, false, false, false] rfl rfl (q0x HT_.out (by kernel_rfl)) (fun _ _ _ h => h) (Or.inl ⟨by rfl, ?_⟩) ?_ ?_
     rotate_left
     ·intro w'
      go_simp
      with_reducible rfl
     rotate_left
     ·simp only [Act.put, s1, s2, s3, q0p, q0r]
      rfl
     refine q18 (i := 1) (N := some 27) (v := ?_) (a' := ?_) #[true, true, false, false, false, false, false, false] rfl rfl (q0x HT_.out (by kernel_rfl)) (fun _ _ _ h => h) (Or.inl ⟨by rfl, ?_⟩) ?_ ?_
     rotate_left
     ·intro w'
      go_simp
      with_reducible rfl
     rotate_left
     ·simp only [Act.put, s1, s2, s3, q0p, q0r]
      rfl
     refine q18 (i := 2) (N := some 28) (v := ?_) (a' := ?_) #[true, true, true, false, false, false, false, false] rfl rfl (q0x HT_.out (by kernel_rfl)) (fun _ _ _ h => h) (Or.inl ⟨by rfl, ?_⟩) ?_ ?_
     rotate_left
     ·intro w'
      go_simp
      with_reducible rfl
     rotate_left
     ·simp only [Act.put, s1, s2, s3, q0p, q0r]
      rfl
     refine q18 (i := 3) (N := some 29) (v := ?_) (a' := ?_) #[true, true, true, true, false, false, false, false] rfl rfl (q0x HT_.out (by kernel_rfl)) (fun _ _ _ h => h) (Or.inl ⟨by rfl, ?_⟩) ?_ ?_
     rotate_left
     ·intro w'
      go_simp
      with_reducible rfl
     rotate_left
     ·simp only [Act.put, s1, s2, s3, q0p, q0r]
      rfl
     refine take_ (i := 4) (N := some 30) (v := ?_) (a' := ?_) #[true, true, true, true, true, false, false, false] rfl rfl (take_ofW HT_.out HW_.out (by kernel_rfl)) (fun _ _ _ h => h) (Or.inl ⟨by rfl, ?_⟩) hHeld ?_ ?_
     rotate_left
     ·rintro w' ⟨s0, s1⟩
      go_simp
      with_reducible rfl
     rotate_left
     ·simp only [Act.put, s1, s2, s3, q0p, q0r]
      rfl
     refine one_ (i := 5) (N := some 31) #[true, true, true, true, true, true, false, false] rfl rfl (one_of HT_.out (by kernel_rfl)) (by decide) (fun K hK => ?_)
     refine goes_ Tryd.func112 (by kernel_rfl) rfl #[.slice (some ad152) y155.length c0, .string ((q0e l0 x10_1).f0)] (by rfl) rfl rfl zd ?_
     with_reducible refine (dom_find.calls _ _ y155 ((q0e l0 x10_1).f0) t159 _ ?side1 ?side2 A15.out).mono ?_
     (case side1 => repeat (first | exact (Kd.C_below HR158.out HB.out) | (with_reducible refine cA ?_ _) | (with_reducible refine cN ?_ _) | (with_reducible refine cD ?_)))
     (case side2 => exact HC158.out)
     rintro e w23 ⟨rfl, hb⟩
     refine ⟨_, rfl, ?_⟩
     have n0_ := aS (q07 (g := gb153) (o := .cells #[.string ((q0e l0 x10_1).f0), .string ((q0e l0 x10_1).f1)] 122 (0, 0)) (z8 BK153.out) hb)
     have n1_ := aS (q01 (z1 HB.out GE153.out) hb)
     clear BK153
     clear HB
     have BK153 := n0_
     have HB := n1_
     clear n0_ n1_
     (try clear hb)
     (try clear hb2)
     (try clear hk)
     (try clear hi)
     refine hK.out _ _ ⟨(q05 BK153.out 0).trans rfl, (q05 BK153.out 1).trans rfl⟩ (fun hHeld => ?_)
     clear hK K
     refine norm_ (a' := ?_) ?_ ?_
     rotate_left
     ·show Act.put _ (some 31) _ = _
      simp only [Act.put, s1, s2, s3, q0p, q0r]
      rfl
     refine q18 (i := 6) (N := some 32) (v := ?_) (a' := ?_) #[true, true, true, true, true, true, true, false] rfl rfl (q0x HT_.out (by kernel_rfl)) (fun _ _ _ h => h) (Or.inl ⟨by rfl, ?_⟩) ?_ ?_
     rotate_left
     ·intro w'
      go_simp
      with_reducible rfl
     rotate_left
     ·simp only [Act.put, s1, s2, s3, q0p, q0r]
      rfl
     refine q18 (i := 7) (N := some 25) (v := ?_) (a' := ?_) #[true, true, true, true, true, true, true, true] rfl rfl (q0x HT_.out (by kernel_rfl)) (fun _ _ _ h => h) (Or.inl ⟨by rfl, ?_⟩) ?_ ?_
     rotate_left
     ·intro w'
      go_simp
      with_reducible rfl
     rotate_left
     ·simp only [Act.put, s1, s2, s3, q0p, q0r]
      rfl
     refine done_ (done_of HT_.out (by kernel_rfl)) ?_
     try go_wp2
     go_ret
     exact ⟨by first | rfl | (simp [q04, q03] <;> rfl) | (simp [*, q04, q03] <;> rfl), by repeat (first | (with_reducible first | exact HB.out | apply bA | apply bN | apply bD | refine bS ?_ GE153.out) | exact HB.out)⟩
    case n16 =>
     have H' := aS H
     clear H
     try go_wp2_with (first | ((with_reducible refine q0g (N := 4) rfl ?_); refine box0 rfl (N := 4) rfl (cs := #[.string (⟨#[]⟩ : ByteArray), .string (⟨#[]⟩ : ByteArray)]) (t := 122) zi (z6 HB.out) ?_; clear HB; intro gb153 w24 BK153 GW153 HB; have GE153 := GW153; obtain ⟨hczL_0, hczL_1, hfzL_0, hfzL_1⟩ := bk2 BK153.out) | ((with_reducible refine q06 (f := 160) rfl ?_); refine q0l (some 18) rfl rfl Tryd.func160 (by kernel_rfl) rfl #[.string ((q0e l0 x10_1).f0)] rfl zd ?_; (with_reducible refine (dom_attrName.calls ((q0e l0 x10_1).f0) true _ A6.out).mono ?_); rintro e w26 ⟨rfl, hb⟩; refine ⟨_, rfl, ?_⟩; replace BK153 := aS (q07 (g := gb153) (o := .cells #[.string ((q0e l0 x10_1).f0), .string ((q0e l0 x10_1).f1)] 122 (0, 0)) (by (with_reducible repeat (first | refine kN ?_ _ | refine kD ?_ | refine kA ?_ _)); refine q0t (cs := #[.string ((q0e l0 x10_1).f0), .string (⟨#[]⟩ : ByteArray)]) ?_ 1 _ rfl; (with_reducible repeat (first | refine kN ?_ _ | refine kD ?_ | refine kA ?_ _)); refine q0t (cs := #[.string (⟨#[]⟩ : ByteArray), .string (⟨#[]⟩ : ByteArray)]) ?_ 0 _ rfl; (with_reducible repeat (first | refine kN ?_ _ | refine kD ?_ | refine kA ?_ _)); exact BK153.out) hb); replace HB := aS (q01 (z1 HB.out GE153.out) hb); (try clear hb); (try clear hb2); (try clear hk); (try clear hi); obtain ⟨hczL_0, hczL_1, hfzL_0, hfzL_1⟩ := bk2 BK153.out))
     have n0_ := aS (blk_drew BK153.out)
     have n1_ := aS (q0i HB.out)
     clear BK153
     clear HB
     have BK153 := n0_
     have HB := n1_
     clear n0_ n1_
     have q29 : (x10_1 : Int) ≤ ((l0.length : Int) : Int) := od za
     obtain ⟨i029, hi029, _, hsz29, _⟩ := info_parts info122
     have hroom29 : l0.length ≤ c0 := HC0.out
     have hC29 : Kd.C k122 _ (some ad152) l0.length l0 := HR0.out
     have hcut29 := cut_to (P := Tryd.prog) 41 122 .i64 Tryd.underlying41 hi029 (some ad152) l0.length c0 x10_1 (od za) q29 hroom29
     have hr29 := Kd.C_take (m := (x10_1 : Int).toNat) hC29 (by omega)
     have hy29 : y155.length = (x10_1 : Int).toNat := (by rw [Ny155.out, List.length_take]; omega)
     rw [← Ny155.out] at hr29
     rw [← hy29] at hcut29
     have HR158 := aS hr29
     have HC158 := aS (show y155.length ≤ c0 from by omega)
     clear hr29 hC29 hroom29 hi029 hsz29
     have KY29 := aS hy29
     clear hy29
     replace q29 := eq_true q29
     refine start_ (n := 8) (S := fun w' => w'.cell? ⟨gb153, 0, none⟩ = some (.string ((q0e l0 x10_1).f0)) ∧ w'.cell? ⟨gb153, 1, none⟩ = some (.string ((q0e l0 x10_1).f1))) (ds := []) #[false, false, false, false, false, false, false, false] (by kernel_rfl) rfl rfl ⟨(q05 BK153.out 0).trans rfl, (q05 BK153.out 1).trans rfl⟩ (fun hHeld => ?_); refine with_tabW dom_attrs.tab10 dom_attrs.bits10 (fun HT_ HW_ => ?_)
     generalize w26.drew = w28 at BK153 HB HR158 hHeld ⊢
     refine q18 (i := 0) (N := some 26) (v := ?_) (a' := ?_) #[true, false, false, false, false, false, false, false] rfl rfl (q0x HT_.out (by kernel_rfl)) (fun _ _ _ h => h) (Or.inl ⟨by rfl, ?_⟩) ?_ ?_
     rotate_left
     ·intro w'
      go_simp
      with_reducible rfl
     rotate_left
     ·simp only [Act.put, s1, s2, s3, q0p, q0r]
      rfl
     refine q18 (i := 1) (N := some 27) (v := ?_) (a' := ?_) #[true, true, false, false, false, false, false, false] rfl rfl (q0x HT_.out (by kernel_rfl)) (fun _ _ _ h => h) (Or.inl ⟨by rfl, ?_⟩) ?_ ?_
     rotate_left
     ·intro w'
      go_simp
      with_reducible rfl
     rotate_left
     ·simp only [Act.put, s1, s2, s3, q0p, q0r]
      rfl
     refine q18 (i := 2) (N := some 28) (v := ?_) (a' := ?_) #[true, true, true, false, false, false, false, false] rfl rfl (q0x HT_.out (by kernel_rfl)) (fun _ _ _ h => h) (Or.inl ⟨by rfl, ?_⟩) ?_ ?_
     rotate_left
     ·intro w'
      go_simp
      with_reducible rfl
     rotate_left
     ·simp only [Act.put, s1, s2, s3, q0p, q0r]
      rfl
     refine q18 (i := 3) (N := some 29) (v := ?_) (a' := ?_) #[true, true, true, true, false, false, false, false] rfl rfl (q0x HT_.out (by kernel_rfl)) (fun _ _ _ h => h) (Or.inl ⟨by rfl, ?_⟩) ?_ ?_
     rotate_left
     ·intro w'
      go_simp
      with_reducible rfl
     rotate_left
     ·simp only [Act.put, s1, s2, s3, q0p, q0r]
      rfl
     refine take_ (i := 4) (N := some 30) (v := ?_) (a' := ?_) #[true, true, true, true, true, false, false, false] rfl rfl (take_ofW HT_.out HW_.out (by kernel_rfl)) (fun _ _ _ h => h) (Or.inl ⟨by rfl, ?_⟩) hHeld ?_ ?_
     rotate_left
     ·rintro w' ⟨s0, s1⟩
      go_simp
      with_reducible rfl
     rotate_left
     ·simp only [Act.put, s1, s2, s3, q0p, q0r]
      rfl
     refine one_ (i := 5) (N := some 31) #[true, true, true, true, true, true, false, false] rfl rfl (one_of HT_.out (by kernel_rfl)) (by decide) (fun K hK => ?_)
     refine goes_ Tryd.func112 (by kernel_rfl) rfl #[.slice (some ad152) y155.length c0, .string ((q0e l0 x10_1).f0)] (by rfl) rfl rfl zd ?_
     with_reducible refine (dom_find.calls _ _ y155 ((q0e l0 x10_1).f0) t159 _ ?side1 ?side2 A15.out).mono ?_
     (case side1 => repeat (first | exact (Kd.C_below HR158.out HB.out) | (with_reducible refine cA ?_ _) | (with_reducible refine cN ?_ _) | (with_reducible refine cD ?_)))
     (case side2 => exact HC158.out)
     rintro e w30 ⟨rfl, hb⟩
     refine ⟨_, rfl, ?_⟩
     have n0_ := aS (q07 (g := gb153) (o := .cells #[.string ((q0e l0 x10_1).f0), .string ((q0e l0 x10_1).f1)] 122 (0, 0)) (z8 BK153.out) hb)
     have n1_ := aS (q01 (z1 HB.out GE153.out) hb)
     clear BK153
     clear HB
     have BK153 := n0_
     have HB := n1_
     clear n0_ n1_
     (try clear hb)
     (try clear hb2)
     (try clear hk)
     (try clear hi)
     refine hK.out _ _ ⟨(q05 BK153.out 0).trans rfl, (q05 BK153.out 1).trans rfl⟩ (fun hHeld => ?_)
     clear hK K
     refine norm_ (a' := ?_) ?_ ?_
     rotate_left
     ·show Act.put _ (some 31) _ = _
      simp only [Act.put, s1, s2, s3, q0p, q0r]
      rfl
     refine q18 (i := 6) (N := some 32) (v := ?_) (a' := ?_) #[true, true, true, true, true, true, true, false] rfl rfl (q0x HT_.out (by kernel_rfl)) (fun _ _ _ h => h) (Or.inl ⟨by rfl, ?_⟩) ?_ ?_
     rotate_left
     ·intro w'
      go_simp
      with_reducible rfl
     rotate_left
     ·simp only [Act.put, s1, s2, s3, q0p, q0r]
      rfl
     refine q18 (i := 7) (N := some 25) (v := ?_) (a' := ?_) #[true, true, true, true, true, true, true, true] rfl rfl (q0x HT_.out (by kernel_rfl)) (fun _ _ _ h => h) (Or.inl ⟨by rfl, ?_⟩) ?_ ?_
     rotate_left
     ·intro w'
      go_simp
      with_reducible rfl
     rotate_left
     ·simp only [Act.put, s1, s2, s3, q0p, q0r]
      rfl
     refine done_ (done_of HT_.out (by kernel_rfl)) ?_
     try go_wp2
     go_roundg k1
     case measure => have := HK1.out; omega
     case rel => exact ⟨(wrap64 (x10_1 + 1)), zj, H', ⟨by have := HK1.out; omega⟩, ⟨by repeat (first | (with_reducible first | exact HB.out | apply bA | apply bN | apply bD | refine bS ?_ GE153.out) | exact HB.out)⟩⟩
    case n7 =>
     obtain rfl := Option.some.inj H
     obtain ⟨ad152, e152, hx152_0, hx152_1, p152, q152⟩ := q0u HB.out HR0.out x10_1 za za
     cases e152
     go_wp2_with (first | ((with_reducible refine q0g (N := 4) rfl ?_); refine box0 rfl (N := 4) rfl (cs := #[.string (⟨#[]⟩ : ByteArray), .string (⟨#[]⟩ : ByteArray)]) (t := 122) zi (z6 HB.out) ?_; clear HB; intro gb153 w31 BK153 GW153 HB; have GE153 := GW153; obtain ⟨hczL_0, hczL_1, hfzL_0, hfzL_1⟩ := bk2 BK153.out) | ((with_reducible refine q06 (f := 160) rfl ?_); refine q0l (some 18) rfl rfl Tryd.func160 (by kernel_rfl) rfl #[.string ((q0e l0 x10_1).f0)] rfl zd ?_; (with_reducible refine (dom_attrName.calls ((q0e l0 x10_1).f0) false _ A6.out).mono ?_); rintro e w33 ⟨rfl, hb⟩; refine ⟨_, rfl, ?_⟩; replace BK153 := aS (q07 (g := gb153) (o := .cells #[.string ((q0e l0 x10_1).f0), .string ((q0e l0 x10_1).f1)] 122 (0, 0)) (by (with_reducible repeat (first | refine kN ?_ _ | refine kD ?_ | refine kA ?_ _)); refine q0t (cs := #[.string ((q0e l0 x10_1).f0), .string (⟨#[]⟩ : ByteArray)]) ?_ 1 _ rfl; (with_reducible repeat (first | refine kN ?_ _ | refine kD ?_ | refine kA ?_ _)); refine q0t (cs := #[.string (⟨#[]⟩ : ByteArray), .string (⟨#[]⟩ : ByteArray)]) ?_ 0 _ rfl; (with_reducible repeat (first | refine kN ?_ _ | refine kD ?_ | refine kA ?_ _)); exact BK153.out) hb); replace HB := aS (q01 (z1 HB.out GE153.out) hb); (try clear hb); (try clear hb2); (try clear hk); (try clear hi)))
     go_ret
     exact ⟨by first | rfl | (simp [q04, q03] <;> rfl) | (simp [*, q04, q03] <;> rfl), by repeat (first | (with_reducible first | exact HB.out | apply bA | apply bN | apply bD | refine bS ?_ GE153.out) | exact HB.out)⟩
    case n3 =>
     obtain rfl := Option.some.inj H
     go_wp2
     go_ret
     exact ⟨by first | rfl | (simp [q04, q03] <;> rfl) | (simp [*, q04, q03] <;> rfl), by repeat (first | (with_reducible first | exact HB.out | apply bA | apply bN | apply bD) | exact HB.out)⟩
mutual
def dom_one.j1 : Nat → Int → ByteArray → List (S122) → ByteArray → Int → List Int → Option (Int)
 | 0, _, _, _, _, _, _ => none
 | k + 1, x161000, x161001, x161002, x161003, x161004, x161005 => (dom_attrs.f k x161002).bind fun t163 => (if t163 = 0 then (if (x161003.size : Int) > 400 then (some 2) else (if (x161001.size : Int) > 400 then (some 2) else (some 0))) else (some t163))
def dom_one.j0 : Nat → Bool → Int → ByteArray → List (S122) → ByteArray → Int → List Int → Option (Int)
 | 0, _, _, _, _, _, _, _ => none
 | k + 1, x4, x161000, x161001, x161002, x161003, x161004, x161005 => if x4 = true then (some 7) else (if x161000 = 2 then ((dom_Name.f x161001).bind fun t162 => (if t162 = true then (dom_one.j1 k x161000 x161001 x161002 x161003 x161004 x161005) else (some 3))) else (dom_one.j1 k x161000 x161001 x161002 x161003 x161004 x161005))
end
def dom_one.f (k : Nat) (a0_0 : Int) (a0_1 : ByteArray) (l0_2 : List (S122)) (a0_3 : ByteArray) (a0_4 : Int) (l0_5 : List Int) : Option (Int) := if a0_0 < 1 then (dom_one.j0 k true a0_0 a0_1 l0_2 a0_3 a0_4 l0_5) else (if a0_0 > 5 then (dom_one.j0 k true a0_0 a0_1 l0_2 a0_3 a0_4 l0_5) else ((dom_bare.f a0_0 a0_1 l0_2 a0_3 a0_4 l0_5).bind fun t161 => (dom_one.j0 k (!t161) a0_0 a0_1 l0_2 a0_3 a0_4 l0_5)))
theorem dom_one.mono_l : ∀ k, (∀ y0 y1 y2 y3 y4 y5, LeO (dom_one.j1 k y0 y1 y2 y3 y4 y5) (dom_one.j1 (k + 1) y0 y1 y2 y3 y4 y5)) ∧ (∀ y0 y1 y2 y3 y4 y5 y6, LeO (dom_one.j0 k y0 y1 y2 y3 y4 y5 y6) (dom_one.j0 (k + 1) y0 y1 y2 y3 y4 y5 y6))
 | 0 => ⟨fun _ _ _ _ _ _ r h => by simp [dom_one.j1] at h, fun _ _ _ _ _ _ _ r h => by simp [dom_one.j0] at h⟩
 | k + 1 => by
  obtain ⟨ih0, ih1⟩ := dom_one.mono_l k
  refine ⟨?_, ?_⟩
  all_goals intros
  all_goals (first | unfold dom_one.j1 | unfold dom_one.j0)
  all_goals (repeat' first | with_reducible first | apply ih0 | apply ih1 | apply dom_attrs.mono | exact LeO.refl _ | exact LeO.none _ | refine LeO.ite ?_ ?_ | refine LeO.bind ?_ (fun _ => ?_) | (first | apply ih0 | apply ih1 | apply dom_attrs.mono | exact LeO.none _ | refine LeO.ite ?_ ?_ | refine LeO.bind ?_ (fun _ => ?_)))
theorem dom_one.mono : ∀ a0 a1 a2 a3 a4 a5 k, LeO (dom_one.f k a0 a1 a2 a3 a4 a5) (dom_one.f (k + 1) a0 a1 a2 a3 a4 a5) := by
 intro a0 a1 a2 a3 a4 a5 k
 obtain ⟨ih0, ih1⟩ := dom_one.mono_l k
 unfold dom_one.f
 repeat' first | with_reducible first | apply ih0 | apply ih1 | apply dom_attrs.mono | exact LeO.refl _ | exact LeO.none _ | refine LeO.ite ?_ ?_ | refine LeO.bind ?_ (fun _ => ?_) | (first | apply ih0 | apply ih1 | apply dom_attrs.mono | exact LeO.none _ | refine LeO.ite ?_ ?_ | refine LeO.bind ?_ (fun _ => ?_))
set_option maxHeartbeats 8000000 in
set_option maxRecDepth 100000 in
theorem dom_one.calls (k : Nat) (a0_0 : Int) (a0_1 : ByteArray) (A0_2 : Option Addr) (c0_2 : Nat) (l0_2 : List (S122)) (a0_3 : ByteArray) (a0_4 : Int) (A0_5 : Option Addr) (c0_5 : Nat) (l0_5 : List Int) (r : Int) (w : World) (hr0_2 : Kd.C k122 w A0_2 l0_2.length l0_2) (hc0_2 : l0_2.length ≤ c0_2) (hr0_5 : Kd.C (Kd.int .i64) w A0_5 l0_5.length l0_5) (hc0_5 : l0_5.length ≤ c0_5) (h : dom_one.f k a0_0 a0_1 l0_2 a0_3 a0_4 l0_5 = some r) :
 Calls Tryd.prog 100 #[.agg #[.int .i64 a0_0, .string a0_1, .slice A0_2 l0_2.length c0_2, .string a0_3, .int .i64 a0_4, .slice A0_5 l0_5.length c0_5]] w fun e w' => e = .returned (.int .i64 r) ∧ Below w.heap.size w w' := by
 have hu43 := Tryd.underlying43
 have HR0_2 := aS hr0_2
 have HC0_2 := aS hc0_2
 clear hr0_2 hc0_2
 have HR0_5 := aS hr0_5
 have HC0_5 := aS hc0_5
 clear hr0_5 hc0_5
 have HB := aS (Below.refl w.heap.size w)
 have H := h; clear h; unfold dom_one.f at H
 have HC2 := aS H
 clear H
 go_enter Tryd.func100, Tryd.ntmps100
 go_upto_block 0 with (first | ((with_reducible refine q0g (N := 1) rfl ?_); (try (refine q0v (by rfl) ?_; dsimp only)); refine box0 rfl (N := 1) rfl (cs := #[.int .i64 a0_0, .string a0_1, .slice A0_2 l0_2.length c0_2, .string a0_3, .int .i64 a0_4, .slice A0_5 l0_5.length c0_5]) (t := 43) zi (z6 HB.out) ?_; clear HB; intro gb160 w3 BK160 GW160 HB; have GE160 := GW160))
 (try simp only [Act.put, s1, s2, s3])
 go_cut [] (fun wc => ∃ (kq : Nat), Aside0 (dom_one.j1 kq a0_0 a0_1 l0_2 a0_3 a0_4 l0_5 = some r) ∧ Aside0 (kq ≤ k) ∧ Aside0 (wc.heap[gb160]? = some (.cells #[.int .i64 a0_0, .string a0_1, (.slice A0_2 l0_2.length c0_2), .string a0_3, .int .i64 a0_4, (.slice A0_5 l0_5.length c0_5)] 43 (0, 0))) ∧ Aside0 (Below w.heap.size w wc))
 case first =>
  have H := HC2.out
  clear HC2
  have HC4 := aS H
  clear H
  go_upto_region 1 with (fail)
  go_cut [4] (fun v4 wc => ∃ (kq : Nat) (x4_3 : Bool), v4 = .bool x4_3 ∧ Aside0 (dom_one.j0 kq x4_3 a0_0 a0_1 l0_2 a0_3 a0_4 l0_5 = some r) ∧ Aside0 (kq ≤ k) ∧ Aside0 (wc.heap[gb160]? = some (.cells #[.int .i64 a0_0, .string a0_1, (.slice A0_2 l0_2.length c0_2), .string a0_3, .int .i64 a0_4, (.slice A0_5 l0_5.length c0_5)] 43 (0, 0))) ∧ Aside0 (Below w.heap.size w wc))
  case first =>
   have H := HC4.out
   clear HC4
   refine iT H ?p5 ?n5 <;> clear H
   case' p5 => intro c5b0 H
   case' n5 => intro c5b0 H; (first | rw [c5b0] | (simp only [q0p, q0r]; rw [c5b0]) | skip); refine iT H ?p7 ?n7 <;> clear H
   case' p7 => intro c7b0 H
   case' n7 => intro c7b0 H
   case p5 =>
    (first | rw [c5b0] | (simp only [q0p, q0r]; rw [c5b0]) | skip)
    have H' := aS H
    clear H
    obtain ⟨hczL_0, hczL_1, hczL_2, hczL_3, hczL_4, hczL_5, hfzL_0, hfzL_1, hfzL_2, hfzL_3, hfzL_4, hfzL_5⟩ := bk6 BK160.out
    go_wp2
    go_meet
    case rel => exact ⟨_, _, zj, H', ⟨by first | omega | exact Nat.le_refl _⟩, ⟨by (with_reducible repeat (first | refine kN ?_ _ | refine kD ?_ | refine kA ?_ _)); exact BK160.out⟩, ⟨by repeat (first | (with_reducible first | exact HB.out | apply bA | apply bN | apply bD | refine bS ?_ GE160.out) | exact HB.out)⟩⟩
   case p7 =>
    have H' := aS H
    clear H
    obtain ⟨hczL_0, hczL_1, hczL_2, hczL_3, hczL_4, hczL_5, hfzL_0, hfzL_1, hfzL_2, hfzL_3, hfzL_4, hfzL_5⟩ := bk6 BK160.out
    go_wp2
    go_meet
    case rel => exact ⟨_, _, zj, H', ⟨by first | omega | exact Nat.le_refl _⟩, ⟨by (with_reducible repeat (first | refine kN ?_ _ | refine kD ?_ | refine kA ?_ _)); exact BK160.out⟩, ⟨by repeat (first | (with_reducible first | exact HB.out | apply bA | apply bN | apply bD | refine bS ?_ GE160.out) | exact HB.out)⟩⟩
   case n7 =>
    replace H := iB H
    obtain ⟨t161, A9, H⟩ := H
    have H' := aS H
    clear H
    obtain ⟨hczL_0, hczL_1, hczL_2, hczL_3, hczL_4, hczL_5, hfzL_0, hfzL_1, hfzL_2, hfzL_3, hfzL_4, hfzL_5⟩ := bk6 BK160.out
    go_wp2_with (first | (go_at_call 135; (with_reducible refine (dom_bare.calls a0_0 a0_1 _ _ l0_2 a0_3 a0_4 _ _ l0_5 t161 _ ?side1 ?side2 ?side3 ?side4 A9.out).mono ?_); (case side1 => repeat (first | exact (Kd.C_below HR0_2.out HB.out) | (with_reducible refine cA ?_ _) | (with_reducible refine cN ?_ _) | (with_reducible refine cD ?_))); (case side2 => exact HC0_2.out); (case side3 => repeat (first | exact (Kd.C_below HR0_5.out HB.out) | (with_reducible refine cA ?_ _) | (with_reducible refine cN ?_ _) | (with_reducible refine cD ?_))); (case side4 => exact HC0_5.out); rintro e w11 ⟨rfl, hb⟩; replace BK160 := aS (q07 (g := gb160) (o := .cells #[.int .i64 a0_0, .string a0_1, .slice A0_2 l0_2.length c0_2, .string a0_3, .int .i64 a0_4, .slice A0_5 l0_5.length c0_5] 43 (0, 0)) (z8 BK160.out) hb); replace HB := aS (q01 (z1 HB.out GE160.out) hb); (try clear hb); (try clear hb2); (try clear hk); (try clear hi)))
    go_meet
    case rel => exact ⟨_, (!t161), zj, H', ⟨by first | omega | exact Nat.le_refl _⟩, ⟨by (with_reducible repeat (first | refine kN ?_ _ | refine kD ?_ | refine kA ?_ _)); exact BK160.out⟩, ⟨by repeat (first | (with_reducible first | exact HB.out | apply bA | apply bN | apply bD | refine bS ?_ GE160.out) | exact HB.out)⟩⟩
  case rest =>
   clear HC4
   obtain ⟨kq, x4_3, rfl, HA, HJ3, BK160, HB⟩ := hcut
   cases kq with
   | zero => exact absurd HA.out (by simp [dom_one.j0])
   | succ kj3 =>
    have H := HA.out
    clear HA
    simp only [dom_one.j0] at H
    refine iV H ?p12 ?n12 <;> clear H
    case' p12 => intro c12 H; subst c12
    case' n12 =>
     intro c12 H; subst c12
     obtain ⟨hczL_0, hczL_1, hczL_2, hczL_3, hczL_4, hczL_5, hfzL_0, hfzL_1, hfzL_2, hfzL_3, hfzL_4, hfzL_5⟩ := bk6 BK160.out
     refine iE H ?p13 ?n13 <;> clear H
    case' p13 => intro c13b0 c13b1 H; replace H := iB H; obtain ⟨t162, A14, H⟩ := H; refine iV H ?p15 ?n15 <;> clear H
    case' p15 => intro c15 H; subst c15
    case' n15 => intro c15 H; subst c15
    case' n13 => intro c13 c13b0 c13b1 H
    case p12 =>
     obtain rfl := Option.some.inj H
     go_wp2
     go_ret
     exact ⟨by first | rfl | (simp [q04, q03] <;> rfl) | (simp [*, q04, q03] <;> rfl), by repeat (first | (with_reducible first | exact HB.out | apply bA | apply bN | apply bD | refine bS ?_ GE160.out) | exact HB.out)⟩
    case p15 =>
     have H' := aS H
     clear H
     go_wp2_with (first | (go_at_call 136; (with_reducible refine (dom_Name.calls a0_1 true _ A14.out).mono ?_); rintro e w17 ⟨rfl, hb⟩; replace BK160 := aS (q07 (g := gb160) (o := .cells #[.int .i64 a0_0, .string a0_1, .slice A0_2 l0_2.length c0_2, .string a0_3, .int .i64 a0_4, .slice A0_5 l0_5.length c0_5] 43 (0, 0)) (z8 BK160.out) hb); replace HB := aS (q01 (z1 HB.out GE160.out) hb); (try clear hb); (try clear hb2); (try clear hk); (try clear hi)))
     go_meet
     case rel => exact ⟨_, H', ⟨by have := HJ3.out; first | omega | exact Nat.le_refl _⟩, ⟨by (with_reducible repeat (first | refine kN ?_ _ | refine kD ?_ | refine kA ?_ _)); exact BK160.out⟩, ⟨by repeat (first | (with_reducible first | exact HB.out | apply bA | apply bN | apply bD | refine bS ?_ GE160.out) | exact HB.out)⟩⟩
    case n15 =>
     obtain rfl := Option.some.inj H
     go_wp2_with (first | (go_at_call 136; (with_reducible refine (dom_Name.calls a0_1 false _ A14.out).mono ?_); rintro e w19 ⟨rfl, hb⟩; replace BK160 := aS (q07 (g := gb160) (o := .cells #[.int .i64 a0_0, .string a0_1, .slice A0_2 l0_2.length c0_2, .string a0_3, .int .i64 a0_4, .slice A0_5 l0_5.length c0_5] 43 (0, 0)) (z8 BK160.out) hb); replace HB := aS (q01 (z1 HB.out GE160.out) hb); (try clear hb); (try clear hb2); (try clear hk); (try clear hi)))
     go_ret
     exact ⟨by first | rfl | (simp [q04, q03] <;> rfl) | (simp [*, q04, q03] <;> rfl), by repeat (first | (with_reducible first | exact HB.out | apply bA | apply bN | apply bD | refine bS ?_ GE160.out) | exact HB.out)⟩
    case n13 =>
     have H' := aS H
     clear H
     go_wp2
     go_meet
     case rel => exact ⟨_, H', ⟨by have := HJ3.out; first | omega | exact Nat.le_refl _⟩, ⟨by (with_reducible repeat (first | refine kN ?_ _ | refine kD ?_ | refine kA ?_ _)); exact BK160.out⟩, ⟨by repeat (first | (with_reducible first | exact HB.out | apply bA | apply bN | apply bD | refine bS ?_ GE160.out) | exact HB.out)⟩⟩
 case rest =>
  clear HC2
  obtain ⟨kq, HA, HJ1, BK160, HB⟩ := hcut
  cases kq with
  | zero => exact absurd HA.out (by simp [dom_one.j1])
  | succ kj1 =>
   have H := HA.out
   clear HA
   simp only [dom_one.j1] at H
   replace H := iB H
   obtain ⟨t163, A21, H⟩ := H
   obtain ⟨hczL_0, hczL_1, hczL_2, hczL_3, hczL_4, hczL_5, hfzL_0, hfzL_1, hfzL_2, hfzL_3, hfzL_4, hfzL_5⟩ := bk6 BK160.out
   refine iE H ?p22 ?n22 <;> clear H
   case' p22 => intro c22b0 c22b1 H; refine iTN (m := 400) (n := a0_3.size) H rfl rfl ?p23 ?n23 <;> clear H
   case' p23 => intro c23b0 c23b1 H
   case' n23 => intro c23b0 c23b1 H; refine iTN (m := 400) (n := a0_1.size) H rfl rfl ?p27 ?n27 <;> clear H
   case' p27 => intro c27b0 c27b1 H
   case' n27 => intro c27b0 c27b1 H
   case' n22 => intro c22 c22b0 c22b1 H
   case p23 =>
    obtain rfl := Option.some.inj H
    go_wp2_with (first | ((with_reducible refine q06 (f := 137) rfl ?_); refine q0l (some 30) rfl rfl Tryd.func137 (by kernel_rfl) rfl #[.slice A0_2 l0_2.length c0_2] rfl zd ?_; (with_reducible refine (dom_attrs.calls kj1 _ _ l0_2 t163 _ ?side1 ?side2 A21.out).mono ?_); (case side1 => repeat (first | exact (Kd.C_below HR0_2.out HB.out) | (with_reducible refine cA ?_ _) | (with_reducible refine cN ?_ _) | (with_reducible refine cD ?_))); (case side2 => exact HC0_2.out); rintro e w25 ⟨rfl, hb⟩; refine ⟨_, rfl, ?_⟩; replace BK160 := aS (q07 (g := gb160) (o := .cells #[.int .i64 a0_0, .string a0_1, .slice A0_2 l0_2.length c0_2, .string a0_3, .int .i64 a0_4, .slice A0_5 l0_5.length c0_5] 43 (0, 0)) (z8 BK160.out) hb); replace HB := aS (q01 (z1 HB.out GE160.out) hb); (try clear hb); (try clear hb2); (try clear hk); (try clear hi); obtain ⟨hczL_0, hczL_1, hczL_2, hczL_3, hczL_4, hczL_5, hfzL_0, hfzL_1, hfzL_2, hfzL_3, hfzL_4, hfzL_5⟩ := bk6 BK160.out))
    go_ret
    exact ⟨by first | rfl | (simp [q04, q03] <;> rfl) | (simp [*, q04, q03] <;> rfl), by repeat (first | (with_reducible first | exact HB.out | apply bA | apply bN | apply bD | refine bS ?_ GE160.out) | exact HB.out)⟩
   case p27 =>
    obtain rfl := Option.some.inj H
    go_wp2_with (first | ((with_reducible refine q06 (f := 137) rfl ?_); refine q0l (some 30) rfl rfl Tryd.func137 (by kernel_rfl) rfl #[.slice A0_2 l0_2.length c0_2] rfl zd ?_; (with_reducible refine (dom_attrs.calls kj1 _ _ l0_2 t163 _ ?side1 ?side2 A21.out).mono ?_); (case side1 => repeat (first | exact (Kd.C_below HR0_2.out HB.out) | (with_reducible refine cA ?_ _) | (with_reducible refine cN ?_ _) | (with_reducible refine cD ?_))); (case side2 => exact HC0_2.out); rintro e w29 ⟨rfl, hb⟩; refine ⟨_, rfl, ?_⟩; replace BK160 := aS (q07 (g := gb160) (o := .cells #[.int .i64 a0_0, .string a0_1, .slice A0_2 l0_2.length c0_2, .string a0_3, .int .i64 a0_4, .slice A0_5 l0_5.length c0_5] 43 (0, 0)) (z8 BK160.out) hb); replace HB := aS (q01 (z1 HB.out GE160.out) hb); (try clear hb); (try clear hb2); (try clear hk); (try clear hi); obtain ⟨hczL_0, hczL_1, hczL_2, hczL_3, hczL_4, hczL_5, hfzL_0, hfzL_1, hfzL_2, hfzL_3, hfzL_4, hfzL_5⟩ := bk6 BK160.out))
    go_ret
    exact ⟨by first | rfl | (simp [q04, q03] <;> rfl) | (simp [*, q04, q03] <;> rfl), by repeat (first | (with_reducible first | exact HB.out | apply bA | apply bN | apply bD | refine bS ?_ GE160.out) | exact HB.out)⟩
   case n27 =>
    obtain rfl := Option.some.inj H
    go_wp2_with (first | ((with_reducible refine q06 (f := 137) rfl ?_); refine q0l (some 30) rfl rfl Tryd.func137 (by kernel_rfl) rfl #[.slice A0_2 l0_2.length c0_2] rfl zd ?_; (with_reducible refine (dom_attrs.calls kj1 _ _ l0_2 t163 _ ?side1 ?side2 A21.out).mono ?_); (case side1 => repeat (first | exact (Kd.C_below HR0_2.out HB.out) | (with_reducible refine cA ?_ _) | (with_reducible refine cN ?_ _) | (with_reducible refine cD ?_))); (case side2 => exact HC0_2.out); rintro e w32 ⟨rfl, hb⟩; refine ⟨_, rfl, ?_⟩; replace BK160 := aS (q07 (g := gb160) (o := .cells #[.int .i64 a0_0, .string a0_1, .slice A0_2 l0_2.length c0_2, .string a0_3, .int .i64 a0_4, .slice A0_5 l0_5.length c0_5] 43 (0, 0)) (z8 BK160.out) hb); replace HB := aS (q01 (z1 HB.out GE160.out) hb); (try clear hb); (try clear hb2); (try clear hk); (try clear hi); obtain ⟨hczL_0, hczL_1, hczL_2, hczL_3, hczL_4, hczL_5, hfzL_0, hfzL_1, hfzL_2, hfzL_3, hfzL_4, hfzL_5⟩ := bk6 BK160.out))
    go_ret
    exact ⟨by first | rfl | (simp [q04, q03] <;> rfl) | (simp [*, q04, q03] <;> rfl), by repeat (first | (with_reducible first | exact HB.out | apply bA | apply bN | apply bD | refine bS ?_ GE160.out) | exact HB.out)⟩
   case n22 =>
    obtain rfl := Option.some.inj H
    go_wp2_with (first | ((with_reducible refine q06 (f := 137) rfl ?_); refine q0l (some 30) rfl rfl Tryd.func137 (by kernel_rfl) rfl #[.slice A0_2 l0_2.length c0_2] rfl zd ?_; (with_reducible refine (dom_attrs.calls kj1 _ _ l0_2 t163 _ ?side1 ?side2 A21.out).mono ?_); (case side1 => repeat (first | exact (Kd.C_below HR0_2.out HB.out) | (with_reducible refine cA ?_ _) | (with_reducible refine cN ?_ _) | (with_reducible refine cD ?_))); (case side2 => exact HC0_2.out); rintro e w35 ⟨rfl, hb⟩; refine ⟨_, rfl, ?_⟩; replace BK160 := aS (q07 (g := gb160) (o := .cells #[.int .i64 a0_0, .string a0_1, .slice A0_2 l0_2.length c0_2, .string a0_3, .int .i64 a0_4, .slice A0_5 l0_5.length c0_5] 43 (0, 0)) (z8 BK160.out) hb); replace HB := aS (q01 (z1 HB.out GE160.out) hb); (try clear hb); (try clear hb2); (try clear hk); (try clear hi)))
    go_ret
    exact ⟨by first | rfl | (simp [q04, q03] <;> rfl) | (simp [*, q04, q03] <;> rfl), by repeat (first | (with_reducible first | exact HB.out | apply bA | apply bN | apply bD | refine bS ?_ GE160.out) | exact HB.out)⟩
end Go.Proofs.YthjnallbbhnndaaDoor.XWs
