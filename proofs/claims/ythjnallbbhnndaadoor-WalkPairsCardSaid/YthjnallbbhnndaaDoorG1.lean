/- Plain words for a search by a predicate: the first place at which it holds, or -1. No program, no condition. -/
import Derived.Test.YthjnallbbhnndaaDoorG0
import Derived.Laws.Cells
import Derived.Shelf.Abstract
import Derived.Lib.SliceRun
import Derived.Shelf.Small.Utf8
import Derived.Shelf.Small.Strs
import Derived.Shelf.Strings.Search1
import Derived.Shelf.Strings.AsciiSet
import Derived.Ground.Names2Prog
import Derived.Test.YthjnallbbhnndaaDoorProg
import Derived.Shelf.Strings.SlTrimAscii
import Derived.StillTailTactics
import Derived.Deep.RegionLaw
import Derived.Lib.Hide
namespace Go.Proofs.YthjnallbbhnndaaDoor.Cl
open Go Go.Proofs.YthjnallbbhnndaaDoorW.PrintWords
theorem getD_lt {α : Type} (l : List α) (i : Nat) (z : α) (h : i < l.length) : l.getD i z = l[i] := by simp [List.getD, h]
theorem mem_getD {α : Type} (l : List α) (i : Nat) (z : α) (h : i < l.length) : l.getD i z ∈ l := by
  rw [getD_lt l i z h]; exact List.getElem_mem h
def q20 {α : Type} (p : α → Bool) : List α → Nat → Int
  | [], _ => -1
  | x :: t, i => if p x = true then (i : Int) else q20 p t (i + 1)
def idxOf {α : Type} (p : α → Bool) (l : List α) : Int := q20 p l 0
theorem idxFrom_hit {α : Type} (p : α → Bool) (z : α) : ∀ (l : List α) (k i : Nat), k < l.length → p (l.getD k z) = true → (∀ j, j < k → p (l.getD j z) = false) → q20 p l i = ((i + k : Nat) : Int)
  | [], k, _, hk, _, _ => absurd hk (Nat.not_lt_zero _)
  | x :: t, 0, i, _, h, _ => by
    have : p x = true := by simpa using h
    simp [q20, this]
  | x :: t, k + 1, i, hk, h, hn => by
    have h0 : p x = false := by simpa using hn 0 (Nat.succ_pos _)
    rw [q20, if_neg (by simp [h0]), idxFrom_hit p z t k (i + 1) (by simpa using hk) (by simpa using h) (fun j hj => by simpa using hn (j + 1) (by omega))]
    congr 1
    omega
theorem idxFrom_miss {α : Type} (p : α → Bool) : ∀ (l : List α) (i : Nat), (∀ x ∈ l, p x = false) → q20 p l i = -1
  | [], _, _ => rfl
  | x :: t, i, h => by
    rw [q20, if_neg (by simp [h x (by simp)]), idxFrom_miss p t (i + 1) (fun y hy => h y (List.mem_cons_of_mem _ hy))]
theorem idxOf_hit {α : Type} (p : α → Bool) (z : α) (l : List α) (k : Nat) (hk : k < l.length) (h : p (l.getD k z) = true) (hn : ∀ j, j < k → p (l.getD j z) = false) : idxOf p l = (k : Int) := by
  have := idxFrom_hit p z l k 0 hk h hn
  rwa [Nat.zero_add] at this
theorem idxOf_miss {α : Type} (p : α → Bool) (z : α) (l : List α) (h : ∀ j, j < l.length → p (l.getD j z) = false) : idxOf p l = -1 := by
  refine idxFrom_miss p l 0 fun x hx => ?_
  obtain ⟨j, hj, e⟩ := List.getElem_of_mem hx
  have := h j hj
  rwa [getD_lt l j z hj, e] at this
theorem idxFrom_any {α : Type} (p : α → Bool) : ∀ (l : List α) (i : Nat), decide (0 ≤ q20 p l i) = l.any p
  | [], _ => by simp [q20]
  | x :: t, i => by
    rw [q20, List.any_cons]
    by_cases h : p x = true
    · rw [if_pos h, h]; simp
    · rw [if_neg h, idxFrom_any p t (i + 1)]
      simp only [Bool.not_eq_true] at h
      rw [h]; simp
theorem idxOf_any {α : Type} (p : α → Bool) (l : List α) : decide (0 ≤ idxOf p l) = l.any p := idxFrom_any p l 0
theorem idxFrom_lt {α : Type} (p : α → Bool) : ∀ (l : List α) (i : Nat), q20 p l i = -1 ∨ ((i : Int) ≤ q20 p l i ∧ q20 p l i < (i + l.length : Nat))
  | [], _ => .inl rfl
  | x :: t, i => by
    rw [q20]
    split
    · right; simp only [List.length_cons]; omega
    · rcases idxFrom_lt p t (i + 1) with h | h
      · exact .inl h
      · right; simp only [List.length_cons]; omega
theorem idxOf_lt {α : Type} (p : α → Bool) (l : List α) : idxOf p l = -1 ∨ (0 ≤ idxOf p l ∧ idxOf p l < l.length) := by
  have := idxFrom_lt p l 0
  simpa [idxOf] using this
theorem getC {α : Type} {d : Kd α} {w : World} {A : Option Addr} {n : Nat} {xs : List α} (h : d.C w A n xs) (z : α) (i : Nat) (h1 : i < n) :
    ∃ ad c, A = some ad ∧ c.length = d.sz ∧ d.K w (xs.getD i z) c ∧ (∀ j u, c[j]? = some u → w.cell? (ad.add (i * d.sz + j)) = some u) := by
  obtain ⟨ad, c, h2, h3, h4, h5⟩ := Kd.C_get h z (i : Int) (by omega) (by omega)
  rw [show ((i : Int)).toNat = i from rfl] at h4 h5
  exact ⟨ad, c, h2, h3, h4, h5⟩
theorem load_list (P : Program) (W : World) (a : Addr) (cs : List Value) (k : Nat) (hk : cs.length = k) (h : ∀ j v, cs[j]? = some v → W.cell? (a.add j) = some v) :
    Sem.run P (loadCellsFrom a 0 k #[]) W = .ok cs.toArray W := by
  have := run_loadCells_list (P := P) (w := W) a cs h
  rw [hk] at this
  simpa [loadCells] using this
theorem own_tail {W : World} {base e sz n cap g : Nat} {xs : List Value} (h : W.ownsRow base e sz (.slice (some ⟨g, 0, none⟩) n cap) n xs) (o : Nat) (vs : List Value) (ho : n * sz ≤ o) (hfit : o + vs.length ≤ cap * sz) :
    (W.setCells g o vs).ownsRow base e sz (.slice (some ⟨g, 0, none⟩) n cap) n xs := by
  obtain ⟨h1, h2⟩ := h
  refine ⟨h1, ?_⟩
  rcases h2 with ⟨hv, _⟩ | ⟨g', cap', cur, hv, hb, hh, hnc', hcm, hcs, ht⟩
  · cases hv
  injection hv with ha _ hc
  injection ha with ha
  injection ha with hg
  subst hg; subst hc
  obtain ⟨cur', h3, h4, h5⟩ := setCells_row vs o W cur hh (by omega)
  refine .inr ⟨g, cap, cur', rfl, hb, h3, hnc', hcm, by omega, ?_⟩
  rw [h5, List.append_assoc, List.take_append_of_le_length (by rw [List.length_take, Array.length_toList]; omega), List.take_take, Nat.min_eq_left ho]
  exact ht
theorem grown_setCells (W : World) (g o : Nat) (vs : List Value) : W.grownBy (W.setCells g o vs) (some g) := by
  obtain ⟨s1, s2, s3, s4⟩ := setCells_same g vs o W
  exact ⟨s1, s2, s3, by rw [s4]; exact Nat.le_refl _, fun k _ hk => setCells_far vs o k (fun he => hk (by rw [he]))⟩
theorem R_tail {α : Type} {d : Kd α} {W : World} {base e n cap g : Nat} {ok : Nat → Prop} {xs : List α} (h : d.R e W base ok (.slice (some ⟨g, 0, none⟩) n cap) xs) (o : Nat) (vs : List Value) (ho : n * d.sz ≤ o) (hfit : o + vs.length ≤ cap * d.sz) :
    d.R e (W.setCells g o vs) base ok (.slice (some ⟨g, 0, none⟩) n cap) xs := by
  have hn := (Kd.R_reads' h).1
  subst hn
  obtain ⟨h0, inner, hown, hr⟩ := h
  refine ⟨h0, inner, own_tail hown o vs ho hfit, hr.imp_ fun p c hp => d.M_move (fun k hk => setCells_far vs o k (fun he => hk.2 (by rw [he]; rfl))) hp⟩
theorem N_tail {α : Type} {d : Kd α} {W : World} {base e n cap g : Nat} {ok : Nat → Prop} {xs : List α} (h : Kd.N d e W base ok (.slice (some ⟨g, 0, none⟩) n cap) xs) (o : Nat) (vs : List Value) (ho : n * d.sz ≤ o) (hfit : o + vs.length ≤ cap * d.sz) :
    Kd.N d e (W.setCells g o vs) base ok (.slice (some ⟨g, 0, none⟩) n cap) xs := by
  obtain ⟨h0, rows, hl, hR, hf⟩ := h
  exact ⟨h0, rows, hl, R_tail hR o vs ho hfit, fun j x c hx hc => Kd.FK_step (hf j x c hx hc) (fun k hk _ => setCells_far vs o k (fun he => hk.2 (by rw [he]; rfl)))⟩
theorem run_clear (P : Program) (W : World) (t e ty : TypeId) (z : Value) (ht : P.underlying t = some (.slice e)) (hv : ∀ w, (zeroValue e).run P w = .ok z w) (g o n c e' : Nat) (hn : 0 < n) (cur : Array Value) (hh : W.heap[g]? = some (.cells cur e' (0, 0)))
    (hfit : o + (Builtin.zeroCells z.cells n).toList.length ≤ cur.size) (h1 : ∀ v ∈ (Builtin.zeroCells z.cells n).toList, v.oneCell' = true) :
    (Builtin.clear_ #[t] ty #[.slice (some ⟨g, o, none⟩) n c]).run P W = .ok (.tuple #[]) (W.setCells g o (Builtin.zeroCells z.cells n).toList) := by
  have hst := run_storeCells_cells (P := P) g o (Builtin.zeroCells z.cells n).toList 0 W (fun j hj => by
    rw [cell_of_row W g _ cur e' (0, 0) hh, Array.getElem?_eq_getElem (by omega)]; rfl) (fun j hj => by simp [World.frozen?, hh]) h1
  simp only [Nat.add_zero] at hst
  obtain ⟨m, rfl⟩ : ∃ m, n = m + 1 := ⟨n - 1, by omega⟩
  simp [Builtin.clear_, run_underlying ht, hv, hst]
theorem N_row {α : Type} {d : Kd α} {W : World} {base e n cap g : Nat} {ok : Nat → Prop} {xs : List α} (h : Kd.N d e W base ok (.slice (some ⟨g, 0, none⟩) n cap) xs) : ∃ cur, W.heap[g]? = some (.cells cur e (0, 0)) ∧ cur.size = cap * d.sz ∧ cap ≤ maxLen := by
  obtain ⟨_, rows, _, ⟨_, inner, ho, _⟩, _⟩ := h
  rcases ho.2 with ⟨hv, _⟩ | ⟨g', cap', cur, hv, hb, hh, hnc', hcm, hcs, ht⟩
  · cases hv
  injection hv with ha _ hc
  injection ha with ha
  injection ha with hg
  subst hg; subst hc
  exact ⟨cur, hh, hcs, hcm⟩
theorem R_row {α : Type} {d : Kd α} {W : World} {base e n cap g : Nat} {ok : Nat → Prop} {xs : List α} (h : d.R e W base ok (.slice (some ⟨g, 0, none⟩) n cap) xs) : ∃ cur, W.heap[g]? = some (.cells cur e (0, 0)) ∧ cur.size = cap * d.sz ∧ cap ≤ maxLen := N_row (Kd.R_N h)
theorem F_one {α : Type} {d : Kd α} {W : World} {b e : Nat} {cs : List Value} {x : α} {ok : Nat → Prop} (hb : W.heap[b]? = some (.cells cs.toArray e (0, 0))) (hF : Kd.FK d W ok x cs) : Kd.F d W (fun k => ok k ∨ k = b) (some ⟨b, 0, none⟩) 1 [x] := by
  intro W' hW
  have h1 := hW b (.inr rfl) (q1j hb)
  rw [hb] at h1
  have hK := hF W' (fun k hk hlt => hW k (.inl hk) hlt)
  refine ⟨rfl, by decide, fun _ => ⟨_, rfl, fun j p hj => ?_⟩⟩
  match j, hj with
  | 0, hj =>
    obtain rfl := Option.some.inj hj
    refine ⟨cs, d.K_len hK, hK, fun i u hi => ?_⟩
    rw [Nat.zero_mul, Nat.zero_add, add_plain, cell_of_row W' b _ _ e (0, 0) h1]
    simpa using hi
  | j + 1, hj => simp at hj
theorem zero_one {z : Array Value} (h : z.toList.all (fun v => v.oneCell') = true) (n : Nat) : ∀ v ∈ (Builtin.zeroCells z n).toList, v.oneCell' = true := by
  intro v hv
  unfold Builtin.zeroCells at hv
  rw [Array.toList_map, List.mem_map] at hv
  obtain ⟨i, hi, rfl⟩ := hv
  rw [Array.mem_toList_iff, Array.mem_range] at hi
  have hz : 0 < z.size := by
    rcases Nat.eq_zero_or_pos z.size with h0 | h0
    · rw [h0] at hi; omega
    · exact h0
  rw [getElem!_pos z _ (Nat.mod_lt _ hz)]
  exact List.all_eq_true.1 h _ (by simp)
theorem grown_step {w W W1 : World} {row : Option Nat} (h : w.grownBy W row) (k : W.grownBy W1 row) : w.grownBy W1 row :=
  ⟨k.os.trans h.os, k.tape.trans h.tape, k.output.trans h.output, Nat.le_trans h.size k.size, fun i hi hr => (k.block i (Nat.lt_of_lt_of_le hi h.size) hr).trans (h.block i hi hr)⟩
end Go.Proofs.YthjnallbbhnndaaDoor.Cl
namespace Go.Proofs.YthjnallbbhnndaaDoor.Short
open Go Go.RowKit Go.Proofs.YthjnallbbhnndaaDoorW.PrintWords Go.Proofs.YthjnallbbhnndaaDoorW.PrintLast Go.Proofs.YthjnallbbhnndaaDoorW.PrintMore
theorem aS {p : Prop} (h : p) : Aside0 p := ⟨h⟩
set_option linter.defProp false
abbrev bA := @q11
abbrev bN := @q1g
abbrev bD := @q0s
abbrev bS := @below_set
abbrev vA := @Kd.V_alloc
abbrev vN := @Kd.V_drewN
abbrev vD := @Kd.V_drew
abbrev nA := @Kd.N_alloc
abbrev nN := @Kd.N_drewN
abbrev nD := @Kd.N_drew
abbrev rA := @Kd.R_alloc
abbrev rN := @Kd.R_drewN
abbrev rD := @Kd.R_drew
abbrev sA := @Kd.S_alloc
abbrev sN := @Kd.S_drewN
abbrev sD := @Kd.S_drew
abbrev cA := @Kd.C_alloc
abbrev cN := @Kd.C_drewN
abbrev cD := @Kd.C_drew
abbrev kA := @blk_alloc
abbrev kN := @blk_drewN
abbrev kD := @q1e
abbrev od := @of_decide_eq_true
abbrev s1 := @List.setIfInBounds_toArray
abbrev s2 := @List.set_cons_zero
abbrev s3 := @List.set_cons_succ
end Go.Proofs.YthjnallbbhnndaaDoor.Short
namespace Go.Proofs.YthjnallbbhnndaaDoor.Short
open Go Go.RowKit Go.Proofs.YthjnallbbhnndaaDoorW.PrintWords
theorem iB {α β : Type} {x : Option α} {f : α → Option β} {r : β} (h : x.bind f = some r) : ∃ t, Aside0 (x = some t) ∧ f t = some r :=
  let ⟨t, a, b⟩ := Option.bind_eq_some_iff.mp h
  ⟨t, ⟨a⟩, b⟩
variable {β : Type} {a b : Option β} {r : β} {G : Prop}
theorem iG {P : Prop} [Decidable P] (h : (if P then a else b) = some r) (p : P → a = some r → G) (n : ¬ P → b = some r → G) : G := by
  by_cases c : P
  · rw [if_pos c] at h; exact p c h
  · rw [if_neg c] at h; exact n c h
theorem iGp {P : Prop} [Decidable P] (h : (if P then a else none) = some r) (p : P → a = some r → G) : G := iG h p fun _ h => absurd h (by simp)
theorem iGq {P : Prop} [Decidable P] (h : (if P then none else b) = some r) (n : ¬ P → b = some r → G) : G := iG h (fun _ h => absurd h (by simp)) n
theorem iV {t : Bool} (h : (if t = true then a else b) = some r) (p : t = true → a = some r → G) (n : t = false → b = some r → G) : G := iG h p fun c => n (Bool.eq_false_iff.mpr c)
theorem iVp {t : Bool} (h : (if t = true then a else none) = some r) (p : t = true → a = some r → G) : G := iV h p fun _ h => absurd h (by simp)
theorem iVq {t : Bool} (h : (if t = true then none else b) = some r) (n : t = false → b = some r → G) : G := iV h (fun _ h => absurd h (by simp)) n
theorem iE {α : Type} [BEq α] [LawfulBEq α] {x y : α} [Decidable (x = y)] (h : (if x = y then a else b) = some r) (p : (x == y) = true → (x != y) = false → a = some r → G) (n : ¬ x = y → (x == y) = false → (x != y) = true → b = some r → G) : G :=
  iG h (fun c => p (beq_iff_eq.mpr c) (bne_eq_false_iff_eq.mpr c)) fun c => n c (beq_eq_false_iff_ne.mpr c) (bne_iff_ne.mpr c)
theorem iEp {α : Type} [BEq α] [LawfulBEq α] {x y : α} [Decidable (x = y)] (h : (if x = y then a else none) = some r) (p : (x == y) = true → (x != y) = false → a = some r → G) : G := iE h p fun _ _ _ h => absurd h (by simp)
theorem iEq {α : Type} [BEq α] [LawfulBEq α] {x y : α} [Decidable (x = y)] (h : (if x = y then none else b) = some r) (n : ¬ x = y → (x == y) = false → (x != y) = true → b = some r → G) : G := iE h (fun _ _ h => absurd h (by simp)) n
theorem iT {x y : Int} (h : (if x < y then a else b) = some r) (p : decide (x < y) = true → a = some r → G) (n : decide (x < y) = false → b = some r → G) : G := iG h (fun c => p (decide_eq_true c)) fun c => n (decide_eq_false c)
theorem iTp {x y : Int} (h : (if x < y then a else none) = some r) (p : decide (x < y) = true → a = some r → G) : G := iT h p fun _ h => absurd h (by simp)
theorem iTq {x y : Int} (h : (if x < y then none else b) = some r) (n : decide (x < y) = false → b = some r → G) : G := iT h (fun _ h => absurd h (by simp)) n
theorem iTN {x y : Int} {m n : Nat} (h : (if x < y then a else b) = some r) (e : x = m) (f : y = n) (p : decide (x < y) = true → decide (m < n) = true → a = some r → G) (q : decide (x < y) = false → decide (m < n) = false → b = some r → G) : G :=
  iG h (fun c => p (decide_eq_true c) (decide_eq_true (by omega))) fun c => q (decide_eq_false c) (decide_eq_false (by omega))
theorem iTNp {x y : Int} {m n : Nat} (h : (if x < y then a else none) = some r) (e : x = m) (f : y = n) (p : decide (x < y) = true → decide (m < n) = true → a = some r → G) : G := iTN h e f p fun _ _ h => absurd h (by simp)
theorem iTNq {x y : Int} {m n : Nat} (h : (if x < y then none else b) = some r) (e : x = m) (f : y = n) (q : decide (x < y) = false → decide (m < n) = false → b = some r → G) : G := iTN h e f (fun _ _ h => absurd h (by simp)) q
theorem iL {x y : Int} (h : (if x ≤ y then a else b) = some r) (p : decide (x ≤ y) = true → a = some r → G) (n : decide (x ≤ y) = false → b = some r → G) : G := iG h (fun c => p (decide_eq_true c)) fun c => n (decide_eq_false c)
theorem iLp {x y : Int} (h : (if x ≤ y then a else none) = some r) (p : decide (x ≤ y) = true → a = some r → G) : G := iL h p fun _ h => absurd h (by simp)
theorem iLq {x y : Int} (h : (if x ≤ y then none else b) = some r) (n : decide (x ≤ y) = false → b = some r → G) : G := iL h (fun _ h => absurd h (by simp)) n
theorem iLN {x y : Int} {m n : Nat} (h : (if x ≤ y then a else b) = some r) (e : x = m) (f : y = n) (p : decide (x ≤ y) = true → decide (m ≤ n) = true → a = some r → G) (q : decide (x ≤ y) = false → decide (m ≤ n) = false → b = some r → G) : G :=
  iG h (fun c => p (decide_eq_true c) (decide_eq_true (by omega))) fun c => q (decide_eq_false c) (decide_eq_false (by omega))
theorem iLNp {x y : Int} {m n : Nat} (h : (if x ≤ y then a else none) = some r) (e : x = m) (f : y = n) (p : decide (x ≤ y) = true → decide (m ≤ n) = true → a = some r → G) : G := iLN h e f p fun _ _ h => absurd h (by simp)
theorem iLNq {x y : Int} {m n : Nat} (h : (if x ≤ y then none else b) = some r) (e : x = m) (f : y = n) (q : decide (x ≤ y) = false → decide (m ≤ n) = false → b = some r → G) : G := iLN h e f (fun _ _ h => absurd h (by simp)) q
variable {w : World} {g : Nat} {t : TypeId} {v0 v1 v2 v3 v4 v5 v6 v7 : Value}
theorem bk2 (h : w.heap[g]? = some (.cells #[v0, v1] t (0, 0))) : w.cell? ⟨g, 0, none⟩ = some v0 ∧ w.cell? ⟨g, 1, none⟩ = some v1 ∧ w.frozen? ⟨g, 0, none⟩ = false ∧ w.frozen? ⟨g, 1, none⟩ = false :=
  ⟨(q05 h 0).trans rfl, (q05 h 1).trans rfl, q0j h 0, q0j h 1⟩
theorem bk3 (h : w.heap[g]? = some (.cells #[v0, v1, v2] t (0, 0))) : w.cell? ⟨g, 0, none⟩ = some v0 ∧ w.cell? ⟨g, 1, none⟩ = some v1 ∧ w.cell? ⟨g, 2, none⟩ = some v2 ∧ w.frozen? ⟨g, 0, none⟩ = false ∧ w.frozen? ⟨g, 1, none⟩ = false ∧ w.frozen? ⟨g, 2, none⟩ = false :=
  ⟨(q05 h 0).trans rfl, (q05 h 1).trans rfl, (q05 h 2).trans rfl, q0j h 0, q0j h 1, q0j h 2⟩
theorem bk4 (h : w.heap[g]? = some (.cells #[v0, v1, v2, v3] t (0, 0))) : w.cell? ⟨g, 0, none⟩ = some v0 ∧ w.cell? ⟨g, 1, none⟩ = some v1 ∧ w.cell? ⟨g, 2, none⟩ = some v2 ∧ w.cell? ⟨g, 3, none⟩ = some v3 ∧ w.frozen? ⟨g, 0, none⟩ = false ∧ w.frozen? ⟨g, 1, none⟩ = false ∧ w.frozen? ⟨g, 2, none⟩ = false ∧ w.frozen? ⟨g, 3, none⟩ = false :=
  ⟨(q05 h 0).trans rfl, (q05 h 1).trans rfl, (q05 h 2).trans rfl, (q05 h 3).trans rfl, q0j h 0, q0j h 1, q0j h 2, q0j h 3⟩
theorem bk5 (h : w.heap[g]? = some (.cells #[v0, v1, v2, v3, v4] t (0, 0))) : w.cell? ⟨g, 0, none⟩ = some v0 ∧ w.cell? ⟨g, 1, none⟩ = some v1 ∧ w.cell? ⟨g, 2, none⟩ = some v2 ∧ w.cell? ⟨g, 3, none⟩ = some v3 ∧ w.cell? ⟨g, 4, none⟩ = some v4 ∧ w.frozen? ⟨g, 0, none⟩ = false ∧ w.frozen? ⟨g, 1, none⟩ = false ∧ w.frozen? ⟨g, 2, none⟩ = false ∧ w.frozen? ⟨g, 3, none⟩ = false ∧ w.frozen? ⟨g, 4, none⟩ = false :=
  ⟨(q05 h 0).trans rfl, (q05 h 1).trans rfl, (q05 h 2).trans rfl, (q05 h 3).trans rfl, (q05 h 4).trans rfl, q0j h 0, q0j h 1, q0j h 2, q0j h 3, q0j h 4⟩
theorem bk6 (h : w.heap[g]? = some (.cells #[v0, v1, v2, v3, v4, v5] t (0, 0))) : w.cell? ⟨g, 0, none⟩ = some v0 ∧ w.cell? ⟨g, 1, none⟩ = some v1 ∧ w.cell? ⟨g, 2, none⟩ = some v2 ∧ w.cell? ⟨g, 3, none⟩ = some v3 ∧ w.cell? ⟨g, 4, none⟩ = some v4 ∧ w.cell? ⟨g, 5, none⟩ = some v5 ∧ w.frozen? ⟨g, 0, none⟩ = false ∧ w.frozen? ⟨g, 1, none⟩ = false ∧ w.frozen? ⟨g, 2, none⟩ = false ∧ w.frozen? ⟨g, 3, none⟩ = false ∧ w.frozen? ⟨g, 4, none⟩ = false ∧ w.frozen? ⟨g, 5, none⟩ = false :=
  ⟨(q05 h 0).trans rfl, (q05 h 1).trans rfl, (q05 h 2).trans rfl, (q05 h 3).trans rfl, (q05 h 4).trans rfl, (q05 h 5).trans rfl, q0j h 0, q0j h 1, q0j h 2, q0j h 3, q0j h 4, q0j h 5⟩
theorem bk7 (h : w.heap[g]? = some (.cells #[v0, v1, v2, v3, v4, v5, v6] t (0, 0))) : w.cell? ⟨g, 0, none⟩ = some v0 ∧ w.cell? ⟨g, 1, none⟩ = some v1 ∧ w.cell? ⟨g, 2, none⟩ = some v2 ∧ w.cell? ⟨g, 3, none⟩ = some v3 ∧ w.cell? ⟨g, 4, none⟩ = some v4 ∧ w.cell? ⟨g, 5, none⟩ = some v5 ∧ w.cell? ⟨g, 6, none⟩ = some v6 ∧ w.frozen? ⟨g, 0, none⟩ = false ∧ w.frozen? ⟨g, 1, none⟩ = false ∧ w.frozen? ⟨g, 2, none⟩ = false ∧ w.frozen? ⟨g, 3, none⟩ = false ∧ w.frozen? ⟨g, 4, none⟩ = false ∧ w.frozen? ⟨g, 5, none⟩ = false ∧ w.frozen? ⟨g, 6, none⟩ = false :=
  ⟨(q05 h 0).trans rfl, (q05 h 1).trans rfl, (q05 h 2).trans rfl, (q05 h 3).trans rfl, (q05 h 4).trans rfl, (q05 h 5).trans rfl, (q05 h 6).trans rfl, q0j h 0, q0j h 1, q0j h 2, q0j h 3, q0j h 4, q0j h 5, q0j h 6⟩
theorem bk8 (h : w.heap[g]? = some (.cells #[v0, v1, v2, v3, v4, v5, v6, v7] t (0, 0))) : w.cell? ⟨g, 0, none⟩ = some v0 ∧ w.cell? ⟨g, 1, none⟩ = some v1 ∧ w.cell? ⟨g, 2, none⟩ = some v2 ∧ w.cell? ⟨g, 3, none⟩ = some v3 ∧ w.cell? ⟨g, 4, none⟩ = some v4 ∧ w.cell? ⟨g, 5, none⟩ = some v5 ∧ w.cell? ⟨g, 6, none⟩ = some v6 ∧ w.cell? ⟨g, 7, none⟩ = some v7 ∧ w.frozen? ⟨g, 0, none⟩ = false ∧ w.frozen? ⟨g, 1, none⟩ = false ∧ w.frozen? ⟨g, 2, none⟩ = false ∧ w.frozen? ⟨g, 3, none⟩ = false ∧ w.frozen? ⟨g, 4, none⟩ = false ∧ w.frozen? ⟨g, 5, none⟩ = false ∧ w.frozen? ⟨g, 6, none⟩ = false ∧ w.frozen? ⟨g, 7, none⟩ = false :=
  ⟨(q05 h 0).trans rfl, (q05 h 1).trans rfl, (q05 h 2).trans rfl, (q05 h 3).trans rfl, (q05 h 4).trans rfl, (q05 h 5).trans rfl, (q05 h 6).trans rfl, (q05 h 7).trans rfl, q0j h 0, q0j h 1, q0j h 2, q0j h 3, q0j h 4, q0j h 5, q0j h 6, q0j h 7⟩
section
variable {A : Option Addr} {n : Nat} {w1 : World}
theorem atIA {k : IntKind} {xs : List Int} (h : (Kd.int k).C w A n xs) (i : Int) (h0 : decide (0 ≤ i) = true) (h1 : decide (i < n) = true) : ∃ ad, A = some ad ∧ w.cell? (ad.add i.toNat) = some (.int k (rd xs i)) ∧ (0 ≤ i) = True ∧ (i < n) = True :=
  let ⟨ad, e, c⟩ := Kd.at_int h i (of_decide_eq_true h0) (of_decide_eq_true h1)
  ⟨ad, e, c, eq_true (of_decide_eq_true h0), eq_true (of_decide_eq_true h1)⟩
theorem atIB {k : IntKind} {xs : List Int} (hb : Below w.heap.size w w1) (h : (Kd.int k).C w A n xs) (i : Int) (h0 : decide (0 ≤ i) = true) (h1 : decide (i < n) = true) : ∃ ad, A = some ad ∧ w1.cell? (ad.add i.toNat) = some (.int k (rd xs i)) ∧ (0 ≤ i) = True ∧ (i < n) = True :=
  let ⟨ad, e, c, a, b⟩ := atIA h i h0 h1
  ⟨ad, e, q09 hb c, a, b⟩
theorem atOA {xs : List Bool} (h : Kd.bool.C w A n xs) (i : Int) (h0 : decide (0 ≤ i) = true) (h1 : decide (i < n) = true) : ∃ ad, A = some ad ∧ w.cell? (ad.add i.toNat) = some (.bool (rdOf false xs i)) ∧ (0 ≤ i) = True ∧ (i < n) = True :=
  let ⟨ad, e, c⟩ := Kd.at_bool h i (of_decide_eq_true h0) (of_decide_eq_true h1)
  ⟨ad, e, c, eq_true (of_decide_eq_true h0), eq_true (of_decide_eq_true h1)⟩
theorem atOB {xs : List Bool} (hb : Below w.heap.size w w1) (h : Kd.bool.C w A n xs) (i : Int) (h0 : decide (0 ≤ i) = true) (h1 : decide (i < n) = true) : ∃ ad, A = some ad ∧ w1.cell? (ad.add i.toNat) = some (.bool (rdOf false xs i)) ∧ (0 ≤ i) = True ∧ (i < n) = True :=
  let ⟨ad, e, c, a, b⟩ := atOA h i h0 h1
  ⟨ad, e, q09 hb c, a, b⟩
theorem box0 {P : Program} {ops : Array Oper} {Q : Exit → Act → World → Prop} {rest : List Oper} {o : Oper} {a : Act} {w0 W : World} (hgd : o.guard = none) {N : Tmp} (_hd : o.dst = some N) {cs : Array Value} {t : TypeId}
    (hrun : (execOp a.eval o).run P W = .ok (.value (.pointer (some ⟨W.heap.size, 0, none⟩))) (W.alloc (.cells cs t (0, 0)))) (hB : Below w0.heap.size w0 W)
    (h : ∀ g w1, Aside0 (w1.heap[g]? = some (.cells cs t (0, 0))) → Aside0 (w0.heap.size ≤ g) → Aside0 (Below w0.heap.size w0 w1) → wpList P ops Q rest (a.put o.dst (.pointer (some ⟨g, 0, none⟩))) w1) : wpList P ops Q (o :: rest) a W :=
  q0q hgd _hd hrun fun g hg w1 hb hs => h g w1 ⟨hb⟩ ⟨by rw [hg]; exact q0g hB⟩ ⟨q03 hB hs⟩
end
end Go.Proofs.YthjnallbbhnndaaDoor.Short
namespace Go.Proofs
open Go.Shelf
def Tryd.lays137_ren : Go.Shelf.Ren := ⟨fun | 137 => 154 | 217 => 176 | 266 => 187 | n => n, fun | 9 => 9 | 5 => 5 | 3 => 3 | n => n, fun | n => n⟩
theorem Tryd.lays137 : Go.Proofs.Lays.n137 Tryd.prog Tryd.lays137_ren := {
  mixed := by kernel_rfl
  f137 := Tryd.func154.trans (congrArg some (by kernel_rfl))
  f217 := Tryd.func176.trans (congrArg some (by kernel_rfl))
  f266 := Tryd.func187.trans (congrArg some (by kernel_rfl))
  t3 := Tryd.underlying3
  a3 := Tryd.isAgg3
  z3 := Tryd.sizeOf3
  v3 := Tryd.zeroValue3
  t5 := Tryd.underlying5
  a5 := Tryd.isAgg5
  z5 := Tryd.sizeOf5
  v5 := Tryd.zeroValue5
  t9 := Tryd.underlying9
  a9 := Tryd.isAgg9
  z9 := Tryd.sizeOf9
  v9 := Tryd.zeroValue9 }
open Go.RowKit in
theorem Tryd.strings_IndexByte (s : ByteArray) (c : Int) (w : World) :
    Calls Tryd.prog 154 #[.string s, .int .u8 c] w fun e w' => e = .returned (.int .i64 (Lib.indexByte s.data.toList c.toNat.toUInt8)) ∧ w' = w := Any.strings_IndexByte Tryd.lays137 s c w
def Tryd.lays160_ren : Go.Shelf.Ren := ⟨fun | 160 => 177 | 232 => 189 | 231 => 188 | 227 => 190 | 234 => 192 | 233 => 191 | 236 => 194 | 235 => 193 | 228 => 196 | 271 => 198 | 151 => 95 | 197 => 197 | 120 => 200 | 152 => 133 | 260 => 199 | 137 => 154 | 119 => 155 | 224 => 156 | 225 => 157 | 217 => 176 | 266 => 187 | n => n, fun | 9 => 9 | 4 => 4 | 3 => 3 | 5 => 5 | 117 => 220 | 116 => 219 | 0 => 0 | 124 => 223 | 21 => 21 | 105 => 225 | 46 => 203 | 119 => 227 | 139 => 230 | 138 => 229 | n => n, fun | 3 => 1 | 4 => 2 | n => n⟩
theorem Tryd.lays160 : Go.Proofs.Lays.n160 Tryd.prog Tryd.lays160_ren := {
  mixed := by kernel_rfl
  f119 := Tryd.func155.trans (congrArg some (by kernel_rfl))
  f120 := Tryd.func200.trans (congrArg some (by kernel_rfl))
  f137 := Tryd.func154.trans (congrArg some (by kernel_rfl))
  f151 := Tryd.func95.trans (congrArg some (by kernel_rfl))
  f152 := Tryd.func133.trans (congrArg some (by kernel_rfl))
  f160 := Tryd.func177.trans (congrArg some (by kernel_rfl))
  f197 := Tryd.func197.trans (congrArg some (by kernel_rfl))
  f217 := Tryd.func176.trans (congrArg some (by kernel_rfl))
  f224 := Tryd.func156.trans (congrArg some (by kernel_rfl))
  f225 := Tryd.func157.trans (congrArg some (by kernel_rfl))
  f227 := Tryd.func190.trans (congrArg some (by kernel_rfl))
  f228 := Tryd.func196.trans (congrArg some (by kernel_rfl))
  f231 := Tryd.func188.trans (congrArg some (by kernel_rfl))
  f232 := Tryd.func189.trans (congrArg some (by kernel_rfl))
  f233 := Tryd.func191.trans (congrArg some (by kernel_rfl))
  f234 := Tryd.func192.trans (congrArg some (by kernel_rfl))
  f235 := Tryd.func193.trans (congrArg some (by kernel_rfl))
  f236 := Tryd.func194.trans (congrArg some (by kernel_rfl))
  f260 := Tryd.func199.trans (congrArg some (by kernel_rfl))
  f266 := Tryd.func187.trans (congrArg some (by kernel_rfl))
  f271 := Tryd.func198.trans (congrArg some (by kernel_rfl))
  t0 := Tryd.underlying0
  a0 := Tryd.isAgg0
  z0 := Tryd.sizeOf0
  v0 := Tryd.zeroValue0
  t3 := Tryd.underlying3
  a3 := Tryd.isAgg3
  z3 := Tryd.sizeOf3
  v3 := Tryd.zeroValue3
  t4 := Tryd.underlying4
  a4 := Tryd.isAgg4
  z4 := Tryd.sizeOf4
  v4 := Tryd.zeroValue4
  t5 := Tryd.underlying5
  a5 := Tryd.isAgg5
  z5 := Tryd.sizeOf5
  v5 := Tryd.zeroValue5
  t9 := Tryd.underlying9
  a9 := Tryd.isAgg9
  z9 := Tryd.sizeOf9
  v9 := Tryd.zeroValue9
  t21 := Tryd.underlying21
  a21 := Tryd.isAgg21
  z21 := Tryd.sizeOf21
  v21 := Tryd.zeroValue21
  t46 := Tryd.underlying203
  a46 := Tryd.isAgg203
  z46 := Tryd.sizeOf203
  v46 := Tryd.zeroValue203
  t105 := Tryd.underlying225
  a105 := Tryd.isAgg225
  z105 := Tryd.sizeOf225
  v105 := Tryd.zeroValue225
  t116 := Tryd.underlying219
  a116 := Tryd.isAgg219
  z116 := Tryd.sizeOf219
  t117 := Tryd.underlying220
  a117 := Tryd.isAgg220
  z117 := Tryd.sizeOf220
  v117 := Tryd.zeroValue220
  t119 := Tryd.underlying227
  a119 := Tryd.isAgg227
  z119 := Tryd.sizeOf227
  t124 := Tryd.underlying223
  a124 := Tryd.isAgg223
  z124 := Tryd.sizeOf223
  v124 := Tryd.zeroValue223
  t138 := Tryd.underlying229
  a138 := Tryd.isAgg229
  z138 := Tryd.sizeOf229
  v138 := Tryd.zeroValue229
  t139 := Tryd.underlying230
  a139 := Tryd.isAgg230
  z139 := Tryd.sizeOf230
  v139 := Tryd.zeroValue230
  g3 := by kernel_rfl
  g4 := by kernel_rfl }
open Go.RowKit Go.Lib in
theorem Tryd.strings_Trim (s cutset : ByteArray) (w : World) (hs : s.size ≤ 9223372036854775807) (hcs : cutset.size < 4294967281) (hascii : ∀ (j : Nat) b, cutset.data.toList[j]? = some b → b.toNat < 128) :
    Calls Tryd.prog 177 #[.string s, .string cutset] w fun e w' => e = .returned (.string ⟨(Lib.trimS s.data.toList cutset.data.toList).toArray⟩) ∧ Below w.heap.size w w' := Any.strings_Trim_laid Tryd.lays160 (by kernel_rfl) s cutset w hs hcs hascii
end Go.Proofs
namespace Go.Proofs.YthjnallbbhnndaaDoor.XWp
open Go.Proofs.YthjnallbbhnndaaDoor.Short Go.RowKit Go.Proofs.YthjnallbbhnndaaDoorW.PrintWords Go.Proofs.YthjnallbbhnndaaDoorW.PrintLast Go.Proofs.YthjnallbbhnndaaDoorW.PrintMore
attribute [local go_sem] q15 q13 q1i q1h q0x q0w q14 q12   -- for this text's walks alone
set_option linter.unusedVariables false
set_option linter.unusedSimpArgs false
def errW : Option Int → Value
 | none => .nilIface
 | some c => .iface 0 (.int .i64 c)
theorem q02 : errW none = .nilIface := rfl
theorem q01 (c : Int) : errW (some c) = .iface 0 (.int .i64 c) := rfl
theorem info3 : (Tryd.prog.info? 3).map (fun i => (i.zero, i.size, i.bytes)) = some (some (.int .i64 0), 1, 8) := by kernel_rfl
theorem info4 : (Tryd.prog.info? 4).map (fun i => (i.zero, i.size, i.bytes)) = some (some (.bool false), 1, 1) := by kernel_rfl
theorem info43 : (Tryd.prog.info? 43).map (fun i => (i.zero, i.size, i.bytes)) = some (some (.agg #[(.int .i64 0), (.string ⟨#[]⟩), (.slice none 0 0), (.string ⟨#[]⟩), (.int .i64 0), (.slice none 0 0)]), 6, 96) := by kernel_rfl
theorem info122 : (Tryd.prog.info? 122).map (fun i => (i.zero, i.size, i.bytes)) = some (some (.agg #[(.string ⟨#[]⟩), (.string ⟨#[]⟩)]), 2, 32) := by kernel_rfl
structure S122 where
 f0 : ByteArray
 f1 : ByteArray
def z122 : S122 := ⟨(⟨#[]⟩ : ByteArray), (⟨#[]⟩ : ByteArray)⟩
def k122 : Kd S122 := Kd.iso (Kd.pair Kd.string Kd.string) (fun x : S122 => (x.f0, x.f1))
theorem k122_heap : Kd.Heap k122 := Kd.heap_iso _ (Kd.heap_pair Kd.heap_string Kd.heap_string)
theorem k122_open {w : World} {x : S122} {cs : List Value} (h : k122.K w x cs) : cs = [.string x.f0, .string x.f1] := by
 obtain ⟨_, _, rfl, rfl, rfl⟩ := h
 exact rfl
theorem k122_openM {w : World} {base : Nat} {ok : Nat → Prop} {x : S122} {cs : List Value} (h : k122.M w base ok x cs) : cs = [.string x.f0, .string x.f1] := by
 obtain ⟨_, _, rfl, rfl, rfl⟩ := h
 exact rfl
theorem k122_mk (w : World) (x : S122)  : k122.K w x [.string x.f0, .string x.f1] := ⟨[.string x.f0], [.string x.f1], rfl, rfl, rfl⟩
theorem k122_mkM (w : World) (base : Nat) (ok : Nat → Prop) (x : S122)  : k122.M w base ok x [.string x.f0, .string x.f1] := ⟨[.string x.f0], [.string x.f1], rfl, rfl, rfl⟩
theorem k122_mkF (W : World) (ok : Nat → Prop) (x : S122) : Kd.FK k122 W ok x [.string x.f0, .string x.f1] := fun W2 _ => k122_mk W2 x
def q0f (xs : List S122) (i : Int) : S122 := xs.getD i.toNat z122
theorem at_T122 {w : World} {A : Option Addr} {n : Nat} {xs : List S122} (h : Kd.C k122 w A n xs) (i : Int) (h0 : 0 ≤ i) (h1 : i < n) : ∃ ad , A = some ad ∧ w.cell? (ad.add (i.toNat * 2)) = some (.string (q0f xs i).f0) ∧ w.cell? ⟨(ad.add (i.toNat * 2)).block, (ad.add (i.toNat * 2)).off + 1, none⟩ = some (.string (q0f xs i).f1) := by
 obtain ⟨ad, c, e, _, hK, hc0⟩ := Kd.C_get h z122 i h0 h1
 have hc : ∀ j u, c[j]? = some u → w.cell? (ad.add (i.toNat * 2 + j)) = some u := hc0
 obtain rfl := k122_open hK
 exact ⟨ad, e, hc 0 _ rfl, by rw [← q1f _ _ 1 (by omega)]; exact hc 1 _ rfl⟩
theorem q0y {w w1 : World} {A : Option Addr} {n : Nat} {xs : List S122} (hb : Below w.heap.size w w1) (h : Kd.C k122 w A n xs) (i : Int) (h0 : decide (0 ≤ i) = true) (h1 : decide (i < n) = true) : ∃ ad, A = some ad ∧ w1.cell? (ad.add (i.toNat * 2)) = some (.string (q0f xs i).f0) ∧ w1.cell? ⟨(ad.add (i.toNat * 2)).block, (ad.add (i.toNat * 2)).off + 1, none⟩ = some (.string (q0f xs i).f1) ∧ (0 ≤ i) = True ∧ (i < n) = True :=
 let ⟨ad, e, x0, x1⟩ := at_T122 h i (of_decide_eq_true h0) (of_decide_eq_true h1)
 ⟨ad, e, q09 hb x0, q09 hb x1, eq_true (of_decide_eq_true h0), eq_true (of_decide_eq_true h1)⟩
theorem at_T122A {w : World} {A : Option Addr} {n : Nat} {xs : List S122} (h : Kd.C k122 w A n xs) (i : Int) (h0 : decide (0 ≤ i) = true) (h1 : decide (i < n) = true) : ∃ ad, A = some ad ∧ w.cell? (ad.add (i.toNat * 2)) = some (.string (q0f xs i).f0) ∧ w.cell? ⟨(ad.add (i.toNat * 2)).block, (ad.add (i.toNat * 2)).off + 1, none⟩ = some (.string (q0f xs i).f1) ∧ (0 ≤ i) = True ∧ (i < n) = True :=
 let ⟨ad, e, x0, x1⟩ := at_T122 h i (of_decide_eq_true h0) (of_decide_eq_true h1)
 ⟨ad, e, x0, x1, eq_true (of_decide_eq_true h0), eq_true (of_decide_eq_true h1)⟩
def rd_L3 (xs : List (List S122)) (i : Int) : (List S122) := xs.getD i.toNat ([] : List S122)
theorem at_L3 {w : World} {A : Option Addr} {n : Nat} {xs : List (List S122)} (h : Kd.C (Kd.slice 122 k122) w A n xs) (i : Int) (h0 : 0 ≤ i) (h1 : i < n) : ∃ ad A0 c0, A = some ad ∧ w.cell? (ad.add i.toNat) = some (.slice A0 (rd_L3 xs i).length c0) ∧ (rd_L3 xs i).length ≤ c0 ∧ k122.C w A0 (rd_L3 xs i).length (rd_L3 xs i) := by
 obtain ⟨ad, c, e, _, hK, hc0⟩ := Kd.C_get h ([] : List S122) i h0 h1
 have hc : ∀ j u, c[j]? = some u → w.cell? (ad.add (i.toNat * 1 + j)) = some u := hc0
 obtain ⟨A0, c0, rfl, l0, g0⟩ := hK
 exact ⟨ad, A0, c0, e, by have hq := hc 0 _ rfl; rwa [Nat.mul_one, Nat.add_zero] at hq, l0, g0⟩
def rd_L4 (xs : List (List Int)) (i : Int) : (List Int) := xs.getD i.toNat ([] : List Int)
theorem at_L4 {w : World} {A : Option Addr} {n : Nat} {xs : List (List Int)} (h : Kd.C (Kd.slice 3 (Kd.int .i64)) w A n xs) (i : Int) (h0 : 0 ≤ i) (h1 : i < n) : ∃ ad A0 c0, A = some ad ∧ w.cell? (ad.add i.toNat) = some (.slice A0 (rd_L4 xs i).length c0) ∧ (rd_L4 xs i).length ≤ c0 ∧ (Kd.int .i64).C w A0 (rd_L4 xs i).length (rd_L4 xs i) := by
 obtain ⟨ad, c, e, _, hK, hc0⟩ := Kd.C_get h ([] : List Int) i h0 h1
 have hc : ∀ j u, c[j]? = some u → w.cell? (ad.add (i.toNat * 1 + j)) = some u := hc0
 obtain ⟨A0, c0, rfl, l0, g0⟩ := hK
 exact ⟨ad, A0, c0, e, by have hq := hc 0 _ rfl; rwa [Nat.mul_one, Nat.add_zero] at hq, l0, g0⟩
structure S43 where
 f0 : Int
 f1 : ByteArray
 f2 : (List S122)
 f3 : ByteArray
 f4 : Int
 f5 : (List Int)
def z43 : S43 := ⟨(0 : Int), (⟨#[]⟩ : ByteArray), ([] : List S122), (⟨#[]⟩ : ByteArray), (0 : Int), ([] : List Int)⟩
def k43 : Kd S43 := Kd.iso (Kd.pair (Kd.int .i64) (Kd.pair Kd.string (Kd.pair (Kd.slice 122 k122) (Kd.pair Kd.string (Kd.pair (Kd.int .i64) (Kd.slice 3 (Kd.int .i64))))))) (fun x : S43 => (x.f0, x.f1, x.f2, x.f3, x.f4, x.f5))
theorem k43_heap : Kd.Heap k43 := Kd.heap_iso _ (Kd.heap_pair (Kd.heap_int .i64) (Kd.heap_pair Kd.heap_string (Kd.heap_pair (Kd.heap_slice 122 k122_heap) (Kd.heap_pair Kd.heap_string (Kd.heap_pair (Kd.heap_int .i64) (Kd.heap_slice 3 (Kd.heap_int .i64)))))))
theorem k43_open {w : World} {x : S43} {cs : List Value} (h : k43.K w x cs) : ∃ A2 c2 A5 c5, cs = [.int .i64 x.f0, .string x.f1, .slice A2 x.f2.length c2, .string x.f3, .int .i64 x.f4, .slice A5 x.f5.length c5] ∧ x.f2.length ≤ c2 ∧ k122.C w A2 x.f2.length x.f2 ∧ x.f5.length ≤ c5 ∧ (Kd.int .i64).C w A5 x.f5.length x.f5 := by
 obtain ⟨_, _, rfl, rfl, ⟨_, _, rfl, rfl, ⟨_, _, rfl, ⟨A2, c2, rfl, l2, g2⟩, ⟨_, _, rfl, rfl, ⟨_, _, rfl, rfl, ⟨A5, c5, rfl, l5, g5⟩⟩⟩⟩⟩⟩ := h
 exact ⟨A2, c2, A5, c5, rfl, l2, g2, l5, g5⟩
theorem k43_openM {w : World} {base : Nat} {ok : Nat → Prop} {x : S43} {cs : List Value} (h : k43.M w base ok x cs) : ∃ v2 v5, cs = [.int .i64 x.f0, .string x.f1, v2, .string x.f3, .int .i64 x.f4, v5] ∧ k122.R 122 w base ok v2 x.f2 ∧ (Kd.int .i64).R 3 w base ok v5 x.f5 := by
 obtain ⟨_, _, rfl, rfl, ⟨_, _, rfl, rfl, ⟨_, _, rfl, ⟨v2, rfl, g2⟩, ⟨_, _, rfl, rfl, ⟨_, _, rfl, rfl, ⟨v5, rfl, g5⟩⟩⟩⟩⟩⟩ := h
 exact ⟨v2, v5, rfl, g2, g5⟩
theorem k43_mk (w : World) (x : S43) {A2 : Option Addr} {c2 : Nat} (l2 : x.f2.length ≤ c2) (g2 : k122.C w A2 x.f2.length x.f2) {A5 : Option Addr} {c5 : Nat} (l5 : x.f5.length ≤ c5) (g5 : (Kd.int .i64).C w A5 x.f5.length x.f5) : k43.K w x [.int .i64 x.f0, .string x.f1, .slice A2 x.f2.length c2, .string x.f3, .int .i64 x.f4, .slice A5 x.f5.length c5] := ⟨[.int .i64 x.f0], [.string x.f1, .slice A2 x.f2.length c2, .string x.f3, .int .i64 x.f4, .slice A5 x.f5.length c5], rfl, rfl, ⟨[.string x.f1], [.slice A2 x.f2.length c2, .string x.f3, .int .i64 x.f4, .slice A5 x.f5.length c5], rfl, rfl, ⟨[.slice A2 x.f2.length c2], [.string x.f3, .int .i64 x.f4, .slice A5 x.f5.length c5], rfl, ⟨A2, c2, rfl, l2, g2⟩, ⟨[.string x.f3], [.int .i64 x.f4, .slice A5 x.f5.length c5], rfl, rfl, ⟨[.int .i64 x.f4], [.slice A5 x.f5.length c5], rfl, rfl, ⟨A5, c5, rfl, l5, g5⟩⟩⟩⟩⟩⟩
theorem k43_mkM (w : World) (base : Nat) (ok : Nat → Prop) (x : S43) {v2 : Value} (g2 : k122.R 122 w base ok v2 x.f2) {v5 : Value} (g5 : (Kd.int .i64).R 3 w base ok v5 x.f5) : k43.M w base ok x [.int .i64 x.f0, .string x.f1, v2, .string x.f3, .int .i64 x.f4, v5] := ⟨[.int .i64 x.f0], [.string x.f1, v2, .string x.f3, .int .i64 x.f4, v5], rfl, rfl, ⟨[.string x.f1], [v2, .string x.f3, .int .i64 x.f4, v5], rfl, rfl, ⟨[v2], [.string x.f3, .int .i64 x.f4, v5], rfl, ⟨v2, rfl, g2⟩, ⟨[.string x.f3], [.int .i64 x.f4, v5], rfl, rfl, ⟨[.int .i64 x.f4], [v5], rfl, rfl, ⟨v5, rfl, g5⟩⟩⟩⟩⟩⟩
theorem k43_openF {W : World} {ok : Nat → Prop} {x : S43} {cs : List Value} (h : Kd.FK k43 W ok x cs) : ∃ A2 c2 A5 c5, cs = [.int .i64 x.f0, .string x.f1, .slice A2 x.f2.length c2, .string x.f3, .int .i64 x.f4, .slice A5 x.f5.length c5] ∧ x.f2.length ≤ c2 ∧ Kd.F k122 W ok A2 x.f2.length x.f2 ∧ x.f5.length ≤ c5 ∧ Kd.F (Kd.int .i64) W ok A5 x.f5.length x.f5 := by
 obtain ⟨A2, c2, A5, c5, rfl, l2, _, l5, _⟩ := k43_open (Kd.FK_now h)
 exact ⟨A2, c2, A5, c5, rfl, l2, (fun W' hW => by obtain ⟨A2_, c2_, A5_, c5_, he, l2_, g2_, l5_, g5_⟩ := k43_open (h W' hW); injection (Option.some.inj (show some (Value.slice A2 x.f2.length c2) = some (Value.slice A2_ x.f2.length c2_) from congrArg (fun l => l[2]?) he)) with ha_ _ _; rw [ha_]; exact g2_), l5, (fun W' hW => by obtain ⟨A2_, c2_, A5_, c5_, he, l2_, g2_, l5_, g5_⟩ := k43_open (h W' hW); injection (Option.some.inj (show some (Value.slice A5 x.f5.length c5) = some (Value.slice A5_ x.f5.length c5_) from congrArg (fun l => l[5]?) he)) with ha_ _ _; rw [ha_]; exact g5_)⟩
theorem k43_mkF (W : World) (ok : Nat → Prop) (x : S43) {A2 : Option Addr} {c2 : Nat} (l2 : x.f2.length ≤ c2) (g2 : Kd.F k122 W ok A2 x.f2.length x.f2) {A5 : Option Addr} {c5 : Nat} (l5 : x.f5.length ≤ c5) (g5 : Kd.F (Kd.int .i64) W ok A5 x.f5.length x.f5) : Kd.FK k43 W ok x [.int .i64 x.f0, .string x.f1, .slice A2 x.f2.length c2, .string x.f3, .int .i64 x.f4, .slice A5 x.f5.length c5] := fun W2 hW => k43_mk W2 x l2 (g2 W2 hW) l5 (g5 W2 hW)
theorem k43_mkFV (W : World) (ok : Nat → Prop) (x : S43) {v2 : Value} {b2 e2 : Nat} (g2 : Kd.V k122 e2 W b2 ok v2 x.f2) {v5 : Value} {b5 e5 : Nat} (g5 : Kd.V (Kd.int .i64) e5 W b5 ok v5 x.f5) : Kd.FK k43 W ok x [.int .i64 x.f0, .string x.f1, v2, .string x.f3, .int .i64 x.f4, v5] := by
 obtain ⟨A2, c2, rfl, l2, h2⟩ := g2
 obtain ⟨A5, c5, rfl, l5, h5⟩ := g5
 exact k43_mkF W ok x l2 h2 l5 h5
def q00 (xs : List S43) (i : Int) : S43 := xs.getD i.toNat z43
theorem at_T43 {w : World} {A : Option Addr} {n : Nat} {xs : List S43} (h : Kd.C k43 w A n xs) (i : Int) (h0 : 0 ≤ i) (h1 : i < n) : ∃ ad A2 c2 A5 c5, A = some ad ∧ w.cell? (ad.add (i.toNat * 6)) = some (.int .i64 (q00 xs i).f0) ∧ w.cell? ⟨(ad.add (i.toNat * 6)).block, (ad.add (i.toNat * 6)).off + 1, none⟩ = some (.string (q00 xs i).f1) ∧ w.cell? ⟨(ad.add (i.toNat * 6)).block, (ad.add (i.toNat * 6)).off + 2, none⟩ = some (.slice A2 (q00 xs i).f2.length c2) ∧ w.cell? ⟨(ad.add (i.toNat * 6)).block, (ad.add (i.toNat * 6)).off + 3, none⟩ = some (.string (q00 xs i).f3) ∧ w.cell? ⟨(ad.add (i.toNat * 6)).block, (ad.add (i.toNat * 6)).off + 4, none⟩ = some (.int .i64 (q00 xs i).f4) ∧ w.cell? ⟨(ad.add (i.toNat * 6)).block, (ad.add (i.toNat * 6)).off + 5, none⟩ = some (.slice A5 (q00 xs i).f5.length c5) ∧ (q00 xs i).f2.length ≤ c2 ∧ k122.C w A2 (q00 xs i).f2.length (q00 xs i).f2 ∧ (q00 xs i).f5.length ≤ c5 ∧ (Kd.int .i64).C w A5 (q00 xs i).f5.length (q00 xs i).f5 := by
 obtain ⟨ad, c, e, _, hK, hc0⟩ := Kd.C_get h z43 i h0 h1
 have hc : ∀ j u, c[j]? = some u → w.cell? (ad.add (i.toNat * 6 + j)) = some u := hc0
 obtain ⟨A2, c2, A5, c5, rfl, l2, g2, l5, g5⟩ := k43_open hK
 exact ⟨ad, A2, c2, A5, c5, e, hc 0 _ rfl, by rw [← q1f _ _ 1 (by omega)]; exact hc 1 _ rfl, by rw [← q1f _ _ 2 (by omega)]; exact hc 2 _ rfl, by rw [← q1f _ _ 3 (by omega)]; exact hc 3 _ rfl, by rw [← q1f _ _ 4 (by omega)]; exact hc 4 _ rfl, by rw [← q1f _ _ 5 (by omega)]; exact hc 5 _ rfl, l2, g2, l5, g5⟩
theorem q0p {w w1 : World} {A : Option Addr} {n : Nat} {xs : List S43} (hb : Below w.heap.size w w1) (h : Kd.C k43 w A n xs) (i : Int) (h0 : decide (0 ≤ i) = true) (h1 : decide (i < n) = true) : ∃ ad A2 c2 A5 c5, A = some ad ∧ w1.cell? (ad.add (i.toNat * 6)) = some (.int .i64 (q00 xs i).f0) ∧ w1.cell? ⟨(ad.add (i.toNat * 6)).block, (ad.add (i.toNat * 6)).off + 1, none⟩ = some (.string (q00 xs i).f1) ∧ w1.cell? ⟨(ad.add (i.toNat * 6)).block, (ad.add (i.toNat * 6)).off + 2, none⟩ = some (.slice A2 (q00 xs i).f2.length c2) ∧ w1.cell? ⟨(ad.add (i.toNat * 6)).block, (ad.add (i.toNat * 6)).off + 3, none⟩ = some (.string (q00 xs i).f3) ∧ w1.cell? ⟨(ad.add (i.toNat * 6)).block, (ad.add (i.toNat * 6)).off + 4, none⟩ = some (.int .i64 (q00 xs i).f4) ∧ w1.cell? ⟨(ad.add (i.toNat * 6)).block, (ad.add (i.toNat * 6)).off + 5, none⟩ = some (.slice A5 (q00 xs i).f5.length c5) ∧ Aside0 ((q00 xs i).f2.length ≤ c2) ∧ Aside0 (k122.C w A2 (q00 xs i).f2.length (q00 xs i).f2) ∧ Aside0 ((q00 xs i).f5.length ≤ c5) ∧ Aside0 ((Kd.int .i64).C w A5 (q00 xs i).f5.length (q00 xs i).f5) ∧ (0 ≤ i) = True ∧ (i < n) = True :=
 let ⟨ad, A2, c2, A5, c5, e, x0, x1, x2, x3, x4, x5, m0, m1, m2, m3⟩ := at_T43 h i (of_decide_eq_true h0) (of_decide_eq_true h1)
 ⟨ad, A2, c2, A5, c5, e, q09 hb x0, q09 hb x1, q09 hb x2, q09 hb x3, q09 hb x4, q09 hb x5, ⟨m0⟩, ⟨m1⟩, ⟨m2⟩, ⟨m3⟩, eq_true (of_decide_eq_true h0), eq_true (of_decide_eq_true h1)⟩
theorem at_T43A {w : World} {A : Option Addr} {n : Nat} {xs : List S43} (h : Kd.C k43 w A n xs) (i : Int) (h0 : decide (0 ≤ i) = true) (h1 : decide (i < n) = true) : ∃ ad A2 c2 A5 c5, A = some ad ∧ w.cell? (ad.add (i.toNat * 6)) = some (.int .i64 (q00 xs i).f0) ∧ w.cell? ⟨(ad.add (i.toNat * 6)).block, (ad.add (i.toNat * 6)).off + 1, none⟩ = some (.string (q00 xs i).f1) ∧ w.cell? ⟨(ad.add (i.toNat * 6)).block, (ad.add (i.toNat * 6)).off + 2, none⟩ = some (.slice A2 (q00 xs i).f2.length c2) ∧ w.cell? ⟨(ad.add (i.toNat * 6)).block, (ad.add (i.toNat * 6)).off + 3, none⟩ = some (.string (q00 xs i).f3) ∧ w.cell? ⟨(ad.add (i.toNat * 6)).block, (ad.add (i.toNat * 6)).off + 4, none⟩ = some (.int .i64 (q00 xs i).f4) ∧ w.cell? ⟨(ad.add (i.toNat * 6)).block, (ad.add (i.toNat * 6)).off + 5, none⟩ = some (.slice A5 (q00 xs i).f5.length c5) ∧ Aside0 ((q00 xs i).f2.length ≤ c2) ∧ Aside0 (k122.C w A2 (q00 xs i).f2.length (q00 xs i).f2) ∧ Aside0 ((q00 xs i).f5.length ≤ c5) ∧ Aside0 ((Kd.int .i64).C w A5 (q00 xs i).f5.length (q00 xs i).f5) ∧ (0 ≤ i) = True ∧ (i < n) = True :=
 let ⟨ad, A2, c2, A5, c5, e, x0, x1, x2, x3, x4, x5, m0, m1, m2, m3⟩ := at_T43 h i (of_decide_eq_true h0) (of_decide_eq_true h1)
 ⟨ad, A2, c2, A5, c5, e, x0, x1, x2, x3, x4, x5, ⟨m0⟩, ⟨m1⟩, ⟨m2⟩, ⟨m3⟩, eq_true (of_decide_eq_true h0), eq_true (of_decide_eq_true h1)⟩
def rd_L7 (xs : List (List S43)) (i : Int) : (List S43) := xs.getD i.toNat ([] : List S43)
theorem at_L7 {w : World} {A : Option Addr} {n : Nat} {xs : List (List S43)} (h : Kd.C (Kd.slice 43 k43) w A n xs) (i : Int) (h0 : 0 ≤ i) (h1 : i < n) : ∃ ad A0 c0, A = some ad ∧ w.cell? (ad.add i.toNat) = some (.slice A0 (rd_L7 xs i).length c0) ∧ (rd_L7 xs i).length ≤ c0 ∧ k43.C w A0 (rd_L7 xs i).length (rd_L7 xs i) := by
 obtain ⟨ad, c, e, _, hK, hc0⟩ := Kd.C_get h ([] : List S43) i h0 h1
 have hc : ∀ j u, c[j]? = some u → w.cell? (ad.add (i.toNat * 1 + j)) = some u := hc0
 obtain ⟨A0, c0, rfl, l0, g0⟩ := hK
 exact ⟨ad, A0, c0, e, by have hq := hc 0 _ rfl; rwa [Nat.mul_one, Nat.add_zero] at hq, l0, g0⟩
structure S24 where
 f0 : (List S43)
 f1 : Bool
def z24 : S24 := ⟨([] : List S43), false⟩
def k24 : Kd S24 := Kd.iso (Kd.pair (Kd.slice 43 k43) Kd.bool) (fun x : S24 => (x.f0, x.f1))
theorem k24_heap : Kd.Heap k24 := Kd.heap_iso _ (Kd.heap_pair (Kd.heap_slice 43 k43_heap) Kd.heap_bool)
theorem k24_open {w : World} {x : S24} {cs : List Value} (h : k24.K w x cs) : ∃ A0 c0, cs = [.slice A0 x.f0.length c0, .bool x.f1] ∧ x.f0.length ≤ c0 ∧ k43.C w A0 x.f0.length x.f0 := by
 obtain ⟨_, _, rfl, ⟨A0, c0, rfl, l0, g0⟩, rfl⟩ := h
 exact ⟨A0, c0, rfl, l0, g0⟩
theorem k24_openM {w : World} {base : Nat} {ok : Nat → Prop} {x : S24} {cs : List Value} (h : k24.M w base ok x cs) : ∃ v0, cs = [v0, .bool x.f1] ∧ k43.R 43 w base ok v0 x.f0 := by
 obtain ⟨_, _, rfl, ⟨v0, rfl, g0⟩, rfl⟩ := h
 exact ⟨v0, rfl, g0⟩
theorem k24_mk (w : World) (x : S24) {A0 : Option Addr} {c0 : Nat} (l0 : x.f0.length ≤ c0) (g0 : k43.C w A0 x.f0.length x.f0) : k24.K w x [.slice A0 x.f0.length c0, .bool x.f1] := ⟨[.slice A0 x.f0.length c0], [.bool x.f1], rfl, ⟨A0, c0, rfl, l0, g0⟩, rfl⟩
theorem k24_mkM (w : World) (base : Nat) (ok : Nat → Prop) (x : S24) {v0 : Value} (g0 : k43.R 43 w base ok v0 x.f0) : k24.M w base ok x [v0, .bool x.f1] := ⟨[v0], [.bool x.f1], rfl, ⟨v0, rfl, g0⟩, rfl⟩
theorem k24_openF {W : World} {ok : Nat → Prop} {x : S24} {cs : List Value} (h : Kd.FK k24 W ok x cs) : ∃ A0 c0, cs = [.slice A0 x.f0.length c0, .bool x.f1] ∧ x.f0.length ≤ c0 ∧ Kd.F k43 W ok A0 x.f0.length x.f0 := by
 obtain ⟨A0, c0, rfl, l0, _⟩ := k24_open (Kd.FK_now h)
 exact ⟨A0, c0, rfl, l0, (fun W' hW => by obtain ⟨A0_, c0_, he, l0_, g0_⟩ := k24_open (h W' hW); injection (Option.some.inj (show some (Value.slice A0 x.f0.length c0) = some (Value.slice A0_ x.f0.length c0_) from congrArg (fun l => l[0]?) he)) with ha_ _ _; rw [ha_]; exact g0_)⟩
theorem k24_mkF (W : World) (ok : Nat → Prop) (x : S24) {A0 : Option Addr} {c0 : Nat} (l0 : x.f0.length ≤ c0) (g0 : Kd.F k43 W ok A0 x.f0.length x.f0) : Kd.FK k24 W ok x [.slice A0 x.f0.length c0, .bool x.f1] := fun W2 hW => k24_mk W2 x l0 (g0 W2 hW)
theorem k24_mkFV (W : World) (ok : Nat → Prop) (x : S24) {v0 : Value} {b0 e0 : Nat} (g0 : Kd.V k43 e0 W b0 ok v0 x.f0) : Kd.FK k24 W ok x [v0, .bool x.f1] := by
 obtain ⟨A0, c0, rfl, l0, h0⟩ := g0
 exact k24_mkF W ok x l0 h0
def rd_T24 (xs : List S24) (i : Int) : S24 := xs.getD i.toNat z24
theorem at_T24 {w : World} {A : Option Addr} {n : Nat} {xs : List S24} (h : Kd.C k24 w A n xs) (i : Int) (h0 : 0 ≤ i) (h1 : i < n) : ∃ ad A0 c0, A = some ad ∧ w.cell? (ad.add (i.toNat * 2)) = some (.slice A0 (rd_T24 xs i).f0.length c0) ∧ w.cell? ⟨(ad.add (i.toNat * 2)).block, (ad.add (i.toNat * 2)).off + 1, none⟩ = some (.bool (rd_T24 xs i).f1) ∧ (rd_T24 xs i).f0.length ≤ c0 ∧ k43.C w A0 (rd_T24 xs i).f0.length (rd_T24 xs i).f0 := by
 obtain ⟨ad, c, e, _, hK, hc0⟩ := Kd.C_get h z24 i h0 h1
 have hc : ∀ j u, c[j]? = some u → w.cell? (ad.add (i.toNat * 2 + j)) = some u := hc0
 obtain ⟨A0, c0, rfl, l0, g0⟩ := k24_open hK
 exact ⟨ad, A0, c0, e, hc 0 _ rfl, by rw [← q1f _ _ 1 (by omega)]; exact hc 1 _ rfl, l0, g0⟩
theorem at_T24B {w w1 : World} {A : Option Addr} {n : Nat} {xs : List S24} (hb : Below w.heap.size w w1) (h : Kd.C k24 w A n xs) (i : Int) (h0 : decide (0 ≤ i) = true) (h1 : decide (i < n) = true) : ∃ ad A0 c0, A = some ad ∧ w1.cell? (ad.add (i.toNat * 2)) = some (.slice A0 (rd_T24 xs i).f0.length c0) ∧ w1.cell? ⟨(ad.add (i.toNat * 2)).block, (ad.add (i.toNat * 2)).off + 1, none⟩ = some (.bool (rd_T24 xs i).f1) ∧ Aside0 ((rd_T24 xs i).f0.length ≤ c0) ∧ Aside0 (k43.C w A0 (rd_T24 xs i).f0.length (rd_T24 xs i).f0) ∧ (0 ≤ i) = True ∧ (i < n) = True :=
 let ⟨ad, A0, c0, e, x0, x1, m0, m1⟩ := at_T24 h i (of_decide_eq_true h0) (of_decide_eq_true h1)
 ⟨ad, A0, c0, e, q09 hb x0, q09 hb x1, ⟨m0⟩, ⟨m1⟩, eq_true (of_decide_eq_true h0), eq_true (of_decide_eq_true h1)⟩
theorem at_T24A {w : World} {A : Option Addr} {n : Nat} {xs : List S24} (h : Kd.C k24 w A n xs) (i : Int) (h0 : decide (0 ≤ i) = true) (h1 : decide (i < n) = true) : ∃ ad A0 c0, A = some ad ∧ w.cell? (ad.add (i.toNat * 2)) = some (.slice A0 (rd_T24 xs i).f0.length c0) ∧ w.cell? ⟨(ad.add (i.toNat * 2)).block, (ad.add (i.toNat * 2)).off + 1, none⟩ = some (.bool (rd_T24 xs i).f1) ∧ Aside0 ((rd_T24 xs i).f0.length ≤ c0) ∧ Aside0 (k43.C w A0 (rd_T24 xs i).f0.length (rd_T24 xs i).f0) ∧ (0 ≤ i) = True ∧ (i < n) = True :=
 let ⟨ad, A0, c0, e, x0, x1, m0, m1⟩ := at_T24 h i (of_decide_eq_true h0) (of_decide_eq_true h1)
 ⟨ad, A0, c0, e, x0, x1, ⟨m0⟩, ⟨m1⟩, eq_true (of_decide_eq_true h0), eq_true (of_decide_eq_true h1)⟩
end Go.Proofs.YthjnallbbhnndaaDoor.XWp
namespace Go.Proofs.YthjnallbbhnndaaDoor.XWp
open Go.Proofs.YthjnallbbhnndaaDoor.Short Go.RowKit Go.Proofs.YthjnallbbhnndaaDoorW.PrintWords Go.Proofs.YthjnallbbhnndaaDoorW.PrintLast Go.Proofs.YthjnallbbhnndaaDoorW.PrintMore
attribute [local go_sem] q15 q13 q1i q1h q0x q0w q14 q12   -- for this text's walks alone
set_option linter.unusedVariables false
set_option linter.unusedSimpArgs false
def clerestorylaw1_few.f (l0_0 : List (S43)) (a0_1 : Bool) (a1 : Int) : Option ((List (S43)) × Bool) := if 0 ≤ (mn (l0_0.length : Int) a1) then (if (mn (l0_0.length : Int) a1) ≤ (l0_0.length : Int) then (some ((l0_0.take ((mn (l0_0.length : Int) a1) : Int).toNat), a0_1)) else (none)) else (none)
set_option maxHeartbeats 8000000 in
set_option maxRecDepth 100000 in
theorem clerestorylaw1_few.calls (P0_0_ : Nat → Prop) (A0_0 : Option Addr) (c0_0 : Nat) (l0_0 : List (S43)) (a0_1 : Bool) (a1 : Int) (r1 : List (S43)) (r2 : Bool) (w : World) (hs0_0 : Kd.V k43 43 w w.heap.size (fun k_ => P0_0_ k_) (.slice A0_0 l0_0.length c0_0) l0_0) (h : clerestorylaw1_few.f l0_0 a0_1 a1 = some (r1, r2)) :
 Calls Tryd.prog 15 #[.agg #[.slice A0_0 l0_0.length c0_0, .bool a0_1], .int .i64 a1] w fun e w' => ∃ v0_ : Value, e = .returned (.agg #[v0_, .bool r2]) ∧ Kd.V k43 43 w' w.heap.size (fun k_ => (P0_0_ k_ ∨ w.heap.size ≤ k_)) v0_ r1 ∧ Below w.heap.size w w' := by
 have hu24 := Tryd.underlying24
 have HO0_0 := aS (show Kd.V k43 43 w w.heap.size (fun k_ => (P0_0_ k_ ∨ w.heap.size ≤ k_)) (.slice A0_0 l0_0.length c0_0) l0_0 from Kd.V_mono hs0_0 (fun k_ hk => .inl hk))
 have HB := aS (Below.refl w.heap.size w)
 have H := h; clear h; unfold clerestorylaw1_few.f at H
 obtain ⟨ji3, hji3⟩ : ∃ j_ : Int, (mn (l0_0.length : Int) a1) = j_ := ⟨_, rfl⟩
 replace H : (if 0 ≤ (ji3) then (if (ji3) ≤ (l0_0.length : Int) then (some ((l0_0.take ((ji3) : Int).toNat), a0_1)) else (none)) else (none)) = some (r1, r2) := by first | (rw [hji3] at H; exact H) | (simp only [hji3] at H ⊢; exact H)
 have hji3_ : (if a1 < (l0_0.length : Int) then a1 else (l0_0.length : Int)) = ji3 := hji3
 refine iGp H ?_; clear H; intro c4 H
 have c4b0 := eq_true c4
 have c4b1 : decide (0 ≤ (ji3)) = true := decide_eq_true c4
 clear c4
 refine iGp H ?_; clear H; intro c5 H
 have c5b0 := eq_true c5
 have c5b1 : decide ((ji3) ≤ (l0_0.length : Int)) = true := decide_eq_true c5
 clear c5
 obtain ⟨y103, hy103⟩ : ∃ y_ : List (S43), y_ = (l0_0.take ((ji3) : Int).toNat) := ⟨_, rfl⟩
 replace H : (some (y103, a0_1)) = some (r1, r2) := by first | (rw [hy103]; with_reducible exact H) | (have H2_ := (Option.bind_some _ _).symm.trans H; rw [hy103]; with_reducible exact H2_) | (have H2_ := (Option.bind_some _ _).symm.trans H; with_reducible exact H2_) | with_reducible exact H | (rw [hy103]; exact H) | exact H
 have Ny103 := aS hy103
 clear hy103
 simp only [Option.some.injEq, Prod.mk.injEq] at H
 obtain ⟨rfl, rfl⟩ := H
 go_enter Tryd.func15, Tryd.ntmps15
 go_wp2_with (first | ((with_reducible refine q0c (N := 2) rfl ?_); refine q0q ?hg (N := 2) ?hd (cs := #[.slice A0_0 l0_0.length c0_0, .bool a0_1]) (t := 24) ?hr ?_; (case hd => rfl); (case hg => rfl); (case hr => first | (go_simp; done) | (go_simp; rfl)); intro gb101 hg w6 hbox hb; replace HO0_0 := aS (Kd.V_below (Kd.V_elderB (by (with_reducible repeat (first | apply vA | apply vN | apply vD)); exact HO0_0.out) gb101 (Nat.le_of_eq hg.symm)) hb); have BK101 := aS (hbox); have GW101 := aS ((by rw [hg]; exact (q0g (by repeat (first | (with_reducible first | exact HB.out | apply bA | apply bN | apply bD) | exact HB.out))) : w.heap.size ≤ gb101)); have GE101 := aS ((by rw [hg]; exact (q0g (by repeat (first | (with_reducible first | exact HB.out | apply bA | apply bN | apply bD) | exact HB.out))) : w.heap.size ≤ gb101)); replace HB := aS (q03 (by repeat (first | (with_reducible first | exact HB.out | apply bA | apply bN | apply bD) | exact HB.out)) hb); clear hb hbox hg) | ((with_reducible refine q0c (N := 4) rfl ?_); refine q0q ?hg (N := 4) ?hd (cs := #[.slice none 0 0, .bool false]) (t := 24) ?hr ?_; (case hd => rfl); (case hg => rfl); (case hr => first | (go_simp; done) | (go_simp; rfl)); intro gb102 hg w7 hbox hb; have n0_ := aS (Kd.V_below (Kd.V_elderB (by (with_reducible repeat (first | apply vA | apply vN | apply vD)); exact HO0_0.out) gb102 (Nat.le_of_eq hg.symm)) hb); have n1_ := aS (q08 (g := gb101) (o := .cells #[.slice A0_0 l0_0.length c0_0, .bool a0_1] 24 (0, 0)) (by (with_reducible repeat (first | refine kN ?_ _ | refine kD ?_ | refine kA ?_ _)); exact BK101.out) hb); have n2_ := aS (q03 (by repeat (first | (with_reducible first | exact HB.out | apply bA | apply bN | apply bD | refine bS ?_ GE101.out) | exact HB.out)) hb); have n3_ := aS (hbox); have n4_ := aS ((by rw [hg]; exact (q0g (by repeat (first | (with_reducible first | exact HB.out | apply bA | apply bN | apply bD | refine bS ?_ GE101.out) | exact HB.out))) : w.heap.size ≤ gb102)); have n5_ := aS ((by rw [hg]; exact (q0g (by repeat (first | (with_reducible first | exact HB.out | apply bA | apply bN | apply bD | refine bS ?_ GE101.out) | exact HB.out))) : w.heap.size ≤ gb102)); have n6_ := aS ((by rw [hg]; exact Nat.ne_of_lt (q1j (g := gb101) (o := .cells #[.slice A0_0 l0_0.length c0_0, .bool a0_1] 24 (0, 0)) (by (with_reducible repeat (first | refine kN ?_ _ | refine kD ?_ | refine kA ?_ _)); exact BK101.out)) : gb101 ≠ gb102)); have n7_ := aS ((by rw [hg]; exact Nat.ne_of_gt (q1j (g := gb101) (o := .cells #[.slice A0_0 l0_0.length c0_0, .bool a0_1] 24 (0, 0)) (by (with_reducible repeat (first | refine kN ?_ _ | refine kD ?_ | refine kA ?_ _)); exact BK101.out)) : gb102 ≠ gb101)); clear HO0_0; clear BK101; clear HB; have HO0_0 := n0_; have BK101 := n1_; have HB := n2_; have BK102 := n3_; have GW102 := n4_; have GE102 := n5_; have NB101_102 := n6_; have NB102_101 := n7_; clear n0_ n1_ n2_ n3_ n4_ n5_ n6_ n7_; clear hb hbox hg; have hnb8 := NB101_102.out; have hnc8 := NB102_101.out; obtain ⟨hczL_0, hczL_1, hfzL_0, hfzL_1⟩ := bk2 BK101.out; have q10 : ((ji3) : Int) ≤ ((l0_0.length : Int) : Int) := od (by first | (with_reducible assumption) | assumption); obtain ⟨i010, hi010, _, hsz10, _⟩ := info_parts info43; have hroom10 : l0_0.length ≤ c0_0 := (Kd.V_reads' HO0_0.out).2.1; have hC10 : Kd.F k43 _ _ A0_0 l0_0.length l0_0 := (Kd.V_at (base := w.heap.size) HO0_0.out).2.2; have hcut10 := cut_to (P := Tryd.prog) 22 43 .i64 Tryd.underlying22 hi010 A0_0 l0_0.length c0_0 (ji3) (od (by first | (with_reducible assumption) | assumption)) q10 hroom10; have hr10 := Kd.F_take (m := ((ji3) : Int).toNat) hC10 (by omega); have hy10 : y103.length = ((ji3) : Int).toNat := (by rw [Ny103.out, List.length_take]; omega); rw [← Ny103.out] at hr10; rw [← hy10] at hcut10; have HO107 := aS (show Kd.V k43 43 _ w.heap.size _ (.slice A0_0 y103.length c0_0) y103 from Kd.V_mk (by omega) hr10); have HC107 := aS (show y103.length ≤ c0_0 from by omega); clear hr10 hC10 hroom10 hi010 hsz10; have KY10 := aS hy10; clear hy10; replace q10 := eq_true q10; obtain ⟨hczL_0, hczL_1, hfzL_0, hfzL_1⟩ := bk2 BK102.out))
 refine bodyPost_ret (results_cell_row rfl _ _ gb102 24 #[.slice A0_0 y103.length c0_0, .bool a0_1] (0, 0) _ rfl (by (with_reducible repeat (first | refine kN ?_ _ | refine kD ?_ | refine kA ?_ _)); refine q0t (cs := #[.slice A0_0 y103.length c0_0, .bool false]) ?_ 1 _ rfl; (with_reducible repeat (first | refine kN ?_ _ | refine kD ?_ | refine kA ?_ _)); refine q0t (cs := #[.slice none 0 0, .bool false]) ?_ 0 _ rfl; (with_reducible repeat (first | refine kN ?_ _ | refine kD ?_ | refine kA ?_ _)); refine q0u ?_ NB102_101.out _; (with_reducible repeat (first | refine kN ?_ _ | refine kD ?_ | refine kA ?_ _)); exact BK102.out) Tryd.underlying24 rfl (by kernel_rfl)) rfl ?_
 exact ⟨_, by first | rfl | (simp [q02, q01] <;> rfl) | (simp only [← hji3]; first | rfl | (simp [q02, q01] <;> rfl)) | (simp [*, q02, q01] <;> rfl), by (with_reducible repeat (first | apply vA | apply vN | apply vD)); exact Kd.V_mono (Kd.V_far (p := ⟨gb102, 1, none⟩) (Kd.V_far (p := ⟨gb102, 0, none⟩) (Kd.V_far (p := ⟨gb101, 0, none⟩) (Kd.V_mono (Kd.V_mono HO107.out (fun k_ hk => (⟨hk, hk.1.2⟩ : _ ∧ k_ ≠ gb101))) (fun k_ hk => (⟨hk, hk.1.2⟩ : _ ∧ k_ ≠ gb102))) (fun _ hk => hk.1.2) (.slice A0_0 y103.length c0_0)) (fun _ hk => hk.2) (.slice A0_0 y103.length c0_0)) (fun _ hk => hk.2) (.bool a0_1)) (fun _ hk => hk.1.1.1.1), by repeat (first | (with_reducible first | exact HB.out | apply bA | apply bN | apply bD | refine bS ?_ GE101.out | refine bS ?_ GE102.out) | exact HB.out)⟩
def clerestoryref1_Deep.l0 : Nat → Int → Int → List (S43) → Bool → Option (Int)
 | 0, _, _, _, _ => none
 | k + 1, x1, x5, x109000, x109001 => if 0 ≤ x1 then (if x1 < (x109000.length : Int) then (if ((q00 x109000 x1).f4) ≥ 0 then (if (wrap64 (x5 + 1)) > (x109000.length : Int) then (some (-1)) else (clerestoryref1_Deep.l0 k ((q00 x109000 x1).f4) (wrap64 (x5 + 1)) x109000 x109001)) else (some x5)) else (none)) else (none)
def clerestoryref1_Deep.f (k : Nat) (l0_0 : List (S43)) (a0_1 : Bool) (a1 : Int) : Option (Int) := clerestoryref1_Deep.l0 k a1 0 l0_0 a0_1
theorem clerestoryref1_Deep.mono_l : ∀ k, (∀ y0 y1 y2 y3, LeO (clerestoryref1_Deep.l0 k y0 y1 y2 y3) (clerestoryref1_Deep.l0 (k + 1) y0 y1 y2 y3))
 | 0 => fun _ _ _ _ r h => by simp [clerestoryref1_Deep.l0] at h
 | k + 1 => by
  have ih0 := clerestoryref1_Deep.mono_l k
  ·intro y0 y1 y2 y3
   unfold clerestoryref1_Deep.l0
   repeat' first | with_reducible first | apply ih0 | exact LeO.refl _ | exact LeO.none _ | refine LeO.ite ?_ ?_ | refine LeO.bind ?_ (fun _ => ?_) | (first | apply ih0 | exact LeO.none _ | refine LeO.ite ?_ ?_ | refine LeO.bind ?_ (fun _ => ?_))
theorem clerestoryref1_Deep.mono : ∀ a0 a1 a2 k, LeO (clerestoryref1_Deep.f k a0 a1 a2) (clerestoryref1_Deep.f (k + 1) a0 a1 a2) := by
 intro a0 a1 a2 k
 have ih0 := clerestoryref1_Deep.mono_l k
 unfold clerestoryref1_Deep.f
 repeat' first | with_reducible first | apply ih0 | exact LeO.refl _ | exact LeO.none _ | refine LeO.ite ?_ ?_ | refine LeO.bind ?_ (fun _ => ?_) | (first | apply ih0 | exact LeO.none _ | refine LeO.ite ?_ ?_ | refine LeO.bind ?_ (fun _ => ?_))
set_option maxHeartbeats 8000000 in
set_option maxRecDepth 100000 in
theorem clerestoryref1_Deep.calls (k : Nat) (A0_0 : Option Addr) (c0_0 : Nat) (l0_0 : List (S43)) (a0_1 : Bool) (a1 : Int) (r : Int) (w : World) (hr0_0 : Kd.C k43 w A0_0 l0_0.length l0_0) (hc0_0 : l0_0.length ≤ c0_0) (h : clerestoryref1_Deep.f k l0_0 a0_1 a1 = some r) :
 Calls Tryd.prog 65 #[.agg #[.slice A0_0 l0_0.length c0_0, .bool a0_1], .int .i64 a1] w fun e w' => e = .returned (.int .i64 r) ∧ Below w.heap.size w w' := by
 have hu24 := Tryd.underlying24
 have HR0_0 := aS hr0_0
 have HC0_0 := aS hc0_0
 clear hr0_0 hc0_0
 have HB := aS (Below.refl w.heap.size w)
 have H := h; clear h; unfold clerestoryref1_Deep.f at H
 have H' := aS H
 clear H
 go_enter Tryd.func65, Tryd.ntmps65
 go_wp2_with (first | ((with_reducible refine q0c (N := 2) rfl ?_); refine box0 rfl (N := 2) rfl (cs := #[.slice A0_0 l0_0.length c0_0, .bool a0_1]) (t := 24) (by first | (go_simp; done) | (go_simp; rfl)) (by repeat (first | (with_reducible first | exact HB.out | apply bA | apply bN | apply bD) | exact HB.out)) ?_; clear HB; intro gb108 w3 BK108 GW108 HB; have GE108 := GW108))
 go_loopg [1, 5] k (fun kq v1 v5 w' => ∃ (x1_1 : Int) (x5_1 : Int), v1 = .int .i64 x1_1 ∧ v5 = .int .i64 x5_1 ∧ Aside0 (clerestoryref1_Deep.l0 kq x1_1 x5_1 l0_0 a0_1 = some r) ∧ Aside0 (kq ≤ k) ∧ Aside0 (w'.heap[gb108]? = some (.cells #[(.slice A0_0 l0_0.length c0_0), .bool a0_1] 24 (0, 0))) ∧ Aside0 (Below w.heap.size w w'))
 case atStart => exact ⟨(a1), (0), (by first | rfl | (simp; done) | simp [*]), (by first | rfl | (simp; done) | simp [*]), H', ⟨Nat.le_refl _⟩, ⟨by (with_reducible repeat (first | refine kN ?_ _ | refine kD ?_ | refine kA ?_ _)); exact BK108.out⟩, ⟨by repeat (first | (with_reducible first | exact HB.out | apply bA | apply bN | apply bD | refine bS ?_ GE108.out) | exact HB.out)⟩⟩
 case round =>
  clear H'
  obtain ⟨x1_1, x5_1, rfl, rfl, HA, HK1, BK108, HB⟩ := hrel
  cases gk with
  | zero => exact absurd HA.out (by simp [clerestoryref1_Deep.l0])
  | succ k1 =>
   have H := HA.out
   clear HA
   simp only [clerestoryref1_Deep.l0] at H
   obtain ⟨hczL_0, hczL_1, hfzL_0, hfzL_1⟩ := bk2 BK108.out
   refine iLp H ?_; clear H; intro c4b0 H
   refine iTp H ?_; clear H; intro c5b0 H
   obtain ⟨ad109, A109_2, c109_2, A109_5, c109_5, e109, hx109_0, hx109_1, hx109_2, hx109_3, hx109_4, hx109_5, HC109_2, HR109_2, HC109_5, HR109_5, p109, q109⟩ := q0p HB.out HR0_0.out x1_1 (by first | with_reducible assumption | assumption) (by first | with_reducible assumption | assumption)
   cases e109
   refine iL H ?p6 ?n6 <;> clear H
   case' p6 =>
    intro c6b0 H
    obtain ⟨ad110, A110_2, c110_2, A110_5, c110_5, e110, hx110_0, hx110_1, hx110_2, hx110_3, hx110_4, hx110_5, HC110_2, HR110_2, HC110_5, HR110_5, p110, q110⟩ := q0p HB.out HR0_0.out x1_1 (by first | with_reducible assumption | assumption) (by first | with_reducible assumption | assumption)
    obtain rfl : ad109 = ad110 := (by injection e110)
    refine iT H ?p7 ?n7 <;> clear H
   case' p7 => intro c7b0 H
   case' n7 => intro c7b0 H
   case' n6 => intro c6b0 H
   case p7 =>
    obtain rfl := Option.some.inj H
    have ea_ := Option.some.inj (hx109_2.symm.trans hx110_2)
    injection ea_ with ea_ en_ ec_
    subst ea_
    subst ec_
    clear en_
    have ea_ := Option.some.inj (hx109_5.symm.trans hx110_5)
    injection ea_ with ea_ en_ ec_
    subst ea_
    subst ec_
    clear en_
    go_wp2
    go_ret
    exact ⟨by first | rfl | (simp [q02, q01] <;> rfl) | (simp [*, q02, q01] <;> rfl), by repeat (first | (with_reducible first | exact HB.out | apply bA | apply bN | apply bD | refine bS ?_ GE108.out) | exact HB.out)⟩
   case n7 =>
    have H' := aS H
    clear H
    have ea_ := Option.some.inj (hx109_2.symm.trans hx110_2)
    injection ea_ with ea_ en_ ec_
    subst ea_
    subst ec_
    clear en_
    have ea_ := Option.some.inj (hx109_5.symm.trans hx110_5)
    injection ea_ with ea_ en_ ec_
    subst ea_
    subst ec_
    clear en_
    go_wp2
    go_roundg k1
    case measure => have := HK1.out; omega
    case rel => exact ⟨((q00 l0_0 x1_1).f4), (wrap64 (x5_1 + 1)), (by first | rfl | (simp; done) | simp [*]), (by first | rfl | (simp; done) | simp [*]), H', ⟨by have := HK1.out; omega⟩, ⟨by (with_reducible repeat (first | refine kN ?_ _ | refine kD ?_ | refine kA ?_ _)); exact BK108.out⟩, ⟨by repeat (first | (with_reducible first | exact HB.out | apply bA | apply bN | apply bD | refine bS ?_ GE108.out) | exact HB.out)⟩⟩
   case n6 =>
    obtain rfl := Option.some.inj H
    go_wp2
    go_ret
    exact ⟨by first | rfl | (simp [q02, q01] <;> rfl) | (simp [*, q02, q01] <;> rfl), by repeat (first | (with_reducible first | exact HB.out | apply bA | apply bN | apply bD | refine bS ?_ GE108.out) | exact HB.out)⟩
def clerestoryref1_AttrOf.l0 : Nat → List (S122) → ByteArray → Int → Option (ByteArray × Bool)
 | 0, _, _, _ => none
 | k + 1, x0, x1, x6 => if x6 < (x0.length : Int) then (if 0 ≤ x6 then (if ((q0f x0 x6).f0).toList = x1.toList then (some ((q0f x0 x6).f1, true)) else (clerestoryref1_AttrOf.l0 k x0 x1 (wrap64 (x6 + 1)))) else (none)) else (some ((⟨#[]⟩ : ByteArray), false))
def clerestoryref1_AttrOf.f (k : Nat) (l0 : List (S122)) (a1 : ByteArray) : Option (ByteArray × Bool) := clerestoryref1_AttrOf.l0 k l0 a1 0
theorem clerestoryref1_AttrOf.mono_l : ∀ k, (∀ y0 y1 y2, LeO (clerestoryref1_AttrOf.l0 k y0 y1 y2) (clerestoryref1_AttrOf.l0 (k + 1) y0 y1 y2))
 | 0 => fun _ _ _ r h => by simp [clerestoryref1_AttrOf.l0] at h
 | k + 1 => by
  have ih0 := clerestoryref1_AttrOf.mono_l k
  ·intro y0 y1 y2
   unfold clerestoryref1_AttrOf.l0
   repeat' first | with_reducible first | apply ih0 | exact LeO.refl _ | exact LeO.none _ | refine LeO.ite ?_ ?_ | refine LeO.bind ?_ (fun _ => ?_) | (first | apply ih0 | exact LeO.none _ | refine LeO.ite ?_ ?_ | refine LeO.bind ?_ (fun _ => ?_))
theorem clerestoryref1_AttrOf.mono : ∀ a0 a1 k, LeO (clerestoryref1_AttrOf.f k a0 a1) (clerestoryref1_AttrOf.f (k + 1) a0 a1) := by
 intro a0 a1 k
 have ih0 := clerestoryref1_AttrOf.mono_l k
 unfold clerestoryref1_AttrOf.f
 repeat' first | with_reducible first | apply ih0 | exact LeO.refl _ | exact LeO.none _ | refine LeO.ite ?_ ?_ | refine LeO.bind ?_ (fun _ => ?_) | (first | apply ih0 | exact LeO.none _ | refine LeO.ite ?_ ?_ | refine LeO.bind ?_ (fun _ => ?_))
set_option maxHeartbeats 8000000 in
set_option maxRecDepth 100000 in
theorem clerestoryref1_AttrOf.calls (k : Nat) (A0 : Option Addr) (c0 : Nat) (l0 : List (S122)) (a1 : ByteArray) (r1 : ByteArray) (r2 : Bool) (w : World) (hr0 : Kd.C k122 w A0 l0.length l0) (hc0 : l0.length ≤ c0) (h : clerestoryref1_AttrOf.f k l0 a1 = some (r1, r2)) :
 Calls Tryd.prog 64 #[.slice A0 l0.length c0, .string a1] w fun e w' => e = .returned (.tuple #[.string r1, .bool r2]) ∧ Drawn0 w w' := by
 have HR0 := aS hr0
 have HC0 := aS hc0
 clear hr0 hc0
 have H := h; clear h; unfold clerestoryref1_AttrOf.f at H
 have H' := aS H
 clear H
 go_enter Tryd.func64, Tryd.ntmps64
 go_wp2
 go_loopg [6] k (fun kq v6 w' => ∃ (x6_1 : Int), v6 = .int .i64 x6_1 ∧ Aside0 (clerestoryref1_AttrOf.l0 kq l0 a1 x6_1 = some (r1, r2)) ∧ Aside0 (kq ≤ k) ∧ Drawn0 w w')
 case atStart => exact ⟨(0), (by first | rfl | (simp; done) | simp [*]), H', ⟨Nat.le_refl _⟩, by repeat (first | exact Drawn0.refl _ | apply Drawn0.step)⟩
 case round =>
  clear H'
  obtain ⟨x6_1, rfl, HA, HK1, ⟨m1, rfl⟩⟩ := hrel
  cases gk with
  | zero => exact absurd HA.out (by simp [clerestoryref1_AttrOf.l0])
  | succ k1 =>
   have H := HA.out
   clear HA
   simp only [clerestoryref1_AttrOf.l0] at H
   refine iT H ?p3 ?n3 <;> clear H
   case' p3 =>
    intro c3b0 H
    refine iLp H ?_; clear H; intro c4b0 H
    obtain ⟨ad111, e111, hx111_0, hx111_1, p111, q111⟩ := at_T122A HR0.out x6_1 (by first | with_reducible assumption | assumption) (by first | with_reducible assumption | assumption)
    cases e111
    refine iE H ?p5 ?n5 <;> clear H
   case' p5 => intro c5b0 c5b1 H
   case' n5 => intro c5 c5b0 c5b1 H
   case' n3 => intro c3b0 H
   case p5 =>
    simp only [Option.some.injEq, Prod.mk.injEq] at H
    obtain ⟨rfl, rfl⟩ := H
    obtain ⟨ad112, e112, hx112_0, hx112_1, p112, q112⟩ := at_T122A HR0.out x6_1 (by first | with_reducible assumption | assumption) (by first | with_reducible assumption | assumption)
    obtain rfl : ad111 = ad112 := (by injection e112)
    go_wp2
    go_ret2
    exact ⟨by first | rfl | (simp; done) | (simp [*]; done), by repeat (first | exact Drawn0.refl _ | apply Drawn0.step)⟩
   case n5 =>
    have H' := aS H
    clear H
    go_wp2
    go_roundg k1
    case measure => have := HK1.out; omega
    case rel => exact ⟨(wrap64 (x6_1 + 1)), (by first | rfl | (simp; done) | simp [*]), H', ⟨by have := HK1.out; omega⟩, by repeat (first | exact Drawn0.refl _ | apply Drawn0.step)⟩
   case n3 =>
    simp only [Option.some.injEq, Prod.mk.injEq] at H
    obtain ⟨rfl, rfl⟩ := H
    go_wp2
    go_ret2
    exact ⟨by first | rfl | (simp; done) | (simp [*]; done), by repeat (first | exact Drawn0.refl _ | apply Drawn0.step)⟩
def clerestoryref1_between.f (a0 : Int) (a1 : Int) (a2 : Int) : Option (Bool) := if a0 ≥ a1 then (some (decide (a0 ≤ a2))) else (some false)
set_option maxHeartbeats 8000000 in
set_option maxRecDepth 100000 in
theorem clerestoryref1_between.calls (a0 : Int) (a1 : Int) (a2 : Int) (r : Bool) (w : World) (h : clerestoryref1_between.f a0 a1 a2 = some r) :
 Calls Tryd.prog 73 #[.int .i64 a0, .int .i64 a1, .int .i64 a2] w fun e w' => e = .returned (.bool r) ∧ Drawn0 w w' := by
 have H := h; clear h; unfold clerestoryref1_between.f at H
 refine iL H ?p4 ?n4 <;> clear H
 case' p4 => intro c4b0 H
 case' n4 => intro c4b0 H
 case p4|n4 =>
  obtain rfl := Option.some.inj H
  go_enter Tryd.func73, Tryd.ntmps73
  go_wp2
  go_ret
  exact ⟨by first | rfl | (simp; done) | (simp [*]; done), by repeat (first | exact Drawn0.refl _ | apply Drawn0.step)⟩
end Go.Proofs.YthjnallbbhnndaaDoor.XWp
namespace Go.Proofs.YthjnallbbhnndaaDoor.XWp
open Go.Proofs.YthjnallbbhnndaaDoor.Short Go.RowKit Go.Proofs.YthjnallbbhnndaaDoorW.PrintWords Go.Proofs.YthjnallbbhnndaaDoorW.PrintLast Go.Proofs.YthjnallbbhnndaaDoorW.PrintMore
attribute [local go_sem] q15 q13 q1i q1h q0x q0w q14 q12   -- for this text's walks alone
set_option linter.unusedVariables false
set_option linter.unusedSimpArgs false
mutual
def clerestoryref1_domName.j0 : Nat → ByteArray → Bool → Bool → Option (Bool)
 | 0, _, _, _ => none
 | k + 1, x0, x1, x15 => if x15 = true then (some false) else (clerestoryref1_domName.l0 k x0 x1 0)
def clerestoryref1_domName.l0 : Nat → ByteArray → Bool → Int → Option (Bool)
 | 0, _, _, _ => none
 | k + 1, x0, x1, x5 => if x5 < (x0.size : Int) then (if 0 ≤ x5 then (if (bt x0 x5) ≥ 97 then (clerestoryref1_domName.j2 k x0 x1 x5 (bt x0 x5) (decide ((bt x0 x5) ≤ 122))) else (clerestoryref1_domName.j2 k x0 x1 x5 (bt x0 x5) false)) else (none)) else (some true)
def clerestoryref1_domName.j2 : Nat → ByteArray → Bool → Int → Int → Bool → Option (Bool)
 | 0, _, _, _, _, _ => none
 | k + 1, x0, x1, x5, x6, x7 => if x7 = true then (clerestoryref1_domName.j3 k x0 x1 x5 x6 x7 false) else (if x6 ≥ 48 then (if x6 ≤ 57 then (clerestoryref1_domName.j3 k x0 x1 x5 x6 x7 false) else (if x6 = 45 then (clerestoryref1_domName.j3 k x0 x1 x5 x6 x7 false) else (if x6 = 95 then (clerestoryref1_domName.j3 k x0 x1 x5 x6 x7 false) else (clerestoryref1_domName.j3 k x0 x1 x5 x6 x7 (x6 != 58))))) else (if x6 = 45 then (clerestoryref1_domName.j3 k x0 x1 x5 x6 x7 false) else (if x6 = 95 then (clerestoryref1_domName.j3 k x0 x1 x5 x6 x7 false) else (clerestoryref1_domName.j3 k x0 x1 x5 x6 x7 (x6 != 58)))))
def clerestoryref1_domName.j3 : Nat → ByteArray → Bool → Int → Int → Bool → Bool → Option (Bool)
 | 0, _, _, _, _, _, _ => none
 | k + 1, x0, x1, x5, x6, x7, x53 => if x53 = true then (some false) else (if x5 = 0 then (if x7 = true then (clerestoryref1_domName.l0 k x0 x1 (wrap64 (x5 + 1))) else (if x1 = true then (some false) else (if x6 = 45 then (clerestoryref1_domName.l0 k x0 x1 (wrap64 (x5 + 1))) else (if x6 = 95 then (clerestoryref1_domName.l0 k x0 x1 (wrap64 (x5 + 1))) else (some false))))) else (clerestoryref1_domName.l0 k x0 x1 (wrap64 (x5 + 1))))
end
def clerestoryref1_domName.f (k : Nat) (a0 : ByteArray) (a1 : Bool) : Option (Bool) := if (a0.size : Int) < 1 then (clerestoryref1_domName.j0 k a0 a1 true) else (clerestoryref1_domName.j0 k a0 a1 (decide ((a0.size : Int) > 40)))
theorem clerestoryref1_domName.mono_l : ∀ k, (∀ y0 y1 y2, LeO (clerestoryref1_domName.j0 k y0 y1 y2) (clerestoryref1_domName.j0 (k + 1) y0 y1 y2)) ∧ (∀ y0 y1 y2, LeO (clerestoryref1_domName.l0 k y0 y1 y2) (clerestoryref1_domName.l0 (k + 1) y0 y1 y2)) ∧ (∀ y0 y1 y2 y3 y4, LeO (clerestoryref1_domName.j2 k y0 y1 y2 y3 y4) (clerestoryref1_domName.j2 (k + 1) y0 y1 y2 y3 y4)) ∧ (∀ y0 y1 y2 y3 y4 y5, LeO (clerestoryref1_domName.j3 k y0 y1 y2 y3 y4 y5) (clerestoryref1_domName.j3 (k + 1) y0 y1 y2 y3 y4 y5))
 | 0 => ⟨fun _ _ _ r h => by simp [clerestoryref1_domName.j0] at h, fun _ _ _ r h => by simp [clerestoryref1_domName.l0] at h, fun _ _ _ _ _ r h => by simp [clerestoryref1_domName.j2] at h, fun _ _ _ _ _ _ r h => by simp [clerestoryref1_domName.j3] at h⟩
 | k + 1 => by
  obtain ⟨ih0, ih1, ih2, ih3⟩ := clerestoryref1_domName.mono_l k
  refine ⟨?_, ?_, ?_, ?_⟩
  all_goals intros
  all_goals (first | unfold clerestoryref1_domName.j0 | unfold clerestoryref1_domName.l0 | unfold clerestoryref1_domName.j2 | unfold clerestoryref1_domName.j3)
  all_goals (repeat' first | with_reducible first | apply ih0 | apply ih1 | apply ih2 | apply ih3 | exact LeO.refl _ | exact LeO.none _ | refine LeO.ite ?_ ?_ | refine LeO.bind ?_ (fun _ => ?_) | (first | apply ih0 | apply ih1 | apply ih2 | apply ih3 | exact LeO.none _ | refine LeO.ite ?_ ?_ | refine LeO.bind ?_ (fun _ => ?_)))
theorem clerestoryref1_domName.mono : ∀ a0 a1 k, LeO (clerestoryref1_domName.f k a0 a1) (clerestoryref1_domName.f (k + 1) a0 a1) := by
 intro a0 a1 k
 obtain ⟨ih0, ih1, ih2, ih3⟩ := clerestoryref1_domName.mono_l k
 unfold clerestoryref1_domName.f
 repeat' first | with_reducible first | apply ih0 | apply ih1 | apply ih2 | apply ih3 | exact LeO.refl _ | exact LeO.none _ | refine LeO.ite ?_ ?_ | refine LeO.bind ?_ (fun _ => ?_) | (first | apply ih0 | apply ih1 | apply ih2 | apply ih3 | exact LeO.none _ | refine LeO.ite ?_ ?_ | refine LeO.bind ?_ (fun _ => ?_))
set_option maxHeartbeats 8000000 in
set_option maxRecDepth 100000 in
theorem clerestoryref1_domName.calls (k : Nat) (a0 : ByteArray) (a1 : Bool) (r : Bool) (w : World) (h : clerestoryref1_domName.f k a0 a1 = some r) :
 Calls Tryd.prog 120 #[.string a0, .bool a1] w fun e w' => e = .returned (.bool r) ∧ Drawn0 w w' := by
 have H := h; clear h; unfold clerestoryref1_domName.f at H
 have HC3 := aS H
 clear H
 go_enter Tryd.func120, Tryd.ntmps120
 go_upto_region 1 with (fail)
 go_cut [15] (fun v15 wc => ∃ (kq : Nat) (x15_2 : Bool), v15 = .bool x15_2 ∧ Aside0 (clerestoryref1_domName.j0 kq a0 a1 x15_2 = some r) ∧ Aside0 (kq ≤ k) ∧ Drawn0 w wc)
 case first =>
  have H := HC3.out
  clear HC3
  refine iTN (m := a0.size) (n := 1) H rfl rfl ?p4 ?n4 <;> clear H
  case' p4 => intro c4b0 c4b1 H
  case' n4 => intro c4b0 c4b1 H
  case p4 =>
   (first | rw [c4b0] | (simp only [q0d, q0e]; rw [c4b0]) | skip)
   have H' := aS H
   clear H
   go_wp2
   go_meet
   case rel => exact ⟨_, _, (by first | rfl | (simp; done) | simp [*]), H', ⟨by first | omega | exact Nat.le_refl _⟩, by repeat (first | exact Drawn0.refl _ | apply Drawn0.step)⟩
  case n4 =>
   (first | rw [c4b0] | (simp only [q0d, q0e]; rw [c4b0]) | skip)
   have H' := aS H
   clear H
   go_wp2
   go_meet
   case rel => exact ⟨_, (decide ((a0.size : Int) > 40)), (by first | rfl | (simp; done) | simp [*]), H', ⟨by first | omega | exact Nat.le_refl _⟩, by repeat (first | exact Drawn0.refl _ | apply Drawn0.step)⟩
 case rest =>
  clear HC3
  obtain ⟨kq, x15_2, rfl, HA, HJ2, ⟨mc2, rfl⟩⟩ := hcut
  cases kq with
  | zero => exact absurd HA.out (by simp [clerestoryref1_domName.j0])
  | succ kj2 =>
   have H := HA.out
   clear HA
   simp only [clerestoryref1_domName.j0] at H
   refine iV H ?p5 ?n5 <;> clear H
   case' p5 => intro c5 H; subst c5
   case' n5 => intro c5 H; subst c5
   case p5 =>
    obtain rfl := Option.some.inj H
    go_wp2
    go_ret
    exact ⟨by first | rfl | (simp; done) | (simp [*]; done), by repeat (first | exact Drawn0.refl _ | apply Drawn0.step)⟩
   case n5 =>
    have H' := aS H
    clear H
    go_wp2
    go_loopg [5] kj2 (fun kq v5 w' => ∃ (x5_2 : Int), v5 = .int .i64 x5_2 ∧ Aside0 (clerestoryref1_domName.l0 kq a0 a1 x5_2 = some r) ∧ Aside0 (kq ≤ kj2) ∧ Drawn0 w w')
    case atStart => exact ⟨(0), (by first | rfl | (simp; done) | simp [*]), H', ⟨Nat.le_refl _⟩, by repeat (first | exact Drawn0.refl _ | apply Drawn0.step)⟩
    case round =>
     clear H'
     obtain ⟨x5_2, rfl, HA, HK2, ⟨m2, rfl⟩⟩ := hrel
     cases gk with
     | zero => exact absurd HA.out (by simp [clerestoryref1_domName.l0])
     | succ k2 =>
      have H := HA.out
      clear HA
      simp only [clerestoryref1_domName.l0] at H
      refine iT H ?p6 ?n6 <;> clear H
      case' p6 => intro c6b0 H; refine iLp H ?_; clear H; intro c7b0 H
      case' n6 => intro c6b0 H
      case p6 =>
       have HC9 := aS H
       clear H
       have p8 : 0 ≤ (x5_2 : Int) := od (by first | (with_reducible assumption) | assumption)
       have q8 : x5_2 < (a0.size : Int) := od (by first | (with_reducible assumption) | assumption)
       have hx8 := bt_at a0 x5_2
       replace p8 := eq_true p8
       replace q8 := eq_true q8
       go_upto_region 7 with (fail)
       go_cut [7] (fun v7 wc => ∃ (kq : Nat) (x7_8 : Bool), v7 = .bool x7_8 ∧ Aside0 (clerestoryref1_domName.j2 kq a0 a1 x5_2 (bt a0 x5_2) x7_8 = some r) ∧ Aside0 (kq ≤ k2) ∧ Drawn0 w wc)
       case first =>
        have H := HC9.out
        clear HC9
        refine iL H ?p10 ?n10 <;> clear H
        case' p10 => intro c10b0 H
        case' n10 => intro c10b0 H
        case p10 =>
         (first | rw [c10b0] | (simp only [q0d, q0e]; rw [c10b0]) | skip)
         have H' := aS H
         clear H
         go_wp2
         go_meet
         case rel => exact ⟨_, (decide ((bt a0 x5_2) ≤ 122)), (by first | rfl | (simp; done) | simp [*]), H', ⟨by have := HJ2.out; have := HK2.out; first | omega | exact Nat.le_refl _⟩, by repeat (first | exact Drawn0.refl _ | apply Drawn0.step)⟩
        case n10 =>
         (first | rw [c10b0] | (simp only [q0d, q0e]; rw [c10b0]) | skip)
         have H' := aS H
         clear H
         go_wp2
         go_meet
         case rel => exact ⟨_, _, (by first | rfl | (simp; done) | simp [*]), H', ⟨by have := HJ2.out; have := HK2.out; first | omega | exact Nat.le_refl _⟩, by repeat (first | exact Drawn0.refl _ | apply Drawn0.step)⟩
       case rest =>
        clear HC9
        obtain ⟨kq, x7_8, rfl, HA, HJ8, ⟨mc8, rfl⟩⟩ := hcut
        cases kq with
        | zero => exact absurd HA.out (by simp [clerestoryref1_domName.j2])
        | succ kj8 =>
         have H := HA.out
         clear HA
         simp only [clerestoryref1_domName.j2] at H
         have HC11 := aS H
         clear H
         go_upto_region 8 with (fail)
         go_cut [53] (fun v53 wc => ∃ (kq : Nat) (x53_10 : Bool), v53 = .bool x53_10 ∧ Aside0 (clerestoryref1_domName.j3 kq a0 a1 x5_2 (bt a0 x5_2) x7_8 x53_10 = some r) ∧ Aside0 (kq ≤ kj8) ∧ Drawn0 w wc)
         case first =>
          have H := HC11.out
          clear HC11
          refine iV H ?p12 ?n12 <;> clear H
          case' p12 => intro c12 H; subst c12
          case' n12 => intro c12 H; subst c12; refine iL H ?p13 ?n13 <;> clear H
          case' p13 => intro c13b0 H; (first | rw [c13b0] | (simp only [q0d, q0e]; rw [c13b0]) | skip); refine iL H ?p14 ?n14 <;> clear H
          case' p14 => intro c14b0 H
          case' n14 => intro c14b0 H; refine iE H ?p15 ?n15 <;> clear H
          case' p15 => intro c15b0 c15b1 H
          case' n15 => intro c15 c15b0 c15b1 H; refine iE H ?p16 ?n16 <;> clear H
          case' p16 => intro c16b0 c16b1 H
          case' n16 => intro c16 c16b0 c16b1 H
          case' n13 => intro c13b0 H; (first | rw [c13b0] | (simp only [q0d, q0e]; rw [c13b0]) | skip); refine iE H ?p17 ?n17 <;> clear H
          case' p17 => intro c17b0 c17b1 H
          case' n17 => intro c17 c17b0 c17b1 H; refine iE H ?p18 ?n18 <;> clear H
          case' p18 => intro c18b0 c18b1 H
          case' n18 => intro c18 c18b0 c18b1 H
          case p12|p14|p15|p16|p17|p18 =>
           have H' := aS H
           clear H
           go_wp2
           go_meet
           case rel => exact ⟨_, _, (by first | rfl | (simp; done) | simp [*]), H', ⟨by have := HJ2.out; have := HK2.out; have := HJ8.out; first | omega | exact Nat.le_refl _⟩, by repeat (first | exact Drawn0.refl _ | apply Drawn0.step)⟩
          case n16|n18 =>
           have H' := aS H
           clear H
           go_wp2
           go_meet
           case rel => exact ⟨_, (((bt a0 x5_2) != 58)), (by first | rfl | (simp; done) | simp [*]), H', ⟨by have := HJ2.out; have := HK2.out; have := HJ8.out; first | omega | exact Nat.le_refl _⟩, by repeat (first | exact Drawn0.refl _ | apply Drawn0.step)⟩
         case rest =>
          clear HC11
          obtain ⟨kq, x53_10, rfl, HA, HJ10, ⟨mc10, rfl⟩⟩ := hcut
          cases kq with
          | zero => exact absurd HA.out (by simp [clerestoryref1_domName.j3])
          | succ kj10 =>
           have H := HA.out
           clear HA
           simp only [clerestoryref1_domName.j3] at H
           refine iV H ?p19 ?n19 <;> clear H
           case' p19 => intro c19 H; subst c19
           case' n19 => intro c19 H; subst c19; refine iE H ?p20 ?n20 <;> clear H
           case' p20 => intro c20b0 c20b1 H; refine iV H ?p21 ?n21 <;> clear H
           case' p21 => intro c21 H; subst c21
           case' n21 => intro c21 H; subst c21; refine iV H ?p22 ?n22 <;> clear H
           case' p22 => intro c22 H; subst c22
           case' n22 => intro c22 H; subst c22; refine iE H ?p23 ?n23 <;> clear H
           case' p23 => intro c23b0 c23b1 H
           case' n23 => intro c23 c23b0 c23b1 H; refine iE H ?p24 ?n24 <;> clear H
           case' p24 => intro c24b0 c24b1 H
           case' n24 => intro c24 c24b0 c24b1 H
           case' n20 => intro c20 c20b0 c20b1 H
           case p19|p22|n24 =>
            obtain rfl := Option.some.inj H
            go_wp2
            go_ret
            exact ⟨by first | rfl | (simp; done) | (simp [*]; done), by repeat (first | exact Drawn0.refl _ | apply Drawn0.step)⟩
           case p21|p23|p24|n20 =>
            have H' := aS H
            clear H
            go_wp2
            go_roundg kj10
            case measure => have := HJ2.out; have := HK2.out; have := HJ8.out; have := HJ10.out; omega
            case rel => exact ⟨(wrap64 (x5_2 + 1)), (by first | rfl | (simp; done) | simp [*]), H', ⟨by have := HJ2.out; have := HK2.out; have := HJ8.out; have := HJ10.out; omega⟩, by repeat (first | exact Drawn0.refl _ | apply Drawn0.step)⟩
      case n6 =>
       obtain rfl := Option.some.inj H
       go_wp2
       go_ret
       exact ⟨by first | rfl | (simp; done) | (simp [*]; done), by repeat (first | exact Drawn0.refl _ | apply Drawn0.step)⟩
end Go.Proofs.YthjnallbbhnndaaDoor.XWp
namespace Go.Proofs.YthjnallbbhnndaaDoor.XWp
open Go.Proofs.YthjnallbbhnndaaDoor.Short Go.RowKit Go.Proofs.YthjnallbbhnndaaDoorW.PrintWords Go.Proofs.YthjnallbbhnndaaDoorW.PrintLast Go.Proofs.YthjnallbbhnndaaDoorW.PrintMore
attribute [local go_sem] q15 q13 q1i q1h q0x q0w q14 q12   -- for this text's walks alone
set_option linter.unusedVariables false
set_option linter.unusedSimpArgs false
mutual
def clerestoryref1_NodeErr.j0 : Nat → Bool → Int → ByteArray → List (S122) → ByteArray → Int → List Int → Option (Int)
 | 0, _, _, _, _, _, _, _ => none
 | k + 1, x59, x114000, x114001, x114002, x114003, x114004, x114005 => if x59 = true then (some 7) else (if x114000 = 2 then ((clerestoryref1_domName.f k x114001 true).bind fun t115 => (clerestoryref1_NodeErr.j1 k (!t115) x114000 x114001 x114002 x114003 x114004 x114005)) else (clerestoryref1_NodeErr.j1 k false x114000 x114001 x114002 x114003 x114004 x114005))
def clerestoryref1_NodeErr.j1 : Nat → Bool → Int → ByteArray → List (S122) → ByteArray → Int → List Int → Option (Int)
 | 0, _, _, _, _, _, _, _ => none
 | k + 1, x68, x114000, x114001, x114002, x114003, x114004, x114005 => if x68 = true then (some 3) else (if (x114002.length : Int) > 12 then (some 2) else (clerestoryref1_NodeErr.l0 k 0 x114000 x114001 x114002 x114003 x114004 x114005))
def clerestoryref1_NodeErr.l0 : Nat → Int → Int → ByteArray → List (S122) → ByteArray → Int → List Int → Option (Int)
 | 0, _, _, _, _, _, _, _ => none
 | k + 1, x3, x114000, x114001, x114002, x114003, x114004, x114005 => if x3 < (x114002.length : Int) then (if 0 ≤ x3 then ((clerestoryref1_domName.f k ((q0f x114002 x3).f0) false).bind fun t117 => (if t117 = true then (if (((q0f x114002 x3).f1).size : Int) > 400 then (some 2) else (if x3 ≤ (x114002.length : Int) then ((clerestoryref1_AttrOf.f k (x114002.take (x3 : Int).toNat) ((q0f x114002 x3).f0)).bind fun bt124 => (if bt124.2 = true then (some 3) else (clerestoryref1_NodeErr.l0 k (wrap64 (x3 + 1)) x114000 x114001 x114002 x114003 x114004 x114005))) else (none))) else (some 3))) else (none)) else (if (x114003.size : Int) > 400 then (some 2) else (if (x114001.size : Int) > 400 then (some 2) else (some 0)))
end
def clerestoryref1_NodeErr.f (k : Nat) (a0_0 : Int) (a0_1 : ByteArray) (l0_2 : List (S122)) (a0_3 : ByteArray) (a0_4 : Int) (l0_5 : List Int) : Option (Int) := (clerestoryref1_between.f a0_0 1 5).bind fun t114 => (if t114 = true then (if a0_1.toList = ([] : List UInt8) then (if (l0_2.length : Int) > 0 then (if a0_0 = 2 then (if a0_3.toList = ([] : List UInt8) then (if (l0_5.length : Int) > 0 then (clerestoryref1_NodeErr.j0 k (decide (a0_0 > 2)) a0_0 a0_1 l0_2 a0_3 a0_4 l0_5) else (clerestoryref1_NodeErr.j0 k false a0_0 a0_1 l0_2 a0_3 a0_4 l0_5)) else (if a0_0 = 3 then (if (l0_5.length : Int) > 0 then (clerestoryref1_NodeErr.j0 k (decide (a0_0 > 2)) a0_0 a0_1 l0_2 a0_3 a0_4 l0_5) else (clerestoryref1_NodeErr.j0 k false a0_0 a0_1 l0_2 a0_3 a0_4 l0_5)) else (if a0_0 = 4 then (if (l0_5.length : Int) > 0 then (clerestoryref1_NodeErr.j0 k (decide (a0_0 > 2)) a0_0 a0_1 l0_2 a0_3 a0_4 l0_5) else (clerestoryref1_NodeErr.j0 k false a0_0 a0_1 l0_2 a0_3 a0_4 l0_5)) else (clerestoryref1_NodeErr.j0 k true a0_0 a0_1 l0_2 a0_3 a0_4 l0_5)))) else (clerestoryref1_NodeErr.j0 k true a0_0 a0_1 l0_2 a0_3 a0_4 l0_5)) else (if a0_3.toList = ([] : List UInt8) then (if (l0_5.length : Int) > 0 then (clerestoryref1_NodeErr.j0 k (decide (a0_0 > 2)) a0_0 a0_1 l0_2 a0_3 a0_4 l0_5) else (clerestoryref1_NodeErr.j0 k false a0_0 a0_1 l0_2 a0_3 a0_4 l0_5)) else (if a0_0 = 3 then (if (l0_5.length : Int) > 0 then (clerestoryref1_NodeErr.j0 k (decide (a0_0 > 2)) a0_0 a0_1 l0_2 a0_3 a0_4 l0_5) else (clerestoryref1_NodeErr.j0 k false a0_0 a0_1 l0_2 a0_3 a0_4 l0_5)) else (if a0_0 = 4 then (if (l0_5.length : Int) > 0 then (clerestoryref1_NodeErr.j0 k (decide (a0_0 > 2)) a0_0 a0_1 l0_2 a0_3 a0_4 l0_5) else (clerestoryref1_NodeErr.j0 k false a0_0 a0_1 l0_2 a0_3 a0_4 l0_5)) else (clerestoryref1_NodeErr.j0 k true a0_0 a0_1 l0_2 a0_3 a0_4 l0_5))))) else (if a0_0 = 2 then (if (l0_2.length : Int) > 0 then (if a0_3.toList = ([] : List UInt8) then (if (l0_5.length : Int) > 0 then (clerestoryref1_NodeErr.j0 k (decide (a0_0 > 2)) a0_0 a0_1 l0_2 a0_3 a0_4 l0_5) else (clerestoryref1_NodeErr.j0 k false a0_0 a0_1 l0_2 a0_3 a0_4 l0_5)) else (if a0_0 = 3 then (if (l0_5.length : Int) > 0 then (clerestoryref1_NodeErr.j0 k (decide (a0_0 > 2)) a0_0 a0_1 l0_2 a0_3 a0_4 l0_5) else (clerestoryref1_NodeErr.j0 k false a0_0 a0_1 l0_2 a0_3 a0_4 l0_5)) else (if a0_0 = 4 then (if (l0_5.length : Int) > 0 then (clerestoryref1_NodeErr.j0 k (decide (a0_0 > 2)) a0_0 a0_1 l0_2 a0_3 a0_4 l0_5) else (clerestoryref1_NodeErr.j0 k false a0_0 a0_1 l0_2 a0_3 a0_4 l0_5)) else (clerestoryref1_NodeErr.j0 k true a0_0 a0_1 l0_2 a0_3 a0_4 l0_5)))) else (if a0_3.toList = ([] : List UInt8) then (if (l0_5.length : Int) > 0 then (clerestoryref1_NodeErr.j0 k (decide (a0_0 > 2)) a0_0 a0_1 l0_2 a0_3 a0_4 l0_5) else (clerestoryref1_NodeErr.j0 k false a0_0 a0_1 l0_2 a0_3 a0_4 l0_5)) else (if a0_0 = 3 then (if (l0_5.length : Int) > 0 then (clerestoryref1_NodeErr.j0 k (decide (a0_0 > 2)) a0_0 a0_1 l0_2 a0_3 a0_4 l0_5) else (clerestoryref1_NodeErr.j0 k false a0_0 a0_1 l0_2 a0_3 a0_4 l0_5)) else (if a0_0 = 4 then (if (l0_5.length : Int) > 0 then (clerestoryref1_NodeErr.j0 k (decide (a0_0 > 2)) a0_0 a0_1 l0_2 a0_3 a0_4 l0_5) else (clerestoryref1_NodeErr.j0 k false a0_0 a0_1 l0_2 a0_3 a0_4 l0_5)) else (clerestoryref1_NodeErr.j0 k true a0_0 a0_1 l0_2 a0_3 a0_4 l0_5))))) else (if a0_0 = 5 then (if (l0_2.length : Int) > 0 then (clerestoryref1_NodeErr.j0 k true a0_0 a0_1 l0_2 a0_3 a0_4 l0_5) else (if a0_3.toList = ([] : List UInt8) then (if (l0_5.length : Int) > 0 then (clerestoryref1_NodeErr.j0 k (decide (a0_0 > 2)) a0_0 a0_1 l0_2 a0_3 a0_4 l0_5) else (clerestoryref1_NodeErr.j0 k false a0_0 a0_1 l0_2 a0_3 a0_4 l0_5)) else (if a0_0 = 3 then (if (l0_5.length : Int) > 0 then (clerestoryref1_NodeErr.j0 k (decide (a0_0 > 2)) a0_0 a0_1 l0_2 a0_3 a0_4 l0_5) else (clerestoryref1_NodeErr.j0 k false a0_0 a0_1 l0_2 a0_3 a0_4 l0_5)) else (if a0_0 = 4 then (if (l0_5.length : Int) > 0 then (clerestoryref1_NodeErr.j0 k (decide (a0_0 > 2)) a0_0 a0_1 l0_2 a0_3 a0_4 l0_5) else (clerestoryref1_NodeErr.j0 k false a0_0 a0_1 l0_2 a0_3 a0_4 l0_5)) else (clerestoryref1_NodeErr.j0 k true a0_0 a0_1 l0_2 a0_3 a0_4 l0_5))))) else (clerestoryref1_NodeErr.j0 k true a0_0 a0_1 l0_2 a0_3 a0_4 l0_5)))) else (some 7))
theorem clerestoryref1_NodeErr.mono_l : ∀ k, (∀ y0 y1 y2 y3 y4 y5 y6, LeO (clerestoryref1_NodeErr.j0 k y0 y1 y2 y3 y4 y5 y6) (clerestoryref1_NodeErr.j0 (k + 1) y0 y1 y2 y3 y4 y5 y6)) ∧ (∀ y0 y1 y2 y3 y4 y5 y6, LeO (clerestoryref1_NodeErr.j1 k y0 y1 y2 y3 y4 y5 y6) (clerestoryref1_NodeErr.j1 (k + 1) y0 y1 y2 y3 y4 y5 y6)) ∧ (∀ y0 y1 y2 y3 y4 y5 y6, LeO (clerestoryref1_NodeErr.l0 k y0 y1 y2 y3 y4 y5 y6) (clerestoryref1_NodeErr.l0 (k + 1) y0 y1 y2 y3 y4 y5 y6))
 | 0 => ⟨fun _ _ _ _ _ _ _ r h => by simp [clerestoryref1_NodeErr.j0] at h, fun _ _ _ _ _ _ _ r h => by simp [clerestoryref1_NodeErr.j1] at h, fun _ _ _ _ _ _ _ r h => by simp [clerestoryref1_NodeErr.l0] at h⟩
 | k + 1 => by
  obtain ⟨ih0, ih1, ih2⟩ := clerestoryref1_NodeErr.mono_l k
  refine ⟨?_, ?_, ?_⟩
  all_goals intros
  all_goals (first | unfold clerestoryref1_NodeErr.j0 | unfold clerestoryref1_NodeErr.j1 | unfold clerestoryref1_NodeErr.l0)
  all_goals (repeat' first | with_reducible first | apply ih0 | apply ih1 | apply ih2 | apply clerestoryref1_AttrOf.mono | apply clerestoryref1_domName.mono | exact LeO.refl _ | exact LeO.none _ | refine LeO.ite ?_ ?_ | refine LeO.bind ?_ (fun _ => ?_) | (first | apply ih0 | apply ih1 | apply ih2 | apply clerestoryref1_AttrOf.mono | apply clerestoryref1_domName.mono | exact LeO.none _ | refine LeO.ite ?_ ?_ | refine LeO.bind ?_ (fun _ => ?_)))
theorem clerestoryref1_NodeErr.mono : ∀ a0 a1 a2 a3 a4 a5 k, LeO (clerestoryref1_NodeErr.f k a0 a1 a2 a3 a4 a5) (clerestoryref1_NodeErr.f (k + 1) a0 a1 a2 a3 a4 a5) := by
 intro a0 a1 a2 a3 a4 a5 k
 obtain ⟨ih0, ih1, ih2⟩ := clerestoryref1_NodeErr.mono_l k
 unfold clerestoryref1_NodeErr.f
 repeat' first | with_reducible first | apply ih0 | apply ih1 | apply ih2 | apply clerestoryref1_AttrOf.mono | apply clerestoryref1_domName.mono | exact LeO.refl _ | exact LeO.none _ | refine LeO.ite ?_ ?_ | refine LeO.bind ?_ (fun _ => ?_) | (first | apply ih0 | apply ih1 | apply ih2 | apply clerestoryref1_AttrOf.mono | apply clerestoryref1_domName.mono | exact LeO.none _ | refine LeO.ite ?_ ?_ | refine LeO.bind ?_ (fun _ => ?_))
set_option maxHeartbeats 8000000 in
set_option maxRecDepth 100000 in
theorem clerestoryref1_NodeErr.calls (k : Nat) (a0_0 : Int) (a0_1 : ByteArray) (A0_2 : Option Addr) (c0_2 : Nat) (l0_2 : List (S122)) (a0_3 : ByteArray) (a0_4 : Int) (A0_5 : Option Addr) (c0_5 : Nat) (l0_5 : List Int) (r : Int) (w : World) (hr0_2 : Kd.C k122 w A0_2 l0_2.length l0_2) (hc0_2 : l0_2.length ≤ c0_2) (hr0_5 : Kd.C (Kd.int .i64) w A0_5 l0_5.length l0_5) (hc0_5 : l0_5.length ≤ c0_5) (h : clerestoryref1_NodeErr.f k a0_0 a0_1 l0_2 a0_3 a0_4 l0_5 = some r) :
 Calls Tryd.prog 72 #[.agg #[.int .i64 a0_0, .string a0_1, .slice A0_2 l0_2.length c0_2, .string a0_3, .int .i64 a0_4, .slice A0_5 l0_5.length c0_5]] w fun e w' => e = .returned (.int .i64 r) ∧ Below w.heap.size w w' := by
 have hu43 := Tryd.underlying43
 have HR0_2 := aS hr0_2
 have HC0_2 := aS hc0_2
 clear hr0_2 hc0_2
 have HR0_5 := aS hr0_5
 have HC0_5 := aS hc0_5
 clear hr0_5 hc0_5
 have HB := aS (Below.refl w.heap.size w)
 have H := h; clear h; unfold clerestoryref1_NodeErr.f at H
 replace H := iB H
 obtain ⟨t114, A2, H⟩ := H
 refine iV H ?p3 ?n3 <;> clear H
 case' p3 => intro c3 H; subst c3
 case' n3 => intro c3 H; subst c3
 case p3 =>
  have HC4 := aS H
  clear H
  go_enter Tryd.func72, Tryd.ntmps72
  go_upto_region 3 with (first | ((with_reducible refine q0c (N := 1) rfl ?_); (try (refine q0z (by rfl) ?_; dsimp only)); refine box0 rfl (N := 1) rfl (cs := #[.int .i64 a0_0, .string a0_1, .slice A0_2 l0_2.length c0_2, .string a0_3, .int .i64 a0_4, .slice A0_5 l0_5.length c0_5]) (t := 43) (by first | (go_simp; done) | (go_simp; rfl)) (by repeat (first | (with_reducible first | exact HB.out | apply bA | apply bN | apply bD) | exact HB.out)) ?_; clear HB; intro gb113 w5 BK113 GW113 HB; have GE113 := GW113; obtain ⟨hczL_0, hczL_1, hczL_2, hczL_3, hczL_4, hczL_5, hfzL_0, hfzL_1, hfzL_2, hfzL_3, hfzL_4, hfzL_5⟩ := bk6 BK113.out) | (go_at_call 73; (with_reducible refine (clerestoryref1_between.calls a0_0 1 5 true _ A2.out).mono ?_); rintro e w' ⟨rfl, ⟨nd, rfl⟩⟩; (try first | exact ⟨rfl, _, World.drewN_drewN _ _ _⟩ | exact ⟨rfl, _, Eq.trans (World.drewN_drewN _ _ _) (congrArg (World.drewN _) (Nat.add_assoc _ _ _))⟩)))
  repeat (go_quiet (first | ((with_reducible refine q0c (N := 1) rfl ?_); (try (refine q0z (by rfl) ?_; dsimp only)); refine box0 rfl (N := 1) rfl (cs := #[.int .i64 a0_0, .string a0_1, .slice A0_2 l0_2.length c0_2, .string a0_3, .int .i64 a0_4, .slice A0_5 l0_5.length c0_5]) (t := 43) (by first | (go_simp; done) | (go_simp; rfl)) (by repeat (first | (with_reducible first | exact HB.out | apply bA | apply bN | apply bD) | exact HB.out)) ?_; clear HB; intro gb113 w5 BK113 GW113 HB; have GE113 := GW113; obtain ⟨hczL_0, hczL_1, hczL_2, hczL_3, hczL_4, hczL_5, hfzL_0, hfzL_1, hfzL_2, hfzL_3, hfzL_4, hfzL_5⟩ := bk6 BK113.out) | (go_at_call 73; (with_reducible refine (clerestoryref1_between.calls a0_0 1 5 true _ A2.out).mono ?_); rintro e w' ⟨rfl, ⟨nd, rfl⟩⟩; (try first | exact ⟨rfl, _, World.drewN_drewN _ _ _⟩ | exact ⟨rfl, _, Eq.trans (World.drewN_drewN _ _ _) (congrArg (World.drewN _) (Nat.add_assoc _ _ _))⟩))); go_upto_region 3 with (first | ((with_reducible refine q0c (N := 1) rfl ?_); (try (refine q0z (by rfl) ?_; dsimp only)); refine box0 rfl (N := 1) rfl (cs := #[.int .i64 a0_0, .string a0_1, .slice A0_2 l0_2.length c0_2, .string a0_3, .int .i64 a0_4, .slice A0_5 l0_5.length c0_5]) (t := 43) (by first | (go_simp; done) | (go_simp; rfl)) (by repeat (first | (with_reducible first | exact HB.out | apply bA | apply bN | apply bD) | exact HB.out)) ?_; clear HB; intro gb113 w5 BK113 GW113 HB; have GE113 := GW113; obtain ⟨hczL_0, hczL_1, hczL_2, hczL_3, hczL_4, hczL_5, hfzL_0, hfzL_1, hfzL_2, hfzL_3, hfzL_4, hfzL_5⟩ := bk6 BK113.out) | (go_at_call 73; (with_reducible refine (clerestoryref1_between.calls a0_0 1 5 true _ A2.out).mono ?_); rintro e w' ⟨rfl, ⟨nd, rfl⟩⟩; (try first | exact ⟨rfl, _, World.drewN_drewN _ _ _⟩ | exact ⟨rfl, _, Eq.trans (World.drewN_drewN _ _ _) (congrArg (World.drewN _) (Nat.add_assoc _ _ _))⟩))))
  (try simp only [Act.put, s1, s2, s3])
  go_cut [59] (fun v59 wc => ∃ (kq : Nat) (x59_3 : Bool), v59 = .bool x59_3 ∧ Aside0 (clerestoryref1_NodeErr.j0 kq x59_3 a0_0 a0_1 l0_2 a0_3 a0_4 l0_5 = some r) ∧ Aside0 (kq ≤ k) ∧ Aside0 (wc.heap[gb113]? = some (.cells #[.int .i64 a0_0, .string a0_1, (.slice A0_2 l0_2.length c0_2), .string a0_3, .int .i64 a0_4, (.slice A0_5 l0_5.length c0_5)] 43 (0, 0))) ∧ Aside0 (Below w.heap.size w wc))
  case first =>
   have H := HC4.out
   clear HC4
   obtain ⟨hczL_0, hczL_1, hczL_2, hczL_3, hczL_4, hczL_5, hfzL_0, hfzL_1, hfzL_2, hfzL_3, hfzL_4, hfzL_5⟩ := bk6 BK113.out
   refine iE H ?p7 ?n7 <;> clear H
   case' p7 => intro c7b0 c7b1 H; (first | rw [c7b0] | (simp only [q0d, q0e]; rw [c7b0]) | skip); refine iTN (m := 0) (n := l0_2.length) H rfl rfl ?p8 ?n8 <;> clear H
   case' p8 => intro c8b0 c8b1 H; refine iE H ?p9 ?n9 <;> clear H
   case' p9 => intro c9b0 c9b1 H; refine iE H ?p10 ?n10 <;> clear H
   case' p10 => intro c10b0 c10b1 H; refine iTN (m := 0) (n := l0_5.length) H rfl rfl ?p11 ?n11 <;> clear H
   case' p11 => intro c11b0 c11b1 H
   case' n11 => intro c11b0 c11b1 H
   case' n10 => intro c10 c10b0 c10b1 H; refine iE H ?p14 ?n14 <;> clear H
   case' p14 => intro c14b0 c14b1 H; refine iTN (m := 0) (n := l0_5.length) H rfl rfl ?p15 ?n15 <;> clear H
   case' p15 => intro c15b0 c15b1 H
   case' n15 => intro c15b0 c15b1 H
   case' n14 => intro c14 c14b0 c14b1 H; refine iE H ?p18 ?n18 <;> clear H
   case' p18 => intro c18b0 c18b1 H; refine iTN (m := 0) (n := l0_5.length) H rfl rfl ?p19 ?n19 <;> clear H
   case' p19 => intro c19b0 c19b1 H
   case' n19 => intro c19b0 c19b1 H
   case' n18 => intro c18 c18b0 c18b1 H
   case' n9 => intro c9 c9b0 c9b1 H
   case' n8 => intro c8b0 c8b1 H; refine iE H ?p24 ?n24 <;> clear H
   case' p24 => intro c24b0 c24b1 H; refine iTN (m := 0) (n := l0_5.length) H rfl rfl ?p25 ?n25 <;> clear H
   case' p25 => intro c25b0 c25b1 H
   case' n25 => intro c25b0 c25b1 H
   case' n24 => intro c24 c24b0 c24b1 H; refine iE H ?p28 ?n28 <;> clear H
   case' p28 => intro c28b0 c28b1 H; refine iTN (m := 0) (n := l0_5.length) H rfl rfl ?p29 ?n29 <;> clear H
   case' p29 => intro c29b0 c29b1 H
   case' n29 => intro c29b0 c29b1 H
   case' n28 => intro c28 c28b0 c28b1 H; refine iE H ?p32 ?n32 <;> clear H
   case' p32 => intro c32b0 c32b1 H; refine iTN (m := 0) (n := l0_5.length) H rfl rfl ?p33 ?n33 <;> clear H
   case' p33 => intro c33b0 c33b1 H
   case' n33 => intro c33b0 c33b1 H
   case' n32 => intro c32 c32b0 c32b1 H
   case' n7 => intro c7 c7b0 c7b1 H; (first | rw [c7b0] | (simp only [q0d, q0e]; rw [c7b0]) | skip); refine iE H ?p37 ?n37 <;> clear H
   case' p37 => intro c37b0 c37b1 H; refine iTN (m := 0) (n := l0_2.length) H rfl rfl ?p38 ?n38 <;> clear H
   case' p38 => intro c38b0 c38b1 H; refine iE H ?p39 ?n39 <;> clear H
   case' p39 => intro c39b0 c39b1 H; refine iTN (m := 0) (n := l0_5.length) H rfl rfl ?p40 ?n40 <;> clear H
   case' p40 => intro c40b0 c40b1 H
   case' n40 => intro c40b0 c40b1 H
   case' n39 => intro c39 c39b0 c39b1 H; refine iE H ?p43 ?n43 <;> clear H
   case' p43 => intro c43b0 c43b1 H; refine iTN (m := 0) (n := l0_5.length) H rfl rfl ?p44 ?n44 <;> clear H
   case' p44 => intro c44b0 c44b1 H
   case' n44 => intro c44b0 c44b1 H
   case' n43 => intro c43 c43b0 c43b1 H; refine iE H ?p47 ?n47 <;> clear H
   case' p47 => intro c47b0 c47b1 H; refine iTN (m := 0) (n := l0_5.length) H rfl rfl ?p48 ?n48 <;> clear H
   case' p48 => intro c48b0 c48b1 H
   case' n48 => intro c48b0 c48b1 H
   case' n47 => intro c47 c47b0 c47b1 H
   case' n38 => intro c38b0 c38b1 H; refine iE H ?p52 ?n52 <;> clear H
   case' p52 => intro c52b0 c52b1 H; refine iTN (m := 0) (n := l0_5.length) H rfl rfl ?p53 ?n53 <;> clear H
   case' p53 => intro c53b0 c53b1 H
   case' n53 => intro c53b0 c53b1 H
   case' n52 => intro c52 c52b0 c52b1 H; refine iE H ?p56 ?n56 <;> clear H
   case' p56 => intro c56b0 c56b1 H; refine iTN (m := 0) (n := l0_5.length) H rfl rfl ?p57 ?n57 <;> clear H
   case' p57 => intro c57b0 c57b1 H
   case' n57 => intro c57b0 c57b1 H
   case' n56 => intro c56 c56b0 c56b1 H; refine iE H ?p60 ?n60 <;> clear H
   case' p60 => intro c60b0 c60b1 H; refine iTN (m := 0) (n := l0_5.length) H rfl rfl ?p61 ?n61 <;> clear H
   case' p61 => intro c61b0 c61b1 H
   case' n61 => intro c61b0 c61b1 H
   case' n60 => intro c60 c60b0 c60b1 H
   case' n37 => intro c37 c37b0 c37b1 H; refine iE H ?p65 ?n65 <;> clear H
   case' p65 => intro c65b0 c65b1 H; refine iTN (m := 0) (n := l0_2.length) H rfl rfl ?p66 ?n66 <;> clear H
   case' p66 => intro c66b0 c66b1 H
   case' n66 => intro c66b0 c66b1 H; refine iE H ?p68 ?n68 <;> clear H
   case' p68 => intro c68b0 c68b1 H; refine iTN (m := 0) (n := l0_5.length) H rfl rfl ?p69 ?n69 <;> clear H
   case' p69 => intro c69b0 c69b1 H
   case' n69 => intro c69b0 c69b1 H
   case' n68 => intro c68 c68b0 c68b1 H; refine iE H ?p72 ?n72 <;> clear H
   case' p72 => intro c72b0 c72b1 H; refine iTN (m := 0) (n := l0_5.length) H rfl rfl ?p73 ?n73 <;> clear H
   case' p73 => intro c73b0 c73b1 H
   case' n73 => intro c73b0 c73b1 H
   case' n72 => intro c72 c72b0 c72b1 H; refine iE H ?p76 ?n76 <;> clear H
   case' p76 => intro c76b0 c76b1 H; refine iTN (m := 0) (n := l0_5.length) H rfl rfl ?p77 ?n77 <;> clear H
   case' p77 => intro c77b0 c77b1 H
   case' n77 => intro c77b0 c77b1 H
   case' n76 => intro c76 c76b0 c76b1 H
   case' n65 => intro c65 c65b0 c65b1 H
   case p11|n11|p15|n15|p19|n19|n18|n9|p25|n25|p29|n29|p33|n33|n32|p40|n40|p44|n44|p48|n48|n47|p53|n53|p57|n57|p61|n61|n60|p66|p69|n69|p73|n73|p77|n77|n76|n65 =>
    have H' := aS H
    clear H
    go_wp2
    repeat (go_quiet (fail); try go_wp2)
    go_meet
    case rel => exact ⟨_, _, (by first | rfl | (simp; done) | simp [*]), H', ⟨by first | omega | exact Nat.le_refl _⟩, ⟨by (with_reducible repeat (first | refine kN ?_ _ | refine kD ?_ | refine kA ?_ _)); exact BK113.out⟩, ⟨by repeat (first | (with_reducible first | exact HB.out | apply bA | apply bN | apply bD | refine bS ?_ GE113.out) | exact HB.out)⟩⟩
  case rest =>
   clear HC4
   obtain ⟨kq, x59_3, rfl, HA, HJ3, BK113, HB⟩ := hcut
   cases kq with
   | zero => exact absurd HA.out (by simp [clerestoryref1_NodeErr.j0])
   | succ kj3 =>
    have H := HA.out
    clear HA
    simp only [clerestoryref1_NodeErr.j0] at H
    refine iV H ?p82 ?n82 <;> clear H
    case' p82 => intro c82 H; subst c82
    case' n82 => intro c82 H; subst c82
    case p82 =>
     obtain rfl := Option.some.inj H
     go_wp2
     repeat (go_quiet (fail); try go_wp2)
     go_ret
     exact ⟨by first | rfl | (simp [q02, q01] <;> rfl) | (simp [*, q02, q01] <;> rfl), by repeat (first | (with_reducible first | exact HB.out | apply bA | apply bN | apply bD | refine bS ?_ GE113.out) | exact HB.out)⟩
    case n82 =>
     have HC83 := aS H
     clear H
     go_upto_region 5 with (fail)
     repeat (go_quiet (fail); go_upto_region 5 with (fail))
     go_cut [68] (fun v68 wc => ∃ (kq : Nat) (x68_82 : Bool), v68 = .bool x68_82 ∧ Aside0 (clerestoryref1_NodeErr.j1 kq x68_82 a0_0 a0_1 l0_2 a0_3 a0_4 l0_5 = some r) ∧ Aside0 (kq ≤ kj3) ∧ Aside0 (wc.heap[gb113]? = some (.cells #[.int .i64 a0_0, .string a0_1, (.slice A0_2 l0_2.length c0_2), .string a0_3, .int .i64 a0_4, (.slice A0_5 l0_5.length c0_5)] 43 (0, 0))) ∧ Aside0 (Below w.heap.size w wc))
     case first =>
      have H := HC83.out
      clear HC83
      refine iE H ?p84 ?n84 <;> clear H
      case' p84 => intro c84b0 c84b1 H
      case' n84 => intro c84 c84b0 c84b1 H
      case p84 =>
       (first | rw [c84b0] | (simp only [q0d, q0e]; rw [c84b0]) | skip)
       replace H := iB H
       obtain ⟨t115, A85, H⟩ := H
       have H' := aS H
       clear H
       obtain ⟨hczL_0, hczL_1, hczL_2, hczL_3, hczL_4, hczL_5, hfzL_0, hfzL_1, hfzL_2, hfzL_3, hfzL_4, hfzL_5⟩ := bk6 BK113.out
       go_wp2_with (first | (go_at_call 120; (with_reducible refine (clerestoryref1_domName.calls kj3 a0_1 true t115 _ A85.out).mono ?_); rintro e w' ⟨rfl, ⟨nd, rfl⟩⟩; (try first | exact ⟨rfl, _, World.drewN_drewN _ _ _⟩ | exact ⟨rfl, _, Eq.trans (World.drewN_drewN _ _ _) (congrArg (World.drewN _) (Nat.add_assoc _ _ _))⟩)))
       repeat (go_quiet (first | (go_at_call 120; (with_reducible refine (clerestoryref1_domName.calls kj3 a0_1 true t115 _ A85.out).mono ?_); rintro e w' ⟨rfl, ⟨nd, rfl⟩⟩; (try first | exact ⟨rfl, _, World.drewN_drewN _ _ _⟩ | exact ⟨rfl, _, Eq.trans (World.drewN_drewN _ _ _) (congrArg (World.drewN _) (Nat.add_assoc _ _ _))⟩))); try go_wp2_with (first | (go_at_call 120; (with_reducible refine (clerestoryref1_domName.calls kj3 a0_1 true t115 _ A85.out).mono ?_); rintro e w' ⟨rfl, ⟨nd, rfl⟩⟩; (try first | exact ⟨rfl, _, World.drewN_drewN _ _ _⟩ | exact ⟨rfl, _, Eq.trans (World.drewN_drewN _ _ _) (congrArg (World.drewN _) (Nat.add_assoc _ _ _))⟩))))
       go_meet
       case rel => exact ⟨_, (!t115), (by first | rfl | (simp; done) | simp [*]), H', ⟨by have := HJ3.out; first | omega | exact Nat.le_refl _⟩, ⟨by (with_reducible repeat (first | refine kN ?_ _ | refine kD ?_ | refine kA ?_ _)); exact BK113.out⟩, ⟨by repeat (first | (with_reducible first | exact HB.out | apply bA | apply bN | apply bD | refine bS ?_ GE113.out) | exact HB.out)⟩⟩
      case n84 =>
       (first | rw [c84b0] | (simp only [q0d, q0e]; rw [c84b0]) | skip)
       have H' := aS H
       clear H
       obtain ⟨hczL_0, hczL_1, hczL_2, hczL_3, hczL_4, hczL_5, hfzL_0, hfzL_1, hfzL_2, hfzL_3, hfzL_4, hfzL_5⟩ := bk6 BK113.out
       go_wp2
       repeat (go_quiet (fail); try go_wp2)
       go_meet
       case rel => exact ⟨_, _, (by first | rfl | (simp; done) | simp [*]), H', ⟨by have := HJ3.out; first | omega | exact Nat.le_refl _⟩, ⟨by (with_reducible repeat (first | refine kN ?_ _ | refine kD ?_ | refine kA ?_ _)); exact BK113.out⟩, ⟨by repeat (first | (with_reducible first | exact HB.out | apply bA | apply bN | apply bD | refine bS ?_ GE113.out) | exact HB.out)⟩⟩
     case rest =>
      clear HC83
      obtain ⟨kq, x68_82, rfl, HA, HJ82, BK113, HB⟩ := hcut
      cases kq with
      | zero => exact absurd HA.out (by simp [clerestoryref1_NodeErr.j1])
      | succ kj82 =>
       have H := HA.out
       clear HA
       simp only [clerestoryref1_NodeErr.j1] at H
       refine iV H ?p88 ?n88 <;> clear H
       case' p88 => intro c88 H; subst c88
       case' n88 =>
        intro c88 H; subst c88
        obtain ⟨hczL_0, hczL_1, hczL_2, hczL_3, hczL_4, hczL_5, hfzL_0, hfzL_1, hfzL_2, hfzL_3, hfzL_4, hfzL_5⟩ := bk6 BK113.out
        refine iTN (m := 12) (n := l0_2.length) H rfl rfl ?p89 ?n89 <;> clear H
       case' p89 => intro c89b0 c89b1 H
       case' n89 => intro c89b0 c89b1 H
       case p88|p89 =>
        obtain rfl := Option.some.inj H
        go_wp2
        repeat (go_quiet (fail); try go_wp2)
        go_ret
        exact ⟨by first | rfl | (simp [q02, q01] <;> rfl) | (simp [*, q02, q01] <;> rfl), by repeat (first | (with_reducible first | exact HB.out | apply bA | apply bN | apply bD | refine bS ?_ GE113.out) | exact HB.out)⟩
       case n89 =>
        have H' := aS H
        clear H
        go_wp2
        repeat (go_quiet (fail); try go_wp2)
        go_loopg [3] kj82 (fun kq v3 w' => ∃ (x3_3 : Int), v3 = .int .i64 x3_3 ∧ Aside0 (clerestoryref1_NodeErr.l0 kq x3_3 a0_0 a0_1 l0_2 a0_3 a0_4 l0_5 = some r) ∧ Aside0 (kq ≤ kj82) ∧ Aside0 (w'.heap[gb113]? = some (.cells #[.int .i64 a0_0, .string a0_1, (.slice A0_2 l0_2.length c0_2), .string a0_3, .int .i64 a0_4, (.slice A0_5 l0_5.length c0_5)] 43 (0, 0))) ∧ Aside0 (Below w.heap.size w w'))
        case atStart => exact ⟨(0), (by first | rfl | (simp; done) | simp [*]), H', ⟨Nat.le_refl _⟩, ⟨by (with_reducible repeat (first | refine kN ?_ _ | refine kD ?_ | refine kA ?_ _)); exact BK113.out⟩, ⟨by repeat (first | (with_reducible first | exact HB.out | apply bA | apply bN | apply bD | refine bS ?_ GE113.out) | exact HB.out)⟩⟩
        case round =>
         clear H'
         obtain ⟨x3_3, rfl, HA, HK3, BK113, HB⟩ := hrel
         cases gk with
         | zero => exact absurd HA.out (by simp [clerestoryref1_NodeErr.l0])
         | succ k3 =>
          have H := HA.out
          clear HA
          simp only [clerestoryref1_NodeErr.l0] at H
          obtain ⟨hczL_0, hczL_1, hczL_2, hczL_3, hczL_4, hczL_5, hfzL_0, hfzL_1, hfzL_2, hfzL_3, hfzL_4, hfzL_5⟩ := bk6 BK113.out
          refine iT H ?p92 ?n92 <;> clear H
          case' p92 => intro c92b0 H; refine iLp H ?_; clear H; intro c93b0 H; replace H := iB H; obtain ⟨t117, A94, H⟩ := H; refine iV H ?p95 ?n95 <;> clear H
          case' p95 => intro c95 H; subst c95; refine iTN (m := 400) (n := ((q0f l0_2 x3_3).f1).size) H rfl rfl ?p96 ?n96 <;> clear H
          case' p96 => intro c96b0 c96b1 H
          case' n96 =>
           intro c96b0 c96b1 H
           have c98b0 := eq_true (od (by first | (with_reducible assumption) | assumption) : 0 ≤ x3_3)
           refine iGp H ?_; clear H; intro c99 H
           have c99b0 := eq_true c99
           have c99b1 : decide (x3_3 ≤ (l0_2.length : Int)) = true := decide_eq_true c99
           clear c99
           obtain ⟨y119, hy119⟩ : ∃ y_ : List (S122), y_ = (l0_2.take (x3_3 : Int).toNat) := ⟨_, rfl⟩
           replace H : ((clerestoryref1_AttrOf.f k3 y119 ((q0f l0_2 x3_3).f0)).bind fun bt124 => (if bt124.2 = true then (some 3) else (clerestoryref1_NodeErr.l0 k3 (wrap64 (x3_3 + 1)) a0_0 a0_1 l0_2 a0_3 a0_4 l0_5))) = some r := by first | (rw [hy119]; with_reducible exact H) | (have H2_ := (Option.bind_some _ _).symm.trans H; rw [hy119]; with_reducible exact H2_) | (have H2_ := (Option.bind_some _ _).symm.trans H; with_reducible exact H2_) | with_reducible exact H | (rw [hy119]; exact H) | exact H
           have Ny119 := aS hy119
           clear hy119
           replace H := iB H
           obtain ⟨⟨t124, t125⟩, A100, H⟩ := H
           try dsimp only at H
           obtain ⟨ad116, e116, hx116_0, hx116_1, p116, q116⟩ := q0y HB.out HR0_2.out x3_3 (by first | with_reducible assumption | assumption) (by first | with_reducible assumption | assumption)
           cases e116
           refine iV H ?p101 ?n101 <;> clear H
          case' p101 => intro c101 H; subst c101
          case' n101 => intro c101 H; subst c101
          case' n95 => intro c95 H; subst c95
          case' n92 => intro c92b0 H; refine iTN (m := 400) (n := a0_3.size) H rfl rfl ?p107 ?n107 <;> clear H
          case' p107 => intro c107b0 c107b1 H
          case' n107 => intro c107b0 c107b1 H; refine iTN (m := 400) (n := a0_1.size) H rfl rfl ?p109 ?n109 <;> clear H
          case' p109 => intro c109b0 c109b1 H
          case' n109 => intro c109b0 c109b1 H
          case p96 =>
           obtain rfl := Option.some.inj H
           obtain ⟨ad116, e116, hx116_0, hx116_1, p116, q116⟩ := q0y HB.out HR0_2.out x3_3 (by first | with_reducible assumption | assumption) (by first | with_reducible assumption | assumption)
           cases e116
           go_wp2_with (first | (go_at_call 120; (with_reducible refine (clerestoryref1_domName.calls k3 ((q0f l0_2 x3_3).f0) false true _ A94.out).mono ?_); rintro e w' ⟨rfl, ⟨nd, rfl⟩⟩; (try first | exact ⟨rfl, _, World.drewN_drewN _ _ _⟩ | exact ⟨rfl, _, Eq.trans (World.drewN_drewN _ _ _) (congrArg (World.drewN _) (Nat.add_assoc _ _ _))⟩); obtain ⟨ad118, e118, hx118_0, hx118_1, p118, q118⟩ := q0y HB.out HR0_2.out x3_3 (by first | with_reducible assumption | assumption) (by first | with_reducible assumption | assumption); obtain rfl : ad116 = ad118 := (by injection e118)))
           repeat (go_quiet (first | (go_at_call 120; (with_reducible refine (clerestoryref1_domName.calls k3 ((q0f l0_2 x3_3).f0) false true _ A94.out).mono ?_); rintro e w' ⟨rfl, ⟨nd, rfl⟩⟩; (try first | exact ⟨rfl, _, World.drewN_drewN _ _ _⟩ | exact ⟨rfl, _, Eq.trans (World.drewN_drewN _ _ _) (congrArg (World.drewN _) (Nat.add_assoc _ _ _))⟩); obtain ⟨ad118, e118, hx118_0, hx118_1, p118, q118⟩ := q0y HB.out HR0_2.out x3_3 (by first | with_reducible assumption | assumption) (by first | with_reducible assumption | assumption); obtain rfl : ad116 = ad118 := (by injection e118))); try go_wp2_with (first | (go_at_call 120; (with_reducible refine (clerestoryref1_domName.calls k3 ((q0f l0_2 x3_3).f0) false true _ A94.out).mono ?_); rintro e w' ⟨rfl, ⟨nd, rfl⟩⟩; (try first | exact ⟨rfl, _, World.drewN_drewN _ _ _⟩ | exact ⟨rfl, _, Eq.trans (World.drewN_drewN _ _ _) (congrArg (World.drewN _) (Nat.add_assoc _ _ _))⟩); obtain ⟨ad118, e118, hx118_0, hx118_1, p118, q118⟩ := q0y HB.out HR0_2.out x3_3 (by first | with_reducible assumption | assumption) (by first | with_reducible assumption | assumption); obtain rfl : ad116 = ad118 := (by injection e118))))
           go_ret
           exact ⟨by first | rfl | (simp [q02, q01] <;> rfl) | (simp [*, q02, q01] <;> rfl), by repeat (first | (with_reducible first | exact HB.out | apply bA | apply bN | apply bD | refine bS ?_ GE113.out) | exact HB.out)⟩
          case p101 =>
           obtain rfl := Option.some.inj H
           go_wp2_with (first | (go_at_call 120; (with_reducible refine (clerestoryref1_domName.calls k3 ((q0f l0_2 x3_3).f0) false true _ A94.out).mono ?_); rintro e w' ⟨rfl, ⟨nd, rfl⟩⟩; (try first | exact ⟨rfl, _, World.drewN_drewN _ _ _⟩ | exact ⟨rfl, _, Eq.trans (World.drewN_drewN _ _ _) (congrArg (World.drewN _) (Nat.add_assoc _ _ _))⟩); obtain ⟨ad118, e118, hx118_0, hx118_1, p118, q118⟩ := q0y HB.out HR0_2.out x3_3 (by first | with_reducible assumption | assumption) (by first | with_reducible assumption | assumption); obtain rfl : ad116 = ad118 := (by injection e118); have q103 : (x3_3 : Int) ≤ ((l0_2.length : Int) : Int) := od (by first | (with_reducible assumption) | assumption); obtain ⟨i0103, hi0103, _, hsz103, _⟩ := info_parts info122; have hroom103 : l0_2.length ≤ c0_2 := HC0_2.out; have hC103 : Kd.C k122 _ (some ad116) l0_2.length l0_2 := HR0_2.out; have hcut103 := cut_to (P := Tryd.prog) 41 122 .i64 Tryd.underlying41 hi0103 (some ad116) l0_2.length c0_2 x3_3 (od (by first | (with_reducible assumption) | assumption)) q103 hroom103; have hr103 := Kd.C_take (m := (x3_3 : Int).toNat) hC103 (by omega); have hy103 : y119.length = (x3_3 : Int).toNat := (by rw [Ny119.out, List.length_take]; omega); rw [← Ny119.out] at hr103; rw [← hy103] at hcut103; have HR122 := aS hr103; have HC122 := aS (show y119.length ≤ c0_2 from by omega); clear hr103 hC103 hroom103 hi0103 hsz103; have KY103 := aS hy103; clear hy103; replace q103 := eq_true q103; obtain ⟨ad123, e123, hx123_0, hx123_1, p123, q123⟩ := q0y HB.out HR0_2.out x3_3 (by first | with_reducible assumption | assumption) (by first | with_reducible assumption | assumption); obtain rfl : ad116 = ad123 := (by injection e123)) | (go_at_call 64; (with_reducible refine (clerestoryref1_AttrOf.calls k3 _ _ y119 ((q0f l0_2 x3_3).f0) t124 true _ ?side1 ?side2 A100.out).mono ?_); (case side1 => repeat (first | exact (Kd.C_below HR122.out (by repeat (first | (with_reducible first | exact HB.out | apply bA | apply bN | apply bD | refine bS ?_ GE113.out) | exact HB.out))) | (with_reducible refine cA ?_ _) | (with_reducible refine cN ?_ _) | (with_reducible refine cD ?_))); (case side2 => exact HC122.out); rintro e w' ⟨rfl, ⟨nd, rfl⟩⟩; (try first | exact ⟨rfl, _, World.drewN_drewN _ _ _⟩ | exact ⟨rfl, _, Eq.trans (World.drewN_drewN _ _ _) (congrArg (World.drewN _) (Nat.add_assoc _ _ _))⟩)))
           repeat (go_quiet (first | (go_at_call 120; (with_reducible refine (clerestoryref1_domName.calls k3 ((q0f l0_2 x3_3).f0) false true _ A94.out).mono ?_); rintro e w' ⟨rfl, ⟨nd, rfl⟩⟩; (try first | exact ⟨rfl, _, World.drewN_drewN _ _ _⟩ | exact ⟨rfl, _, Eq.trans (World.drewN_drewN _ _ _) (congrArg (World.drewN _) (Nat.add_assoc _ _ _))⟩); obtain ⟨ad118, e118, hx118_0, hx118_1, p118, q118⟩ := q0y HB.out HR0_2.out x3_3 (by first | with_reducible assumption | assumption) (by first | with_reducible assumption | assumption); obtain rfl : ad116 = ad118 := (by injection e118); have q103 : (x3_3 : Int) ≤ ((l0_2.length : Int) : Int) := od (by first | (with_reducible assumption) | assumption); obtain ⟨i0103, hi0103, _, hsz103, _⟩ := info_parts info122; have hroom103 : l0_2.length ≤ c0_2 := HC0_2.out; have hC103 : Kd.C k122 _ (some ad116) l0_2.length l0_2 := HR0_2.out; have hcut103 := cut_to (P := Tryd.prog) 41 122 .i64 Tryd.underlying41 hi0103 (some ad116) l0_2.length c0_2 x3_3 (od (by first | (with_reducible assumption) | assumption)) q103 hroom103; have hr103 := Kd.C_take (m := (x3_3 : Int).toNat) hC103 (by omega); have hy103 : y119.length = (x3_3 : Int).toNat := (by rw [Ny119.out, List.length_take]; omega); rw [← Ny119.out] at hr103; rw [← hy103] at hcut103; have HR122 := aS hr103; have HC122 := aS (show y119.length ≤ c0_2 from by omega); clear hr103 hC103 hroom103 hi0103 hsz103; have KY103 := aS hy103; clear hy103; replace q103 := eq_true q103; obtain ⟨ad123, e123, hx123_0, hx123_1, p123, q123⟩ := q0y HB.out HR0_2.out x3_3 (by first | with_reducible assumption | assumption) (by first | with_reducible assumption | assumption); obtain rfl : ad116 = ad123 := (by injection e123)) | (go_at_call 64; (with_reducible refine (clerestoryref1_AttrOf.calls k3 _ _ y119 ((q0f l0_2 x3_3).f0) t124 true _ ?side1 ?side2 A100.out).mono ?_); (case side1 => repeat (first | exact (Kd.C_below HR122.out (by repeat (first | (with_reducible first | exact HB.out | apply bA | apply bN | apply bD | refine bS ?_ GE113.out) | exact HB.out))) | (with_reducible refine cA ?_ _) | (with_reducible refine cN ?_ _) | (with_reducible refine cD ?_))); (case side2 => exact HC122.out); rintro e w' ⟨rfl, ⟨nd, rfl⟩⟩; (try first | exact ⟨rfl, _, World.drewN_drewN _ _ _⟩ | exact ⟨rfl, _, Eq.trans (World.drewN_drewN _ _ _) (congrArg (World.drewN _) (Nat.add_assoc _ _ _))⟩))); try go_wp2_with (first | (go_at_call 120; (with_reducible refine (clerestoryref1_domName.calls k3 ((q0f l0_2 x3_3).f0) false true _ A94.out).mono ?_); rintro e w' ⟨rfl, ⟨nd, rfl⟩⟩; (try first | exact ⟨rfl, _, World.drewN_drewN _ _ _⟩ | exact ⟨rfl, _, Eq.trans (World.drewN_drewN _ _ _) (congrArg (World.drewN _) (Nat.add_assoc _ _ _))⟩); obtain ⟨ad118, e118, hx118_0, hx118_1, p118, q118⟩ := q0y HB.out HR0_2.out x3_3 (by first | with_reducible assumption | assumption) (by first | with_reducible assumption | assumption); obtain rfl : ad116 = ad118 := (by injection e118); have q103 : (x3_3 : Int) ≤ ((l0_2.length : Int) : Int) := od (by first | (with_reducible assumption) | assumption); obtain ⟨i0103, hi0103, _, hsz103, _⟩ := info_parts info122; have hroom103 : l0_2.length ≤ c0_2 := HC0_2.out; have hC103 : Kd.C k122 _ (some ad116) l0_2.length l0_2 := HR0_2.out; have hcut103 := cut_to (P := Tryd.prog) 41 122 .i64 Tryd.underlying41 hi0103 (some ad116) l0_2.length c0_2 x3_3 (od (by first | (with_reducible assumption) | assumption)) q103 hroom103; have hr103 := Kd.C_take (m := (x3_3 : Int).toNat) hC103 (by omega); have hy103 : y119.length = (x3_3 : Int).toNat := (by rw [Ny119.out, List.length_take]; omega); rw [← Ny119.out] at hr103; rw [← hy103] at hcut103; have HR122 := aS hr103; have HC122 := aS (show y119.length ≤ c0_2 from by omega); clear hr103 hC103 hroom103 hi0103 hsz103; have KY103 := aS hy103; clear hy103; replace q103 := eq_true q103; obtain ⟨ad123, e123, hx123_0, hx123_1, p123, q123⟩ := q0y HB.out HR0_2.out x3_3 (by first | with_reducible assumption | assumption) (by first | with_reducible assumption | assumption); obtain rfl : ad116 = ad123 := (by injection e123)) | (go_at_call 64; (with_reducible refine (clerestoryref1_AttrOf.calls k3 _ _ y119 ((q0f l0_2 x3_3).f0) t124 true _ ?side1 ?side2 A100.out).mono ?_); (case side1 => repeat (first | exact (Kd.C_below HR122.out (by repeat (first | (with_reducible first | exact HB.out | apply bA | apply bN | apply bD | refine bS ?_ GE113.out) | exact HB.out))) | (with_reducible refine cA ?_ _) | (with_reducible refine cN ?_ _) | (with_reducible refine cD ?_))); (case side2 => exact HC122.out); rintro e w' ⟨rfl, ⟨nd, rfl⟩⟩; (try first | exact ⟨rfl, _, World.drewN_drewN _ _ _⟩ | exact ⟨rfl, _, Eq.trans (World.drewN_drewN _ _ _) (congrArg (World.drewN _) (Nat.add_assoc _ _ _))⟩))))
           go_ret
           exact ⟨by first | rfl | (simp [q02, q01] <;> rfl) | (simp [*, q02, q01] <;> rfl), by repeat (first | (with_reducible first | exact HB.out | apply bA | apply bN | apply bD | refine bS ?_ GE113.out) | exact HB.out)⟩
          case n101 =>
           have H' := aS H
           clear H
           go_wp2_with (first | (go_at_call 120; (with_reducible refine (clerestoryref1_domName.calls k3 ((q0f l0_2 x3_3).f0) false true _ A94.out).mono ?_); rintro e w' ⟨rfl, ⟨nd, rfl⟩⟩; (try first | exact ⟨rfl, _, World.drewN_drewN _ _ _⟩ | exact ⟨rfl, _, Eq.trans (World.drewN_drewN _ _ _) (congrArg (World.drewN _) (Nat.add_assoc _ _ _))⟩); obtain ⟨ad118, e118, hx118_0, hx118_1, p118, q118⟩ := q0y HB.out HR0_2.out x3_3 (by first | with_reducible assumption | assumption) (by first | with_reducible assumption | assumption); obtain rfl : ad116 = ad118 := (by injection e118); have q105 : (x3_3 : Int) ≤ ((l0_2.length : Int) : Int) := od (by first | (with_reducible assumption) | assumption); obtain ⟨i0105, hi0105, _, hsz105, _⟩ := info_parts info122; have hroom105 : l0_2.length ≤ c0_2 := HC0_2.out; have hC105 : Kd.C k122 _ (some ad116) l0_2.length l0_2 := HR0_2.out; have hcut105 := cut_to (P := Tryd.prog) 41 122 .i64 Tryd.underlying41 hi0105 (some ad116) l0_2.length c0_2 x3_3 (od (by first | (with_reducible assumption) | assumption)) q105 hroom105; have hr105 := Kd.C_take (m := (x3_3 : Int).toNat) hC105 (by omega); have hy105 : y119.length = (x3_3 : Int).toNat := (by rw [Ny119.out, List.length_take]; omega); rw [← Ny119.out] at hr105; rw [← hy105] at hcut105; have HR122 := aS hr105; have HC122 := aS (show y119.length ≤ c0_2 from by omega); clear hr105 hC105 hroom105 hi0105 hsz105; have KY105 := aS hy105; clear hy105; replace q105 := eq_true q105; obtain ⟨ad123, e123, hx123_0, hx123_1, p123, q123⟩ := q0y HB.out HR0_2.out x3_3 (by first | with_reducible assumption | assumption) (by first | with_reducible assumption | assumption); obtain rfl : ad116 = ad123 := (by injection e123)) | (go_at_call 64; (with_reducible refine (clerestoryref1_AttrOf.calls k3 _ _ y119 ((q0f l0_2 x3_3).f0) t124 false _ ?side1 ?side2 A100.out).mono ?_); (case side1 => repeat (first | exact (Kd.C_below HR122.out (by repeat (first | (with_reducible first | exact HB.out | apply bA | apply bN | apply bD | refine bS ?_ GE113.out) | exact HB.out))) | (with_reducible refine cA ?_ _) | (with_reducible refine cN ?_ _) | (with_reducible refine cD ?_))); (case side2 => exact HC122.out); rintro e w' ⟨rfl, ⟨nd, rfl⟩⟩; (try first | exact ⟨rfl, _, World.drewN_drewN _ _ _⟩ | exact ⟨rfl, _, Eq.trans (World.drewN_drewN _ _ _) (congrArg (World.drewN _) (Nat.add_assoc _ _ _))⟩)))
           repeat (go_quiet (first | (go_at_call 120; (with_reducible refine (clerestoryref1_domName.calls k3 ((q0f l0_2 x3_3).f0) false true _ A94.out).mono ?_); rintro e w' ⟨rfl, ⟨nd, rfl⟩⟩; (try first | exact ⟨rfl, _, World.drewN_drewN _ _ _⟩ | exact ⟨rfl, _, Eq.trans (World.drewN_drewN _ _ _) (congrArg (World.drewN _) (Nat.add_assoc _ _ _))⟩); obtain ⟨ad118, e118, hx118_0, hx118_1, p118, q118⟩ := q0y HB.out HR0_2.out x3_3 (by first | with_reducible assumption | assumption) (by first | with_reducible assumption | assumption); obtain rfl : ad116 = ad118 := (by injection e118); have q105 : (x3_3 : Int) ≤ ((l0_2.length : Int) : Int) := od (by first | (with_reducible assumption) | assumption); obtain ⟨i0105, hi0105, _, hsz105, _⟩ := info_parts info122; have hroom105 : l0_2.length ≤ c0_2 := HC0_2.out; have hC105 : Kd.C k122 _ (some ad116) l0_2.length l0_2 := HR0_2.out; have hcut105 := cut_to (P := Tryd.prog) 41 122 .i64 Tryd.underlying41 hi0105 (some ad116) l0_2.length c0_2 x3_3 (od (by first | (with_reducible assumption) | assumption)) q105 hroom105; have hr105 := Kd.C_take (m := (x3_3 : Int).toNat) hC105 (by omega); have hy105 : y119.length = (x3_3 : Int).toNat := (by rw [Ny119.out, List.length_take]; omega); rw [← Ny119.out] at hr105; rw [← hy105] at hcut105; have HR122 := aS hr105; have HC122 := aS (show y119.length ≤ c0_2 from by omega); clear hr105 hC105 hroom105 hi0105 hsz105; have KY105 := aS hy105; clear hy105; replace q105 := eq_true q105; obtain ⟨ad123, e123, hx123_0, hx123_1, p123, q123⟩ := q0y HB.out HR0_2.out x3_3 (by first | with_reducible assumption | assumption) (by first | with_reducible assumption | assumption); obtain rfl : ad116 = ad123 := (by injection e123)) | (go_at_call 64; (with_reducible refine (clerestoryref1_AttrOf.calls k3 _ _ y119 ((q0f l0_2 x3_3).f0) t124 false _ ?side1 ?side2 A100.out).mono ?_); (case side1 => repeat (first | exact (Kd.C_below HR122.out (by repeat (first | (with_reducible first | exact HB.out | apply bA | apply bN | apply bD | refine bS ?_ GE113.out) | exact HB.out))) | (with_reducible refine cA ?_ _) | (with_reducible refine cN ?_ _) | (with_reducible refine cD ?_))); (case side2 => exact HC122.out); rintro e w' ⟨rfl, ⟨nd, rfl⟩⟩; (try first | exact ⟨rfl, _, World.drewN_drewN _ _ _⟩ | exact ⟨rfl, _, Eq.trans (World.drewN_drewN _ _ _) (congrArg (World.drewN _) (Nat.add_assoc _ _ _))⟩))); try go_wp2_with (first | (go_at_call 120; (with_reducible refine (clerestoryref1_domName.calls k3 ((q0f l0_2 x3_3).f0) false true _ A94.out).mono ?_); rintro e w' ⟨rfl, ⟨nd, rfl⟩⟩; (try first | exact ⟨rfl, _, World.drewN_drewN _ _ _⟩ | exact ⟨rfl, _, Eq.trans (World.drewN_drewN _ _ _) (congrArg (World.drewN _) (Nat.add_assoc _ _ _))⟩); obtain ⟨ad118, e118, hx118_0, hx118_1, p118, q118⟩ := q0y HB.out HR0_2.out x3_3 (by first | with_reducible assumption | assumption) (by first | with_reducible assumption | assumption); obtain rfl : ad116 = ad118 := (by injection e118); have q105 : (x3_3 : Int) ≤ ((l0_2.length : Int) : Int) := od (by first | (with_reducible assumption) | assumption); obtain ⟨i0105, hi0105, _, hsz105, _⟩ := info_parts info122; have hroom105 : l0_2.length ≤ c0_2 := HC0_2.out; have hC105 : Kd.C k122 _ (some ad116) l0_2.length l0_2 := HR0_2.out; have hcut105 := cut_to (P := Tryd.prog) 41 122 .i64 Tryd.underlying41 hi0105 (some ad116) l0_2.length c0_2 x3_3 (od (by first | (with_reducible assumption) | assumption)) q105 hroom105; have hr105 := Kd.C_take (m := (x3_3 : Int).toNat) hC105 (by omega); have hy105 : y119.length = (x3_3 : Int).toNat := (by rw [Ny119.out, List.length_take]; omega); rw [← Ny119.out] at hr105; rw [← hy105] at hcut105; have HR122 := aS hr105; have HC122 := aS (show y119.length ≤ c0_2 from by omega); clear hr105 hC105 hroom105 hi0105 hsz105; have KY105 := aS hy105; clear hy105; replace q105 := eq_true q105; obtain ⟨ad123, e123, hx123_0, hx123_1, p123, q123⟩ := q0y HB.out HR0_2.out x3_3 (by first | with_reducible assumption | assumption) (by first | with_reducible assumption | assumption); obtain rfl : ad116 = ad123 := (by injection e123)) | (go_at_call 64; (with_reducible refine (clerestoryref1_AttrOf.calls k3 _ _ y119 ((q0f l0_2 x3_3).f0) t124 false _ ?side1 ?side2 A100.out).mono ?_); (case side1 => repeat (first | exact (Kd.C_below HR122.out (by repeat (first | (with_reducible first | exact HB.out | apply bA | apply bN | apply bD | refine bS ?_ GE113.out) | exact HB.out))) | (with_reducible refine cA ?_ _) | (with_reducible refine cN ?_ _) | (with_reducible refine cD ?_))); (case side2 => exact HC122.out); rintro e w' ⟨rfl, ⟨nd, rfl⟩⟩; (try first | exact ⟨rfl, _, World.drewN_drewN _ _ _⟩ | exact ⟨rfl, _, Eq.trans (World.drewN_drewN _ _ _) (congrArg (World.drewN _) (Nat.add_assoc _ _ _))⟩))))
           go_roundg k3
           case measure => have := HJ3.out; have := HJ82.out; have := HK3.out; omega
           case rel => exact ⟨(wrap64 (x3_3 + 1)), (by first | rfl | (simp; done) | simp [*]), H', ⟨by have := HJ3.out; have := HJ82.out; have := HK3.out; omega⟩, ⟨by (with_reducible repeat (first | refine kN ?_ _ | refine kD ?_ | refine kA ?_ _)); exact BK113.out⟩, ⟨by repeat (first | (with_reducible first | exact HB.out | apply bA | apply bN | apply bD | refine bS ?_ GE113.out) | exact HB.out)⟩⟩
          case n95 =>
           obtain rfl := Option.some.inj H
           obtain ⟨ad116, e116, hx116_0, hx116_1, p116, q116⟩ := q0y HB.out HR0_2.out x3_3 (by first | with_reducible assumption | assumption) (by first | with_reducible assumption | assumption)
           cases e116
           go_wp2_with (first | (go_at_call 120; (with_reducible refine (clerestoryref1_domName.calls k3 ((q0f l0_2 x3_3).f0) false false _ A94.out).mono ?_); rintro e w' ⟨rfl, ⟨nd, rfl⟩⟩; (try first | exact ⟨rfl, _, World.drewN_drewN _ _ _⟩ | exact ⟨rfl, _, Eq.trans (World.drewN_drewN _ _ _) (congrArg (World.drewN _) (Nat.add_assoc _ _ _))⟩)))
           repeat (go_quiet (first | (go_at_call 120; (with_reducible refine (clerestoryref1_domName.calls k3 ((q0f l0_2 x3_3).f0) false false _ A94.out).mono ?_); rintro e w' ⟨rfl, ⟨nd, rfl⟩⟩; (try first | exact ⟨rfl, _, World.drewN_drewN _ _ _⟩ | exact ⟨rfl, _, Eq.trans (World.drewN_drewN _ _ _) (congrArg (World.drewN _) (Nat.add_assoc _ _ _))⟩))); try go_wp2_with (first | (go_at_call 120; (with_reducible refine (clerestoryref1_domName.calls k3 ((q0f l0_2 x3_3).f0) false false _ A94.out).mono ?_); rintro e w' ⟨rfl, ⟨nd, rfl⟩⟩; (try first | exact ⟨rfl, _, World.drewN_drewN _ _ _⟩ | exact ⟨rfl, _, Eq.trans (World.drewN_drewN _ _ _) (congrArg (World.drewN _) (Nat.add_assoc _ _ _))⟩))))
           go_ret
           exact ⟨by first | rfl | (simp [q02, q01] <;> rfl) | (simp [*, q02, q01] <;> rfl), by repeat (first | (with_reducible first | exact HB.out | apply bA | apply bN | apply bD | refine bS ?_ GE113.out) | exact HB.out)⟩
          case p107|p109|n109 =>
           obtain rfl := Option.some.inj H
           go_wp2
           repeat (go_quiet (fail); try go_wp2)
           go_ret
           exact ⟨by first | rfl | (simp [q02, q01] <;> rfl) | (simp [*, q02, q01] <;> rfl), by repeat (first | (with_reducible first | exact HB.out | apply bA | apply bN | apply bD | refine bS ?_ GE113.out) | exact HB.out)⟩
 case n3 =>
  obtain rfl := Option.some.inj H
  go_enter Tryd.func72, Tryd.ntmps72
  go_wp2_with (first | ((with_reducible refine q0c (N := 1) rfl ?_); (try (refine q0z (by rfl) ?_; dsimp only)); refine box0 rfl (N := 1) rfl (cs := #[.int .i64 a0_0, .string a0_1, .slice A0_2 l0_2.length c0_2, .string a0_3, .int .i64 a0_4, .slice A0_5 l0_5.length c0_5]) (t := 43) (by first | (go_simp; done) | (go_simp; rfl)) (by repeat (first | (with_reducible first | exact HB.out | apply bA | apply bN | apply bD) | exact HB.out)) ?_; clear HB; intro gb113 w112 BK113 GW113 HB; have GE113 := GW113; obtain ⟨hczL_0, hczL_1, hczL_2, hczL_3, hczL_4, hczL_5, hfzL_0, hfzL_1, hfzL_2, hfzL_3, hfzL_4, hfzL_5⟩ := bk6 BK113.out) | (go_at_call 73; (with_reducible refine (clerestoryref1_between.calls a0_0 1 5 false _ A2.out).mono ?_); rintro e w' ⟨rfl, ⟨nd, rfl⟩⟩; (try first | exact ⟨rfl, _, World.drewN_drewN _ _ _⟩ | exact ⟨rfl, _, Eq.trans (World.drewN_drewN _ _ _) (congrArg (World.drewN _) (Nat.add_assoc _ _ _))⟩)))
  repeat (go_quiet (first | ((with_reducible refine q0c (N := 1) rfl ?_); (try (refine q0z (by rfl) ?_; dsimp only)); refine box0 rfl (N := 1) rfl (cs := #[.int .i64 a0_0, .string a0_1, .slice A0_2 l0_2.length c0_2, .string a0_3, .int .i64 a0_4, .slice A0_5 l0_5.length c0_5]) (t := 43) (by first | (go_simp; done) | (go_simp; rfl)) (by repeat (first | (with_reducible first | exact HB.out | apply bA | apply bN | apply bD) | exact HB.out)) ?_; clear HB; intro gb113 w112 BK113 GW113 HB; have GE113 := GW113; obtain ⟨hczL_0, hczL_1, hczL_2, hczL_3, hczL_4, hczL_5, hfzL_0, hfzL_1, hfzL_2, hfzL_3, hfzL_4, hfzL_5⟩ := bk6 BK113.out) | (go_at_call 73; (with_reducible refine (clerestoryref1_between.calls a0_0 1 5 false _ A2.out).mono ?_); rintro e w' ⟨rfl, ⟨nd, rfl⟩⟩; (try first | exact ⟨rfl, _, World.drewN_drewN _ _ _⟩ | exact ⟨rfl, _, Eq.trans (World.drewN_drewN _ _ _) (congrArg (World.drewN _) (Nat.add_assoc _ _ _))⟩))); try go_wp2_with (first | ((with_reducible refine q0c (N := 1) rfl ?_); (try (refine q0z (by rfl) ?_; dsimp only)); refine box0 rfl (N := 1) rfl (cs := #[.int .i64 a0_0, .string a0_1, .slice A0_2 l0_2.length c0_2, .string a0_3, .int .i64 a0_4, .slice A0_5 l0_5.length c0_5]) (t := 43) (by first | (go_simp; done) | (go_simp; rfl)) (by repeat (first | (with_reducible first | exact HB.out | apply bA | apply bN | apply bD) | exact HB.out)) ?_; clear HB; intro gb113 w112 BK113 GW113 HB; have GE113 := GW113; obtain ⟨hczL_0, hczL_1, hczL_2, hczL_3, hczL_4, hczL_5, hfzL_0, hfzL_1, hfzL_2, hfzL_3, hfzL_4, hfzL_5⟩ := bk6 BK113.out) | (go_at_call 73; (with_reducible refine (clerestoryref1_between.calls a0_0 1 5 false _ A2.out).mono ?_); rintro e w' ⟨rfl, ⟨nd, rfl⟩⟩; (try first | exact ⟨rfl, _, World.drewN_drewN _ _ _⟩ | exact ⟨rfl, _, Eq.trans (World.drewN_drewN _ _ _) (congrArg (World.drewN _) (Nat.add_assoc _ _ _))⟩))))
  go_ret
  exact ⟨by first | rfl | (simp [q02, q01] <;> rfl) | (simp [*, q02, q01] <;> rfl), by repeat (first | (with_reducible first | exact HB.out | apply bA | apply bN | apply bD | refine bS ?_ GE113.out) | exact HB.out)⟩
end Go.Proofs.YthjnallbbhnndaaDoor.XWp
namespace Go.Proofs.YthjnallbbhnndaaDoor.XWp
open Go.Proofs.YthjnallbbhnndaaDoor.Short Go.RowKit Go.Proofs.YthjnallbbhnndaaDoorW.PrintWords Go.Proofs.YthjnallbbhnndaaDoorW.PrintLast Go.Proofs.YthjnallbbhnndaaDoorW.PrintMore
attribute [local go_sem] q15 q13 q1i q1h q0x q0w q14 q12   -- for this text's walks alone
set_option linter.unusedVariables false
set_option linter.unusedSimpArgs false
def clerestoryref1_placeIn.l0 : Nat → List Int → Int → Int → Option (Int)
 | 0, _, _, _ => none
 | k + 1, x0, x1, x5 => if x5 < (x0.length : Int) then (if 0 ≤ x5 then (if (rd x0 x5) = x1 then (some x5) else (clerestoryref1_placeIn.l0 k x0 x1 (wrap64 (x5 + 1)))) else (none)) else (some (-1))
def clerestoryref1_placeIn.f (k : Nat) (l0 : List Int) (a1 : Int) : Option (Int) := clerestoryref1_placeIn.l0 k l0 a1 0
theorem clerestoryref1_placeIn.mono_l : ∀ k, (∀ y0 y1 y2, LeO (clerestoryref1_placeIn.l0 k y0 y1 y2) (clerestoryref1_placeIn.l0 (k + 1) y0 y1 y2))
 | 0 => fun _ _ _ r h => by simp [clerestoryref1_placeIn.l0] at h
 | k + 1 => by
  have ih0 := clerestoryref1_placeIn.mono_l k
  ·intro y0 y1 y2
   unfold clerestoryref1_placeIn.l0
   repeat' first | with_reducible first | apply ih0 | exact LeO.refl _ | exact LeO.none _ | refine LeO.ite ?_ ?_ | refine LeO.bind ?_ (fun _ => ?_) | (first | apply ih0 | exact LeO.none _ | refine LeO.ite ?_ ?_ | refine LeO.bind ?_ (fun _ => ?_))
theorem clerestoryref1_placeIn.mono : ∀ a0 a1 k, LeO (clerestoryref1_placeIn.f k a0 a1) (clerestoryref1_placeIn.f (k + 1) a0 a1) := by
 intro a0 a1 k
 have ih0 := clerestoryref1_placeIn.mono_l k
 unfold clerestoryref1_placeIn.f
 repeat' first | with_reducible first | apply ih0 | exact LeO.refl _ | exact LeO.none _ | refine LeO.ite ?_ ?_ | refine LeO.bind ?_ (fun _ => ?_) | (first | apply ih0 | exact LeO.none _ | refine LeO.ite ?_ ?_ | refine LeO.bind ?_ (fun _ => ?_))
set_option maxHeartbeats 8000000 in
set_option maxRecDepth 100000 in
theorem clerestoryref1_placeIn.calls (k : Nat) (A0 : Option Addr) (c0 : Nat) (l0 : List Int) (a1 : Int) (r : Int) (w : World) (hr0 : Kd.C (Kd.int .i64) w A0 l0.length l0) (hc0 : l0.length ≤ c0) (h : clerestoryref1_placeIn.f k l0 a1 = some r) :
 Calls Tryd.prog 74 #[.slice A0 l0.length c0, .int .i64 a1] w fun e w' => e = .returned (.int .i64 r) ∧ Drawn0 w w' := by
 have HR0 := aS hr0
 have HC0 := aS hc0
 clear hr0 hc0
 have H := h; clear h; unfold clerestoryref1_placeIn.f at H
 have H' := aS H
 clear H
 go_enter Tryd.func74, Tryd.ntmps74
 go_wp2
 go_loopg [5] k (fun kq v5 w' => ∃ (x5_1 : Int), v5 = .int .i64 x5_1 ∧ Aside0 (clerestoryref1_placeIn.l0 kq l0 a1 x5_1 = some r) ∧ Aside0 (kq ≤ k) ∧ Drawn0 w w')
 case atStart => exact ⟨(0), (by first | rfl | (simp; done) | simp [*]), H', ⟨Nat.le_refl _⟩, by repeat (first | exact Drawn0.refl _ | apply Drawn0.step)⟩
 case round =>
  clear H'
  obtain ⟨x5_1, rfl, HA, HK1, ⟨m1, rfl⟩⟩ := hrel
  cases gk with
  | zero => exact absurd HA.out (by simp [clerestoryref1_placeIn.l0])
  | succ k1 =>
   have H := HA.out
   clear HA
   simp only [clerestoryref1_placeIn.l0] at H
   refine iT H ?p3 ?n3 <;> clear H
   case' p3 =>
    intro c3b0 H
    refine iLp H ?_; clear H; intro c4b0 H
    obtain ⟨ad126, e126, hx126_0, p126, q126⟩ := atIA HR0.out x5_1 (by first | with_reducible assumption | assumption) (by first | with_reducible assumption | assumption)
    cases e126
    refine iE H ?p5 ?n5 <;> clear H
   case' p5 => intro c5b0 c5b1 H
   case' n5 => intro c5 c5b0 c5b1 H
   case' n3 => intro c3b0 H
   case p5|n3 =>
    obtain rfl := Option.some.inj H
    go_wp2
    go_ret
    exact ⟨by first | rfl | (simp; done) | (simp [*]; done), by repeat (first | exact Drawn0.refl _ | apply Drawn0.step)⟩
   case n5 =>
    have H' := aS H
    clear H
    go_wp2
    go_roundg k1
    case measure => have := HK1.out; omega
    case rel => exact ⟨(wrap64 (x5_1 + 1)), (by first | rfl | (simp; done) | simp [*]), H', ⟨by have := HK1.out; omega⟩, by repeat (first | exact Drawn0.refl _ | apply Drawn0.step)⟩
end Go.Proofs.YthjnallbbhnndaaDoor.XWp
namespace Go.Proofs.YthjnallbbhnndaaDoor.XWp
open Go.Proofs.YthjnallbbhnndaaDoor.Short Go.RowKit Go.Proofs.YthjnallbbhnndaaDoorW.PrintWords Go.Proofs.YthjnallbbhnndaaDoorW.PrintLast Go.Proofs.YthjnallbbhnndaaDoorW.PrintMore
attribute [local go_sem] q15 q13 q1i q1h q0x q0w q14 q12   -- for this text's walks alone
set_option linter.unusedVariables false
set_option linter.unusedSimpArgs false
mutual
def clerestoryref1_DocErr.l0 : Nat → Int → Int → List (S43) → Bool → Option (Int)
 | 0, _, _, _, _ => none
 | k + 1, x3, x4, x128000, x128001 => if x4 < x3 then (if x4 = 0 then (if 0 ≤ x4 then (if x4 < (x128000.length : Int) then (if ((q00 x128000 x4).f0) = 1 then (if x4 > 0 then (clerestoryref1_DocErr.j1 k x3 x4 (((q00 x128000 x4).f0) == 1) x128000 x128001) else (clerestoryref1_DocErr.j1 k x3 x4 false x128000 x128001)) else (clerestoryref1_DocErr.j1 k x3 x4 true x128000 x128001)) else (none)) else (none)) else (if x4 > 0 then (if 0 ≤ x4 then (if x4 < (x128000.length : Int) then (clerestoryref1_DocErr.j1 k x3 x4 (((q00 x128000 x4).f0) == 1) x128000 x128001) else (none)) else (none)) else (clerestoryref1_DocErr.j1 k x3 x4 false x128000 x128001))) else (clerestoryref1_DocErr.l1 k x3 0 x128000 x128001)
def clerestoryref1_DocErr.j1 : Nat → Int → Int → Bool → List (S43) → Bool → Option (Int)
 | 0, _, _, _, _, _ => none
 | k + 1, x3, x4, x48, x128000, x128001 => if x48 = true then (some 3) else (if 0 ≤ x4 then (if x4 < (x128000.length : Int) then ((clerestoryref1_NodeErr.f k ((q00 x128000 x4).f0) ((q00 x128000 x4).f1) ((q00 x128000 x4).f2) ((q00 x128000 x4).f3) ((q00 x128000 x4).f4) ((q00 x128000 x4).f5)).bind fun t132 => (if t132 = 0 then (clerestoryref1_DocErr.l0 k x3 (wrap64 (x4 + 1)) x128000 x128001) else (some t132))) else (none)) else (none))
def clerestoryref1_DocErr.l1 : Nat → Int → Int → List (S43) → Bool → Option (Int)
 | 0, _, _, _, _ => none
 | k + 1, x3, x6, x128000, x128001 => if x6 < x3 then (clerestoryref1_DocErr.l2 k x3 x6 0 x128000 x128001) else (clerestoryref1_DocErr.l3 k x3 0 x128000 x128001)
def clerestoryref1_DocErr.l2 : Nat → Int → Int → Int → List (S43) → Bool → Option (Int)
 | 0, _, _, _, _, _ => none
 | k + 1, x3, x6, x7, x128000, x128001 => if 0 ≤ x6 then (if x6 < (x128000.length : Int) then (if x7 < (((q00 x128000 x6).f5).length : Int) then (if 0 ≤ x7 then ((clerestoryref1_between.f (rd ((q00 x128000 x6).f5) x7) 0 (wrap64 (x3 - 1))).bind fun t136 => (if t136 = true then (if 0 ≤ (rd ((q00 x128000 x6).f5) x7) then (if (rd ((q00 x128000 x6).f5) x7) < (x128000.length : Int) then (if ((q00 x128000 (rd ((q00 x128000 x6).f5) x7)).f4) = x6 then (if x7 ≤ (((q00 x128000 x6).f5).length : Int) then ((clerestoryref1_placeIn.f k (((q00 x128000 x6).f5).take (x7 : Int).toNat) (rd ((q00 x128000 x6).f5) x7)).bind fun t140 => (clerestoryref1_DocErr.j4 k x3 x6 x7 (rd ((q00 x128000 x6).f5) x7) (decide (t140 ≥ 0)) x128000 x128001)) else (none)) else (clerestoryref1_DocErr.j4 k x3 x6 x7 (rd ((q00 x128000 x6).f5) x7) true x128000 x128001)) else (none)) else (none)) else (clerestoryref1_DocErr.j4 k x3 x6 x7 (rd ((q00 x128000 x6).f5) x7) true x128000 x128001))) else (none)) else (clerestoryref1_DocErr.l1 k x3 (wrap64 (x6 + 1)) x128000 x128001)) else (none)) else (none)
def clerestoryref1_DocErr.j4 : Nat → Int → Int → Int → Int → Bool → List (S43) → Bool → Option (Int)
 | 0, _, _, _, _, _, _, _ => none
 | k + 1, x3, x6, x7, x8, x110, x128000, x128001 => if x110 = true then (some 3) else (if x6 = 0 then (if 0 ≤ x8 then (if x8 < (x128000.length : Int) then (if ((q00 x128000 x8).f0) = 3 then (some 7) else (clerestoryref1_DocErr.l2 k x3 x6 (wrap64 (x7 + 1)) x128000 x128001)) else (none)) else (none)) else (clerestoryref1_DocErr.l2 k x3 x6 (wrap64 (x7 + 1)) x128000 x128001))
def clerestoryref1_DocErr.l3 : Nat → Int → Int → List (S43) → Bool → Option (Int)
 | 0, _, _, _, _ => none
 | k + 1, x3, x9, x128000, x128001 => if x9 < x3 then (if 0 ≤ x9 then (if x9 < (x128000.length : Int) then (if ((q00 x128000 x9).f4) = (-1) then (clerestoryref1_DocErr.l3 k x3 (wrap64 (x9 + 1)) x128000 x128001) else ((clerestoryref1_between.f ((q00 x128000 x9).f4) 0 (wrap64 (x3 - 1))).bind fun t143 => (if t143 = true then (if 0 ≤ ((q00 x128000 x9).f4) then (if ((q00 x128000 x9).f4) < (x128000.length : Int) then ((clerestoryref1_placeIn.f k ((q00 x128000 ((q00 x128000 x9).f4)).f5) x9).bind fun t145 => (if t145 < 0 then (some 3) else (clerestoryref1_DocErr.l3 k x3 (wrap64 (x9 + 1)) x128000 x128001))) else (none)) else (none)) else (some 3)))) else (none)) else (none)) else (if 0 < (x128000.length : Int) then (if ((q00 x128000 0).f4) = (-1) then (clerestoryref1_DocErr.l4 k x3 0 x128000 x128001) else (some 3)) else (none))
def clerestoryref1_DocErr.l4 : Nat → Int → Int → List (S43) → Bool → Option (Int)
 | 0, _, _, _, _ => none
 | k + 1, x3, x11, x128000, x128001 => if x11 < x3 then ((clerestoryref1_Deep.f k x128000 x128001 x11).bind fun t147 => (if t147 < 0 then (some 8) else (if t147 > 40 then (some 2) else (clerestoryref1_DocErr.l4 k x3 (wrap64 (x11 + 1)) x128000 x128001)))) else (some 0)
end
def clerestoryref1_DocErr.f (k : Nat) (l0_0 : List (S43)) (a0_1 : Bool) : Option (Int) := if (l0_0.length : Int) > 200 then (some 2) else (if (l0_0.length : Int) = 0 then (some 3) else (clerestoryref1_DocErr.l0 k (l0_0.length : Int) 0 l0_0 a0_1))
theorem clerestoryref1_DocErr.mono_l : ∀ k, (∀ y0 y1 y2 y3, LeO (clerestoryref1_DocErr.l0 k y0 y1 y2 y3) (clerestoryref1_DocErr.l0 (k + 1) y0 y1 y2 y3)) ∧ (∀ y0 y1 y2 y3 y4, LeO (clerestoryref1_DocErr.j1 k y0 y1 y2 y3 y4) (clerestoryref1_DocErr.j1 (k + 1) y0 y1 y2 y3 y4)) ∧ (∀ y0 y1 y2 y3, LeO (clerestoryref1_DocErr.l1 k y0 y1 y2 y3) (clerestoryref1_DocErr.l1 (k + 1) y0 y1 y2 y3)) ∧ (∀ y0 y1 y2 y3 y4, LeO (clerestoryref1_DocErr.l2 k y0 y1 y2 y3 y4) (clerestoryref1_DocErr.l2 (k + 1) y0 y1 y2 y3 y4)) ∧ (∀ y0 y1 y2 y3 y4 y5 y6, LeO (clerestoryref1_DocErr.j4 k y0 y1 y2 y3 y4 y5 y6) (clerestoryref1_DocErr.j4 (k + 1) y0 y1 y2 y3 y4 y5 y6)) ∧ (∀ y0 y1 y2 y3, LeO (clerestoryref1_DocErr.l3 k y0 y1 y2 y3) (clerestoryref1_DocErr.l3 (k + 1) y0 y1 y2 y3)) ∧ (∀ y0 y1 y2 y3, LeO (clerestoryref1_DocErr.l4 k y0 y1 y2 y3) (clerestoryref1_DocErr.l4 (k + 1) y0 y1 y2 y3))
 | 0 => ⟨fun _ _ _ _ r h => by simp [clerestoryref1_DocErr.l0] at h, fun _ _ _ _ _ r h => by simp [clerestoryref1_DocErr.j1] at h, fun _ _ _ _ r h => by simp [clerestoryref1_DocErr.l1] at h, fun _ _ _ _ _ r h => by simp [clerestoryref1_DocErr.l2] at h, fun _ _ _ _ _ _ _ r h => by simp [clerestoryref1_DocErr.j4] at h, fun _ _ _ _ r h => by simp [clerestoryref1_DocErr.l3] at h, fun _ _ _ _ r h => by simp [clerestoryref1_DocErr.l4] at h⟩
 | k + 1 => by
  obtain ⟨ih0, ih1, ih2, ih3, ih4, ih5, ih6⟩ := clerestoryref1_DocErr.mono_l k
  refine ⟨?_, ?_, ?_, ?_, ?_, ?_, ?_⟩
  all_goals intros
  all_goals (first | unfold clerestoryref1_DocErr.l0 | unfold clerestoryref1_DocErr.j1 | unfold clerestoryref1_DocErr.l1 | unfold clerestoryref1_DocErr.l2 | unfold clerestoryref1_DocErr.j4 | unfold clerestoryref1_DocErr.l3 | unfold clerestoryref1_DocErr.l4)
  all_goals (repeat' first | with_reducible first | apply ih0 | apply ih1 | apply ih2 | apply ih3 | apply ih4 | apply ih5 | apply ih6 | apply clerestoryref1_Deep.mono | apply clerestoryref1_NodeErr.mono | apply clerestoryref1_placeIn.mono | exact LeO.refl _ | exact LeO.none _ | refine LeO.ite ?_ ?_ | refine LeO.bind ?_ (fun _ => ?_) | (first | apply ih0 | apply ih1 | apply ih2 | apply ih3 | apply ih4 | apply ih5 | apply ih6 | apply clerestoryref1_Deep.mono | apply clerestoryref1_NodeErr.mono | apply clerestoryref1_placeIn.mono | exact LeO.none _ | refine LeO.ite ?_ ?_ | refine LeO.bind ?_ (fun _ => ?_)))
theorem clerestoryref1_DocErr.mono : ∀ a0 a1 k, LeO (clerestoryref1_DocErr.f k a0 a1) (clerestoryref1_DocErr.f (k + 1) a0 a1) := by
 intro a0 a1 k
 obtain ⟨ih0, ih1, ih2, ih3, ih4, ih5, ih6⟩ := clerestoryref1_DocErr.mono_l k
 unfold clerestoryref1_DocErr.f
 repeat' first | with_reducible first | apply ih0 | apply ih1 | apply ih2 | apply ih3 | apply ih4 | apply ih5 | apply ih6 | apply clerestoryref1_Deep.mono | apply clerestoryref1_NodeErr.mono | apply clerestoryref1_placeIn.mono | exact LeO.refl _ | exact LeO.none _ | refine LeO.ite ?_ ?_ | refine LeO.bind ?_ (fun _ => ?_) | (first | apply ih0 | apply ih1 | apply ih2 | apply ih3 | apply ih4 | apply ih5 | apply ih6 | apply clerestoryref1_Deep.mono | apply clerestoryref1_NodeErr.mono | apply clerestoryref1_placeIn.mono | exact LeO.none _ | refine LeO.ite ?_ ?_ | refine LeO.bind ?_ (fun _ => ?_))
set_option maxHeartbeats 8000000 in
set_option maxRecDepth 100000 in
theorem clerestoryref1_DocErr.calls (k : Nat) (A0_0 : Option Addr) (c0_0 : Nat) (l0_0 : List (S43)) (a0_1 : Bool) (r : Int) (w : World) (hr0_0 : Kd.C k43 w A0_0 l0_0.length l0_0) (hc0_0 : l0_0.length ≤ c0_0) (h : clerestoryref1_DocErr.f k l0_0 a0_1 = some r) :
 Calls Tryd.prog 17 #[.agg #[.slice A0_0 l0_0.length c0_0, .bool a0_1]] w fun e w' => e = .returned (.int .i64 r) ∧ Below w.heap.size w w' := by
 have hu24 := Tryd.underlying24
 have hu43 := Tryd.underlying43
 have HR0_0 := aS hr0_0
 have HC0_0 := aS hc0_0
 clear hr0_0 hc0_0
 have HB := aS (Below.refl w.heap.size w)
 have H := h; clear h; unfold clerestoryref1_DocErr.f at H
 refine iTN (m := 200) (n := l0_0.length) H rfl rfl ?p2 ?n2 <;> clear H
 case' p2 => intro c2b0 c2b1 H
 case' n2 => intro c2b0 c2b1 H; refine iG H ?p5 ?n5 <;> clear H
 case' p5 => intro c5 H; have c5b0 : ((l0_0.length : Int) == 0) = true := beq_iff_eq.mpr c5; have c5b1 : ((l0_0.length : Int) != 0) = false := bne_eq_false_iff_eq.mpr c5; clear c5
 case' n5 => intro c5 H; have c5b0 : ((l0_0.length : Int) == 0) = false := beq_eq_false_iff_ne.mpr c5; have c5b1 : ((l0_0.length : Int) != 0) = true := bne_iff_ne.mpr c5; have c5b2 : ¬ (l0_0 = []) := fun h_ => c5 (by rw [h_]; rfl)
 case p2 =>
  obtain rfl := Option.some.inj H
  go_enter Tryd.func17, Tryd.ntmps17
  go_wp2_with (first | ((with_reducible refine q0c (N := 1) rfl ?_); refine box0 rfl (N := 1) rfl (cs := #[.slice A0_0 l0_0.length c0_0, .bool a0_1]) (t := 24) (by first | (go_simp; done) | (go_simp; rfl)) (by repeat (first | (with_reducible first | exact HB.out | apply bA | apply bN | apply bD) | exact HB.out)) ?_; clear HB; intro gb127 w3 BK127 GW127 HB; have GE127 := GW127; obtain ⟨hczL_0, hczL_1, hfzL_0, hfzL_1⟩ := bk2 BK127.out))
  go_ret
  exact ⟨by first | rfl | (simp [q02, q01] <;> rfl) | (simp [*, q02, q01] <;> rfl), by repeat (first | (with_reducible first | exact HB.out | apply bA | apply bN | apply bD | refine bS ?_ GE127.out) | exact HB.out)⟩
 case p5 =>
  obtain rfl := Option.some.inj H
  go_enter Tryd.func17, Tryd.ntmps17
  go_wp2_with (first | ((with_reducible refine q0c (N := 1) rfl ?_); refine box0 rfl (N := 1) rfl (cs := #[.slice A0_0 l0_0.length c0_0, .bool a0_1]) (t := 24) (by first | (go_simp; done) | (go_simp; rfl)) (by repeat (first | (with_reducible first | exact HB.out | apply bA | apply bN | apply bD) | exact HB.out)) ?_; clear HB; intro gb127 w6 BK127 GW127 HB; have GE127 := GW127; obtain ⟨hczL_0, hczL_1, hfzL_0, hfzL_1⟩ := bk2 BK127.out))
  go_ret
  exact ⟨by first | rfl | (simp [q02, q01] <;> rfl) | (simp [*, q02, q01] <;> rfl), by repeat (first | (with_reducible first | exact HB.out | apply bA | apply bN | apply bD | refine bS ?_ GE127.out) | exact HB.out)⟩
 case n5 =>
  have H' := aS H
  clear H
  go_enter Tryd.func17, Tryd.ntmps17
  go_wp2_with (first | ((with_reducible refine q0c (N := 1) rfl ?_); refine box0 rfl (N := 1) rfl (cs := #[.slice A0_0 l0_0.length c0_0, .bool a0_1]) (t := 24) (by first | (go_simp; done) | (go_simp; rfl)) (by repeat (first | (with_reducible first | exact HB.out | apply bA | apply bN | apply bD) | exact HB.out)) ?_; clear HB; intro gb127 w8 BK127 GW127 HB; have GE127 := GW127; obtain ⟨hczL_0, hczL_1, hfzL_0, hfzL_1⟩ := bk2 BK127.out))
  go_loopg [4] k (fun kq v4 w' => ∃ (x4_1 : Int), v4 = .int .i64 x4_1 ∧ Aside0 (clerestoryref1_DocErr.l0 kq (l0_0.length : Int) x4_1 l0_0 a0_1 = some r) ∧ Aside0 (kq ≤ k) ∧ Aside0 (w'.heap[gb127]? = some (.cells #[(.slice A0_0 l0_0.length c0_0), .bool a0_1] 24 (0, 0))) ∧ Aside0 (Below w.heap.size w w'))
  case atStart => exact ⟨(0), (by first | rfl | (simp; done) | simp [*]), H', ⟨Nat.le_refl _⟩, ⟨by (with_reducible repeat (first | refine kN ?_ _ | refine kD ?_ | refine kA ?_ _)); exact BK127.out⟩, ⟨by repeat (first | (with_reducible first | exact HB.out | apply bA | apply bN | apply bD | refine bS ?_ GE127.out) | exact HB.out)⟩⟩
  case round =>
   clear H'
   obtain ⟨x4_1, rfl, HA, HK1, BK127, HB⟩ := hrel
   cases gk with
   | zero => exact absurd HA.out (by simp [clerestoryref1_DocErr.l0])
   | succ k1 =>
    have H := HA.out
    clear HA
    simp only [clerestoryref1_DocErr.l0] at H
    refine iT H ?p10 ?n10 <;> clear H
    case' p10 => intro c10b0 H
    case' n10 => intro c10b0 H
    case p10 =>
     have HC11 := aS H
     clear H
     go_upto_region 9 with (fail)
     go_cut [48] (fun v48 wc => ∃ (kq : Nat) (x48_10 : Bool), v48 = .bool x48_10 ∧ Aside0 (clerestoryref1_DocErr.j1 kq (l0_0.length : Int) x4_1 x48_10 l0_0 a0_1 = some r) ∧ Aside0 (kq ≤ k1) ∧ Aside0 (wc.heap[gb127]? = some (.cells #[(.slice A0_0 l0_0.length c0_0), .bool a0_1] 24 (0, 0))) ∧ Aside0 (Below w.heap.size w wc))
     case first =>
      have H := HC11.out
      clear HC11
      refine iE H ?p12 ?n12 <;> clear H
      case' p12 =>
       intro c12b0 c12b1 H
       (first | rw [c12b0] | (simp only [q0d, q0e]; rw [c12b0]) | skip)
       obtain ⟨hczL_0, hczL_1, hfzL_0, hfzL_1⟩ := bk2 BK127.out
       refine iLp H ?_; clear H; intro c13b0 H
       refine iTp H ?_; clear H; intro c14b0 H
       obtain ⟨ad128, A128_2, c128_2, A128_5, c128_5, e128, hx128_0, hx128_1, hx128_2, hx128_3, hx128_4, hx128_5, HC128_2, HR128_2, HC128_5, HR128_5, p128, q128⟩ := q0p HB.out HR0_0.out x4_1 (by first | with_reducible assumption | assumption) (by first | with_reducible assumption | assumption)
       cases e128
       refine iE H ?p15 ?n15 <;> clear H
      case' p15 => intro c15b0 c15b1 H; refine iT H ?p16 ?n16 <;> clear H
      case' p16 => intro c16b0 H
      case' n16 => intro c16b0 H
      case' n15 => intro c15 c15b0 c15b1 H
      case' n12 => intro c12 c12b0 c12b1 H; (first | rw [c12b0] | (simp only [q0d, q0e]; rw [c12b0]) | skip); refine iT H ?p20 ?n20 <;> clear H
      case' p20 => intro c20b0 H; obtain ⟨hczL_0, hczL_1, hfzL_0, hfzL_1⟩ := bk2 BK127.out; refine iLp H ?_; clear H; intro c21b0 H; refine iTp H ?_; clear H; intro c22b0 H
      case' n20 => intro c20b0 H
      case p16 =>
       have H' := aS H
       clear H
       obtain ⟨ad129, A129_2, c129_2, A129_5, c129_5, e129, hx129_0, hx129_1, hx129_2, hx129_3, hx129_4, hx129_5, HC129_2, HR129_2, HC129_5, HR129_5, p129, q129⟩ := q0p HB.out HR0_0.out x4_1 (by first | with_reducible assumption | assumption) (by first | with_reducible assumption | assumption)
       obtain rfl : ad128 = ad129 := (by injection e129)
       have ea_ := Option.some.inj (hx128_2.symm.trans hx129_2)
       injection ea_ with ea_ en_ ec_
       subst ea_
       subst ec_
       clear en_
       have ea_ := Option.some.inj (hx128_5.symm.trans hx129_5)
       injection ea_ with ea_ en_ ec_
       subst ea_
       subst ec_
       clear en_
       go_wp2
       go_meet
       case rel => exact ⟨_, ((((q00 l0_0 x4_1).f0) == 1)), (by first | rfl | (simp; done) | simp [*]), H', ⟨by have := HK1.out; first | omega | exact Nat.le_refl _⟩, ⟨by (with_reducible repeat (first | refine kN ?_ _ | refine kD ?_ | refine kA ?_ _)); exact BK127.out⟩, ⟨by repeat (first | (with_reducible first | exact HB.out | apply bA | apply bN | apply bD | refine bS ?_ GE127.out) | exact HB.out)⟩⟩
      case n16|n15|n20 =>
       have H' := aS H
       clear H
       go_wp2
       go_meet
       case rel => exact ⟨_, _, (by first | rfl | (simp; done) | simp [*]), H', ⟨by have := HK1.out; first | omega | exact Nat.le_refl _⟩, ⟨by (with_reducible repeat (first | refine kN ?_ _ | refine kD ?_ | refine kA ?_ _)); exact BK127.out⟩, ⟨by repeat (first | (with_reducible first | exact HB.out | apply bA | apply bN | apply bD | refine bS ?_ GE127.out) | exact HB.out)⟩⟩
      case p20 =>
       have H' := aS H
       clear H
       obtain ⟨ad130, A130_2, c130_2, A130_5, c130_5, e130, hx130_0, hx130_1, hx130_2, hx130_3, hx130_4, hx130_5, HC130_2, HR130_2, HC130_5, HR130_5, p130, q130⟩ := q0p HB.out HR0_0.out x4_1 (by first | with_reducible assumption | assumption) (by first | with_reducible assumption | assumption)
       cases e130
       go_wp2
       go_meet
       case rel => exact ⟨_, ((((q00 l0_0 x4_1).f0) == 1)), (by first | rfl | (simp; done) | simp [*]), H', ⟨by have := HK1.out; first | omega | exact Nat.le_refl _⟩, ⟨by (with_reducible repeat (first | refine kN ?_ _ | refine kD ?_ | refine kA ?_ _)); exact BK127.out⟩, ⟨by repeat (first | (with_reducible first | exact HB.out | apply bA | apply bN | apply bD | refine bS ?_ GE127.out) | exact HB.out)⟩⟩
     case rest =>
      clear HC11
      obtain ⟨kq, x48_10, rfl, HA, HJ10, BK127, HB⟩ := hcut
      cases kq with
      | zero => exact absurd HA.out (by simp [clerestoryref1_DocErr.j1])
      | succ kj10 =>
       have H := HA.out
       clear HA
       simp only [clerestoryref1_DocErr.j1] at H
       refine iV H ?p24 ?n24 <;> clear H
       case' p24 => intro c24 H; subst c24
       case' n24 =>
        intro c24 H; subst c24
        obtain ⟨hczL_0, hczL_1, hfzL_0, hfzL_1⟩ := bk2 BK127.out
        refine iLp H ?_; clear H; intro c25b0 H
        refine iTp H ?_; clear H; intro c26b0 H
        replace H := iB H
        obtain ⟨t132, A27, H⟩ := H
        obtain ⟨ad131, A131_2, c131_2, A131_5, c131_5, e131, hx131_0, hx131_1, hx131_2, hx131_3, hx131_4, hx131_5, HC131_2, HR131_2, HC131_5, HR131_5, p131, q131⟩ := q0p HB.out HR0_0.out x4_1 (by first | with_reducible assumption | assumption) (by first | with_reducible assumption | assumption)
        cases e131
        refine iE H ?p28 ?n28 <;> clear H
       case' p28 => intro c28b0 c28b1 H
       case' n28 => intro c28 c28b0 c28b1 H
       case p24 =>
        obtain rfl := Option.some.inj H
        go_wp2
        go_ret
        exact ⟨by first | rfl | (simp [q02, q01] <;> rfl) | (simp [*, q02, q01] <;> rfl), by repeat (first | (with_reducible first | exact HB.out | apply bA | apply bN | apply bD | refine bS ?_ GE127.out) | exact HB.out)⟩
       case p28 =>
        have H' := aS H
        clear H
        go_wp2_with (first | ((with_reducible refine q06 (f := 72) rfl ?_); refine q0k (some 54) rfl rfl Tryd.func72 (by kernel_rfl) rfl #[.agg #[.int .i64 ((q00 l0_0 x4_1).f0), .string ((q00 l0_0 x4_1).f1), .slice A131_2 ((q00 l0_0 x4_1).f2).length c131_2, .string ((q00 l0_0 x4_1).f3), .int .i64 ((q00 l0_0 x4_1).f4), .slice A131_5 ((q00 l0_0 x4_1).f5).length c131_5]] rfl (by (try simp only [List.map_toArray, List.map_cons, List.map_nil]); first | done | rfl | (simp only [List.length_drop, List.length_take]; rfl)) ?_; (with_reducible refine (clerestoryref1_NodeErr.calls kj10 ((q00 l0_0 x4_1).f0) ((q00 l0_0 x4_1).f1) _ _ ((q00 l0_0 x4_1).f2) ((q00 l0_0 x4_1).f3) ((q00 l0_0 x4_1).f4) _ _ ((q00 l0_0 x4_1).f5) t132 _ ?side1 ?side2 ?side3 ?side4 A27.out).mono ?_); (case side1 => repeat (first | exact (Kd.C_below HR131_2.out HB.out) | (with_reducible refine cA ?_ _) | (with_reducible refine cN ?_ _) | (with_reducible refine cD ?_))); (case side2 => exact HC131_2.out); (case side3 => repeat (first | exact (Kd.C_below HR131_5.out HB.out) | (with_reducible refine cA ?_ _) | (with_reducible refine cN ?_ _) | (with_reducible refine cD ?_))); (case side4 => exact HC131_5.out); rintro e w30 ⟨rfl, hb⟩; refine ⟨_, rfl, ?_⟩; replace BK127 := aS (q08 (g := gb127) (o := .cells #[.slice (some ad131) l0_0.length c0_0, .bool a0_1] 24 (0, 0)) (by (with_reducible repeat (first | refine kN ?_ _ | refine kD ?_ | refine kA ?_ _)); exact BK127.out) hb); replace HB := aS (q03 (by repeat (first | (with_reducible first | exact HB.out | apply bA | apply bN | apply bD | refine bS ?_ GE127.out) | exact HB.out)) hb); (try clear hb); (try clear hb2); (try clear hk); (try clear hi)))
        go_roundg kj10
        case measure => have := HK1.out; have := HJ10.out; omega
        case rel => exact ⟨(wrap64 (x4_1 + 1)), (by first | rfl | (simp; done) | simp [*]), H', ⟨by have := HK1.out; have := HJ10.out; omega⟩, ⟨by (with_reducible repeat (first | refine kN ?_ _ | refine kD ?_ | refine kA ?_ _)); exact BK127.out⟩, ⟨by repeat (first | (with_reducible first | exact HB.out | apply bA | apply bN | apply bD | refine bS ?_ GE127.out) | exact HB.out)⟩⟩
       case n28 =>
        obtain rfl := Option.some.inj H
        go_wp2_with (first | ((with_reducible refine q06 (f := 72) rfl ?_); refine q0k (some 54) rfl rfl Tryd.func72 (by kernel_rfl) rfl #[.agg #[.int .i64 ((q00 l0_0 x4_1).f0), .string ((q00 l0_0 x4_1).f1), .slice A131_2 ((q00 l0_0 x4_1).f2).length c131_2, .string ((q00 l0_0 x4_1).f3), .int .i64 ((q00 l0_0 x4_1).f4), .slice A131_5 ((q00 l0_0 x4_1).f5).length c131_5]] rfl (by (try simp only [List.map_toArray, List.map_cons, List.map_nil]); first | done | rfl | (simp only [List.length_drop, List.length_take]; rfl)) ?_; (with_reducible refine (clerestoryref1_NodeErr.calls kj10 ((q00 l0_0 x4_1).f0) ((q00 l0_0 x4_1).f1) _ _ ((q00 l0_0 x4_1).f2) ((q00 l0_0 x4_1).f3) ((q00 l0_0 x4_1).f4) _ _ ((q00 l0_0 x4_1).f5) t132 _ ?side1 ?side2 ?side3 ?side4 A27.out).mono ?_); (case side1 => repeat (first | exact (Kd.C_below HR131_2.out HB.out) | (with_reducible refine cA ?_ _) | (with_reducible refine cN ?_ _) | (with_reducible refine cD ?_))); (case side2 => exact HC131_2.out); (case side3 => repeat (first | exact (Kd.C_below HR131_5.out HB.out) | (with_reducible refine cA ?_ _) | (with_reducible refine cN ?_ _) | (with_reducible refine cD ?_))); (case side4 => exact HC131_5.out); rintro e w32 ⟨rfl, hb⟩; refine ⟨_, rfl, ?_⟩; replace BK127 := aS (q08 (g := gb127) (o := .cells #[.slice (some ad131) l0_0.length c0_0, .bool a0_1] 24 (0, 0)) (by (with_reducible repeat (first | refine kN ?_ _ | refine kD ?_ | refine kA ?_ _)); exact BK127.out) hb); replace HB := aS (q03 (by repeat (first | (with_reducible first | exact HB.out | apply bA | apply bN | apply bD | refine bS ?_ GE127.out) | exact HB.out)) hb); (try clear hb); (try clear hb2); (try clear hk); (try clear hi)))
        go_ret
        exact ⟨by first | rfl | (simp [q02, q01] <;> rfl) | (simp [*, q02, q01] <;> rfl), by repeat (first | (with_reducible first | exact HB.out | apply bA | apply bN | apply bD | refine bS ?_ GE127.out) | exact HB.out)⟩
    case n10 =>
     have H' := aS H
     clear H
     go_wp2
     go_loopg [6] k1 (fun kq v6 w' => ∃ (x6_2 : Int), v6 = .int .i64 x6_2 ∧ Aside0 (clerestoryref1_DocErr.l1 kq (l0_0.length : Int) x6_2 l0_0 a0_1 = some r) ∧ Aside0 (kq ≤ k1) ∧ Aside0 (w'.heap[gb127]? = some (.cells #[(.slice A0_0 l0_0.length c0_0), .bool a0_1] 24 (0, 0))) ∧ Aside0 (Below w.heap.size w w'))
     case atStart => exact ⟨(0), (by first | rfl | (simp; done) | simp [*]), H', ⟨Nat.le_refl _⟩, ⟨by (with_reducible repeat (first | refine kN ?_ _ | refine kD ?_ | refine kA ?_ _)); exact BK127.out⟩, ⟨by repeat (first | (with_reducible first | exact HB.out | apply bA | apply bN | apply bD | refine bS ?_ GE127.out) | exact HB.out)⟩⟩
     case round =>
      clear H'
      obtain ⟨x6_2, rfl, HA, HK2, BK127, HB⟩ := hrel
      cases gk with
      | zero => exact absurd HA.out (by simp [clerestoryref1_DocErr.l1])
      | succ k2 =>
       have H := HA.out
       clear HA
       simp only [clerestoryref1_DocErr.l1] at H
       refine iT H ?p33 ?n33 <;> clear H
       case' p33 => intro c33b0 H
       case' n33 => intro c33b0 H
       case p33 =>
        have H' := aS H
        clear H
        go_wp2
        go_loopg [7] k2 (fun kq v7 w' => ∃ (x7_3 : Int), v7 = .int .i64 x7_3 ∧ Aside0 (clerestoryref1_DocErr.l2 kq (l0_0.length : Int) x6_2 x7_3 l0_0 a0_1 = some r) ∧ Aside0 (kq ≤ k2) ∧ Aside0 (w'.heap[gb127]? = some (.cells #[(.slice A0_0 l0_0.length c0_0), .bool a0_1] 24 (0, 0))) ∧ Aside0 (Below w.heap.size w w'))
        case atStart => exact ⟨(0), (by first | rfl | (simp; done) | simp [*]), H', ⟨Nat.le_refl _⟩, ⟨by (with_reducible repeat (first | refine kN ?_ _ | refine kD ?_ | refine kA ?_ _)); exact BK127.out⟩, ⟨by repeat (first | (with_reducible first | exact HB.out | apply bA | apply bN | apply bD | refine bS ?_ GE127.out) | exact HB.out)⟩⟩
        case round =>
         clear H'
         obtain ⟨x7_3, rfl, HA, HK3, BK127, HB⟩ := hrel
         cases gk with
         | zero => exact absurd HA.out (by simp [clerestoryref1_DocErr.l2])
         | succ k3 =>
          have H := HA.out
          clear HA
          simp only [clerestoryref1_DocErr.l2] at H
          refine iLp H ?_; clear H; intro c34b0 H
          refine iTp H ?_; clear H; intro c35b0 H
          refine iT H ?p36 ?n36 <;> clear H
          case' p36 => intro c36b0 H; refine iLp H ?_; clear H; intro c37b0 H
          case' n36 => intro c36b0 H
          case p36 =>
           have HC38 := aS H
           clear H
           obtain ⟨hczL_0, hczL_1, hfzL_0, hfzL_1⟩ := bk2 BK127.out
           obtain ⟨ad133, A133_2, c133_2, A133_5, c133_5, e133, hx133_0, hx133_1, hx133_2, hx133_3, hx133_4, hx133_5, HC133_2, HR133_2, HC133_5, HR133_5, p133, q133⟩ := q0p HB.out HR0_0.out x6_2 (by first | with_reducible assumption | assumption) (by first | with_reducible assumption | assumption)
           cases e133
           obtain ⟨ad134, A134_2, c134_2, A134_5, c134_5, e134, hx134_0, hx134_1, hx134_2, hx134_3, hx134_4, hx134_5, HC134_2, HR134_2, HC134_5, HR134_5, p134, q134⟩ := q0p HB.out HR0_0.out x6_2 (by first | with_reducible assumption | assumption) (by first | with_reducible assumption | assumption)
           obtain rfl : ad133 = ad134 := (by injection e134)
           have ea_ := Option.some.inj (hx133_2.symm.trans hx134_2)
           injection ea_ with ea_ en_ ec_
           subst ea_
           subst ec_
           clear en_
           have ea_ := Option.some.inj (hx133_5.symm.trans hx134_5)
           injection ea_ with ea_ en_ ec_
           subst ea_
           subst ec_
           clear en_
           obtain ⟨ad135, e135, hx135_0, p135, q135⟩ := atIB HB.out HR134_5.out x7_3 (by first | with_reducible assumption | assumption) (by first | with_reducible assumption | assumption)
           cases e135
           go_upto_region 21 with (fail)
           go_cut [110] (fun v110 wc => ∃ (kq : Nat) (x110_37 : Bool), v110 = .bool x110_37 ∧ Aside0 (clerestoryref1_DocErr.j4 kq (l0_0.length : Int) x6_2 x7_3 (rd ((q00 l0_0 x6_2).f5) x7_3) x110_37 l0_0 a0_1 = some r) ∧ Aside0 (kq ≤ k3) ∧ Aside0 (wc.heap[gb127]? = some (.cells #[(.slice (some ad133) l0_0.length c0_0), .bool a0_1] 24 (0, 0))) ∧ Aside0 (Below w.heap.size w wc))
           case first =>
            have H := HC38.out
            clear HC38
            replace H := iB H
            obtain ⟨t136, A40, H⟩ := H
            refine iV H ?p41 ?n41 <;> clear H
            case' p41 => intro c41 H; subst c41; refine iLp H ?_; clear H; intro c42b0 H; (first | rw [c42b0] | (simp only [q0d, q0e]; rw [c42b0]) | skip); refine iTp H ?_; clear H; intro c43b0 H; refine iE H ?p44 ?n44 <;> clear H
            case' p44 => intro c44b0 c44b1 H; have c45b0 := eq_true (od (by first | (with_reducible assumption) | assumption) : 0 ≤ x7_3); refine iGp H ?_; clear H; intro c46 H; have c46b0 := eq_true c46; have c46b1 : decide (x7_3 ≤ (((q00 l0_0 x6_2).f5).length : Int)) = true := decide_eq_true c46; clear c46
            case' n44 => intro c44 c44b0 c44b1 H
            case' n41 => intro c41 H; subst c41
            case p44 =>
             replace H := iB H
             obtain ⟨t140, A47, H⟩ := H
             have H' := aS H
             clear H
             go_wp2_with (first | ((with_reducible refine q06 (f := 73) rfl ?_); refine q0k (some 86) rfl rfl Tryd.func73 (by kernel_rfl) rfl #[.int .i64 (rd ((q00 l0_0 x6_2).f5) x7_3), .int .i64 0, .int .i64 (wrap64 ((l0_0.length : Int) - 1))] rfl (by (try simp only [List.map_toArray, List.map_cons, List.map_nil]); first | done | rfl | (simp only [List.length_drop, List.length_take]; rfl)) ?_; (with_reducible refine (clerestoryref1_between.calls (rd ((q00 l0_0 x6_2).f5) x7_3) 0 (wrap64 ((l0_0.length : Int) - 1)) true _ A40.out).mono ?_); rintro e w' ⟨rfl, ⟨nd, rfl⟩⟩; refine ⟨_, rfl, ?_⟩; obtain ⟨hczL_0, hczL_1, hfzL_0, hfzL_1⟩ := bk2 BK127.out; obtain ⟨ad137, A137_2, c137_2, A137_5, c137_5, e137, hx137_0, hx137_1, hx137_2, hx137_3, hx137_4, hx137_5, HC137_2, HR137_2, HC137_5, HR137_5, p137, q137⟩ := q0p HB.out HR0_0.out (rd ((q00 l0_0 x6_2).f5) x7_3) (by first | with_reducible assumption | assumption) (by first | with_reducible assumption | assumption); obtain rfl : ad133 = ad137 := (by injection e137); obtain ⟨ad138, A138_2, c138_2, A138_5, c138_5, e138, hx138_0, hx138_1, hx138_2, hx138_3, hx138_4, hx138_5, HC138_2, HR138_2, HC138_5, HR138_5, p138, q138⟩ := q0p HB.out HR0_0.out x6_2 (by first | with_reducible assumption | assumption) (by first | with_reducible assumption | assumption); obtain rfl : ad133 = ad138 := (by injection e138); obtain ⟨i049, hi049, _, hsz49, _⟩ := info_parts info3; obtain ⟨hcut49, hA49, hC49⟩ := print_take_of (P := Tryd.prog) (Value.int .i64) 0 31 3 .i64 Tryd.underlying31 hi049 hsz49 A138_5 c138_5 ((q00 l0_0 x6_2).f5) x7_3 (od (by first | (with_reducible assumption) | assumption)) (od (by first | (with_reducible assumption) | assumption)) HC138_5.out; have HR139 := aS (Kd.C_of_reads (h1 := fun _ => rfl) (hA49 _ (Kd.reads_of_C HR138_5.out))); have HC139 := aS hC49; clear hA49 hC49 hi049 hsz49; obtain ⟨rfl, rfl⟩ : A138_5 = _ ∧ c138_5 = _ := (by have e_ := hx138_5.symm.trans hx134_5; injection e_ with e_; injection e_ with e1_ _ e2_; exact ⟨e1_, e2_⟩); have HSL139 := aS (show (((q00 l0_0 x6_2).f5).take (x7_3 : Int).toNat).length = x7_3.toNat from (by rw [List.length_take]; have h_ : (x7_3 : Int) ≤ (((q00 l0_0 x6_2).f5).length : Int) := od (by first | (with_reducible assumption) | assumption); omega))) | (go_at_call 74; (try rw [← HSL139.out]); (with_reducible refine (clerestoryref1_placeIn.calls k3 _ _ (((q00 l0_0 x6_2).f5).take (x7_3 : Int).toNat) (rd ((q00 l0_0 x6_2).f5) x7_3) t140 _ ?side1 ?side2 A47.out).mono ?_); (case side1 => repeat (first | exact (Kd.C_below HR139.out (by repeat (first | (with_reducible first | exact HB.out | apply bA | apply bN | apply bD | refine bS ?_ GE127.out) | exact HB.out))) | (with_reducible refine cA ?_ _) | (with_reducible refine cN ?_ _) | (with_reducible refine cD ?_))); (case side2 => exact HC139.out); rintro e w' ⟨rfl, ⟨nd, rfl⟩⟩))
             go_meet
             case rel => exact ⟨_, _, (by first | rfl | (simp; done) | simp [*]), H', ⟨by have := HK1.out; have := HK2.out; have := HK3.out; first | omega | exact Nat.le_refl _⟩, ⟨by (with_reducible repeat (first | refine kN ?_ _ | refine kD ?_ | refine kA ?_ _)); exact BK127.out⟩, ⟨by repeat (first | (with_reducible first | exact HB.out | apply bA | apply bN | apply bD | refine bS ?_ GE127.out) | exact HB.out)⟩⟩
            case n44 =>
             have H' := aS H
             clear H
             go_wp2_with (first | ((with_reducible refine q06 (f := 73) rfl ?_); refine q0k (some 86) rfl rfl Tryd.func73 (by kernel_rfl) rfl #[.int .i64 (rd ((q00 l0_0 x6_2).f5) x7_3), .int .i64 0, .int .i64 (wrap64 ((l0_0.length : Int) - 1))] rfl (by (try simp only [List.map_toArray, List.map_cons, List.map_nil]); first | done | rfl | (simp only [List.length_drop, List.length_take]; rfl)) ?_; (with_reducible refine (clerestoryref1_between.calls (rd ((q00 l0_0 x6_2).f5) x7_3) 0 (wrap64 ((l0_0.length : Int) - 1)) true _ A40.out).mono ?_); rintro e w' ⟨rfl, ⟨nd, rfl⟩⟩; refine ⟨_, rfl, ?_⟩; obtain ⟨hczL_0, hczL_1, hfzL_0, hfzL_1⟩ := bk2 BK127.out; obtain ⟨ad137, A137_2, c137_2, A137_5, c137_5, e137, hx137_0, hx137_1, hx137_2, hx137_3, hx137_4, hx137_5, HC137_2, HR137_2, HC137_5, HR137_5, p137, q137⟩ := q0p HB.out HR0_0.out (rd ((q00 l0_0 x6_2).f5) x7_3) (by first | with_reducible assumption | assumption) (by first | with_reducible assumption | assumption); obtain rfl : ad133 = ad137 := (by injection e137)))
             go_meet
             case rel => exact ⟨_, _, (by first | rfl | (simp; done) | simp [*]), H', ⟨by have := HK1.out; have := HK2.out; have := HK3.out; first | omega | exact Nat.le_refl _⟩, ⟨by (with_reducible repeat (first | refine kN ?_ _ | refine kD ?_ | refine kA ?_ _)); exact BK127.out⟩, ⟨by repeat (first | (with_reducible first | exact HB.out | apply bA | apply bN | apply bD | refine bS ?_ GE127.out) | exact HB.out)⟩⟩
            case n41 =>
             have H' := aS H
             clear H
             go_wp2_with (first | ((with_reducible refine q06 (f := 73) rfl ?_); refine q0k (some 86) rfl rfl Tryd.func73 (by kernel_rfl) rfl #[.int .i64 (rd ((q00 l0_0 x6_2).f5) x7_3), .int .i64 0, .int .i64 (wrap64 ((l0_0.length : Int) - 1))] rfl (by (try simp only [List.map_toArray, List.map_cons, List.map_nil]); first | done | rfl | (simp only [List.length_drop, List.length_take]; rfl)) ?_; (with_reducible refine (clerestoryref1_between.calls (rd ((q00 l0_0 x6_2).f5) x7_3) 0 (wrap64 ((l0_0.length : Int) - 1)) false _ A40.out).mono ?_); rintro e w' ⟨rfl, ⟨nd, rfl⟩⟩; refine ⟨_, rfl, ?_⟩))
             go_meet
             case rel => exact ⟨_, _, (by first | rfl | (simp; done) | simp [*]), H', ⟨by have := HK1.out; have := HK2.out; have := HK3.out; first | omega | exact Nat.le_refl _⟩, ⟨by (with_reducible repeat (first | refine kN ?_ _ | refine kD ?_ | refine kA ?_ _)); exact BK127.out⟩, ⟨by repeat (first | (with_reducible first | exact HB.out | apply bA | apply bN | apply bD | refine bS ?_ GE127.out) | exact HB.out)⟩⟩
           case rest =>
            clear HC38
            obtain ⟨kq, x110_37, rfl, HA, HJ37, BK127, HB⟩ := hcut
            cases kq with
            | zero => exact absurd HA.out (by simp [clerestoryref1_DocErr.j4])
            | succ kj37 =>
             have H := HA.out
             clear HA
             simp only [clerestoryref1_DocErr.j4] at H
             refine iV H ?p51 ?n51 <;> clear H
             case' p51 => intro c51 H; subst c51
             case' n51 => intro c51 H; subst c51; refine iE H ?p52 ?n52 <;> clear H
             case' p52 =>
              intro c52b0 c52b1 H
              obtain ⟨hczL_0, hczL_1, hfzL_0, hfzL_1⟩ := bk2 BK127.out
              refine iLp H ?_; clear H; intro c53b0 H
              refine iTp H ?_; clear H; intro c54b0 H
              obtain ⟨ad141, A141_2, c141_2, A141_5, c141_5, e141, hx141_0, hx141_1, hx141_2, hx141_3, hx141_4, hx141_5, HC141_2, HR141_2, HC141_5, HR141_5, p141, q141⟩ := q0p HB.out HR0_0.out (rd ((q00 l0_0 x6_2).f5) x7_3) (by first | with_reducible assumption | assumption) (by first | with_reducible assumption | assumption)
              obtain rfl : ad133 = ad141 := (by injection e141)
              refine iE H ?p55 ?n55 <;> clear H
             case' p55 => intro c55b0 c55b1 H
             case' n55 => intro c55 c55b0 c55b1 H
             case' n52 => intro c52 c52b0 c52b1 H
             case p51|p55 =>
              obtain rfl := Option.some.inj H
              go_wp2
              go_ret
              exact ⟨by first | rfl | (simp [q02, q01] <;> rfl) | (simp [*, q02, q01] <;> rfl), by repeat (first | (with_reducible first | exact HB.out | apply bA | apply bN | apply bD | refine bS ?_ GE127.out) | exact HB.out)⟩
             case n55|n52 =>
              have H' := aS H
              clear H
              go_wp2
              go_roundg kj37
              case measure => have := HK1.out; have := HK2.out; have := HK3.out; have := HJ37.out; omega
              case rel => exact ⟨(wrap64 (x7_3 + 1)), (by first | rfl | (simp; done) | simp [*]), H', ⟨by have := HK1.out; have := HK2.out; have := HK3.out; have := HJ37.out; omega⟩, ⟨by (with_reducible repeat (first | refine kN ?_ _ | refine kD ?_ | refine kA ?_ _)); exact BK127.out⟩, ⟨by repeat (first | (with_reducible first | exact HB.out | apply bA | apply bN | apply bD | refine bS ?_ GE127.out) | exact HB.out)⟩⟩
          case n36 =>
           have H' := aS H
           clear H
           obtain ⟨hczL_0, hczL_1, hfzL_0, hfzL_1⟩ := bk2 BK127.out
           obtain ⟨ad133, A133_2, c133_2, A133_5, c133_5, e133, hx133_0, hx133_1, hx133_2, hx133_3, hx133_4, hx133_5, HC133_2, HR133_2, HC133_5, HR133_5, p133, q133⟩ := q0p HB.out HR0_0.out x6_2 (by first | with_reducible assumption | assumption) (by first | with_reducible assumption | assumption)
           cases e133
           go_wp2
           go_roundg k3
           case measure => have := HK1.out; have := HK2.out; have := HK3.out; omega
           case rel => exact ⟨(wrap64 (x6_2 + 1)), (by first | rfl | (simp; done) | simp [*]), H', ⟨by have := HK1.out; have := HK2.out; have := HK3.out; omega⟩, ⟨by (with_reducible repeat (first | refine kN ?_ _ | refine kD ?_ | refine kA ?_ _)); exact BK127.out⟩, ⟨by repeat (first | (with_reducible first | exact HB.out | apply bA | apply bN | apply bD | refine bS ?_ GE127.out) | exact HB.out)⟩⟩
       case n33 =>
        have H' := aS H
        clear H
        go_wp2
        go_loopg [9] k2 (fun kq v9 w' => ∃ (x9_3 : Int), v9 = .int .i64 x9_3 ∧ Aside0 (clerestoryref1_DocErr.l3 kq (l0_0.length : Int) x9_3 l0_0 a0_1 = some r) ∧ Aside0 (kq ≤ k2) ∧ Aside0 (w'.heap[gb127]? = some (.cells #[(.slice A0_0 l0_0.length c0_0), .bool a0_1] 24 (0, 0))) ∧ Aside0 (Below w.heap.size w w'))
        case atStart => exact ⟨(0), (by first | rfl | (simp; done) | simp [*]), H', ⟨Nat.le_refl _⟩, ⟨by (with_reducible repeat (first | refine kN ?_ _ | refine kD ?_ | refine kA ?_ _)); exact BK127.out⟩, ⟨by repeat (first | (with_reducible first | exact HB.out | apply bA | apply bN | apply bD | refine bS ?_ GE127.out) | exact HB.out)⟩⟩
        case round =>
         clear H'
         obtain ⟨x9_3, rfl, HA, HK3, BK127, HB⟩ := hrel
         cases gk with
         | zero => exact absurd HA.out (by simp [clerestoryref1_DocErr.l3])
         | succ k3 =>
          have H := HA.out
          clear HA
          simp only [clerestoryref1_DocErr.l3] at H
          obtain ⟨hczL_0, hczL_1, hfzL_0, hfzL_1⟩ := bk2 BK127.out
          refine iT H ?p59 ?n59 <;> clear H
          case' p59 => intro c59b0 H; refine iLp H ?_; clear H; intro c60b0 H; refine iTp H ?_; clear H; intro c61b0 H; refine iE H ?p62 ?n62 <;> clear H
          case' p62 => intro c62b0 c62b1 H
          case' n62 => intro c62 c62b0 c62b1 H; replace H := iB H; obtain ⟨t143, A64, H⟩ := H; refine iV H ?p65 ?n65 <;> clear H
          case' p65 =>
           intro c65 H; subst c65
           refine iLp H ?_; clear H; intro c66b0 H
           refine iTp H ?_; clear H; intro c67b0 H
           replace H := iB H
           obtain ⟨t145, A68, H⟩ := H
           obtain ⟨ad142, A142_2, c142_2, A142_5, c142_5, e142, hx142_0, hx142_1, hx142_2, hx142_3, hx142_4, hx142_5, HC142_2, HR142_2, HC142_5, HR142_5, p142, q142⟩ := q0p HB.out HR0_0.out x9_3 (by first | with_reducible assumption | assumption) (by first | with_reducible assumption | assumption)
           cases e142
           refine iT H ?p69 ?n69 <;> clear H
          case' p69 => intro c69b0 H
          case' n69 => intro c69b0 H
          case' n65 => intro c65 H; subst c65
          case' n59 =>
           intro c59b0 H
           refine iTNp (m := 0) (n := l0_0.length) H rfl rfl ?_; clear H; intro c73b0 c73b1 H
           have p146 : 0 ≤ (0 : Int) := (by omega)
           have q146 : 0 < (l0_0.length : Int) := od (by first | (with_reducible assumption) | assumption)
           obtain ⟨ad146, A146_2, c146_2, A146_5, c146_5, e146, hx146_0, hx146_1, hx146_2, hx146_3, hx146_4, hx146_5, hl146_2, hi146_2, hl146_5, hi146_5⟩ := at_T43 HR0_0.out 0 p146 q146
           cases e146
           refine iE H ?p74 ?n74 <;> clear H
          case' p74 => intro c74b0 c74b1 H
          case' n74 => intro c74 c74b0 c74b1 H
          case p62 =>
           have H' := aS H
           clear H
           obtain ⟨ad142, A142_2, c142_2, A142_5, c142_5, e142, hx142_0, hx142_1, hx142_2, hx142_3, hx142_4, hx142_5, HC142_2, HR142_2, HC142_5, HR142_5, p142, q142⟩ := q0p HB.out HR0_0.out x9_3 (by first | with_reducible assumption | assumption) (by first | with_reducible assumption | assumption)
           cases e142
           go_wp2
           go_roundg k3
           case measure => have := HK1.out; have := HK2.out; have := HK3.out; omega
           case rel => exact ⟨(wrap64 (x9_3 + 1)), (by first | rfl | (simp; done) | simp [*]), H', ⟨by have := HK1.out; have := HK2.out; have := HK3.out; omega⟩, ⟨by (with_reducible repeat (first | refine kN ?_ _ | refine kD ?_ | refine kA ?_ _)); exact BK127.out⟩, ⟨by repeat (first | (with_reducible first | exact HB.out | apply bA | apply bN | apply bD | refine bS ?_ GE127.out) | exact HB.out)⟩⟩
          case p69 =>
           obtain rfl := Option.some.inj H
           go_wp2_with (first | (go_at_call 73; (with_reducible refine (clerestoryref1_between.calls ((q00 l0_0 x9_3).f4) 0 (wrap64 ((l0_0.length : Int) - 1)) true _ A64.out).mono ?_); rintro e w' ⟨rfl, ⟨nd, rfl⟩⟩; obtain ⟨ad144, A144_2, c144_2, A144_5, c144_5, e144, hx144_0, hx144_1, hx144_2, hx144_3, hx144_4, hx144_5, HC144_2, HR144_2, HC144_5, HR144_5, p144, q144⟩ := q0p HB.out HR0_0.out ((q00 l0_0 x9_3).f4) (by first | with_reducible assumption | assumption) (by first | with_reducible assumption | assumption); obtain rfl : ad142 = ad144 := (by injection e144)) | (go_at_call 74; (with_reducible refine (clerestoryref1_placeIn.calls k3 _ _ ((q00 l0_0 ((q00 l0_0 x9_3).f4)).f5) x9_3 t145 _ ?side1 ?side2 A68.out).mono ?_); (case side1 => repeat (first | exact (Kd.C_below HR144_5.out (by repeat (first | (with_reducible first | exact HB.out | apply bA | apply bN | apply bD | refine bS ?_ GE127.out) | exact HB.out))) | (with_reducible refine cA ?_ _) | (with_reducible refine cN ?_ _) | (with_reducible refine cD ?_))); (case side2 => exact HC144_5.out); rintro e w' ⟨rfl, ⟨nd, rfl⟩⟩))
           go_ret
           exact ⟨by first | rfl | (simp [q02, q01] <;> rfl) | (simp [*, q02, q01] <;> rfl), by repeat (first | (with_reducible first | exact HB.out | apply bA | apply bN | apply bD | refine bS ?_ GE127.out) | exact HB.out)⟩
          case n69 =>
           have H' := aS H
           clear H
           go_wp2_with (first | (go_at_call 73; (with_reducible refine (clerestoryref1_between.calls ((q00 l0_0 x9_3).f4) 0 (wrap64 ((l0_0.length : Int) - 1)) true _ A64.out).mono ?_); rintro e w' ⟨rfl, ⟨nd, rfl⟩⟩; obtain ⟨ad144, A144_2, c144_2, A144_5, c144_5, e144, hx144_0, hx144_1, hx144_2, hx144_3, hx144_4, hx144_5, HC144_2, HR144_2, HC144_5, HR144_5, p144, q144⟩ := q0p HB.out HR0_0.out ((q00 l0_0 x9_3).f4) (by first | with_reducible assumption | assumption) (by first | with_reducible assumption | assumption); obtain rfl : ad142 = ad144 := (by injection e144)) | (go_at_call 74; (with_reducible refine (clerestoryref1_placeIn.calls k3 _ _ ((q00 l0_0 ((q00 l0_0 x9_3).f4)).f5) x9_3 t145 _ ?side1 ?side2 A68.out).mono ?_); (case side1 => repeat (first | exact (Kd.C_below HR144_5.out (by repeat (first | (with_reducible first | exact HB.out | apply bA | apply bN | apply bD | refine bS ?_ GE127.out) | exact HB.out))) | (with_reducible refine cA ?_ _) | (with_reducible refine cN ?_ _) | (with_reducible refine cD ?_))); (case side2 => exact HC144_5.out); rintro e w' ⟨rfl, ⟨nd, rfl⟩⟩))
           go_roundg k3
           case measure => have := HK1.out; have := HK2.out; have := HK3.out; omega
           case rel => exact ⟨(wrap64 (x9_3 + 1)), (by first | rfl | (simp; done) | simp [*]), H', ⟨by have := HK1.out; have := HK2.out; have := HK3.out; omega⟩, ⟨by (with_reducible repeat (first | refine kN ?_ _ | refine kD ?_ | refine kA ?_ _)); exact BK127.out⟩, ⟨by repeat (first | (with_reducible first | exact HB.out | apply bA | apply bN | apply bD | refine bS ?_ GE127.out) | exact HB.out)⟩⟩
          case n65 =>
           obtain rfl := Option.some.inj H
           obtain ⟨ad142, A142_2, c142_2, A142_5, c142_5, e142, hx142_0, hx142_1, hx142_2, hx142_3, hx142_4, hx142_5, HC142_2, HR142_2, HC142_5, HR142_5, p142, q142⟩ := q0p HB.out HR0_0.out x9_3 (by first | with_reducible assumption | assumption) (by first | with_reducible assumption | assumption)
           cases e142
           go_wp2_with (first | (go_at_call 73; (with_reducible refine (clerestoryref1_between.calls ((q00 l0_0 x9_3).f4) 0 (wrap64 ((l0_0.length : Int) - 1)) false _ A64.out).mono ?_); rintro e w' ⟨rfl, ⟨nd, rfl⟩⟩))
           go_ret
           exact ⟨by first | rfl | (simp [q02, q01] <;> rfl) | (simp [*, q02, q01] <;> rfl), by repeat (first | (with_reducible first | exact HB.out | apply bA | apply bN | apply bD | refine bS ?_ GE127.out) | exact HB.out)⟩
          case p74 =>
           have H' := aS H
           clear H
           have qi146 : (0 < l0_0.length) = True := eq_true (by omega)
           (try rw [show ((0 : Int)).toNat = 0 from rfl] at hx146_0)
           (try rw [show 0 * 6 = 0 from rfl] at hx146_0)
           (try rw [Addr.add_zero'] at hx146_0)
           (try rw [show ((0 : Int)).toNat = 0 from rfl] at hx146_1)
           (try rw [show 0 * 6 = 0 from rfl] at hx146_1)
           (try rw [Addr.add_zero'] at hx146_1)
           (try rw [show ((0 : Int)).toNat = 0 from rfl] at hx146_2)
           (try rw [show 0 * 6 = 0 from rfl] at hx146_2)
           (try rw [Addr.add_zero'] at hx146_2)
           (try rw [show ((0 : Int)).toNat = 0 from rfl] at hx146_3)
           (try rw [show 0 * 6 = 0 from rfl] at hx146_3)
           (try rw [Addr.add_zero'] at hx146_3)
           (try rw [show ((0 : Int)).toNat = 0 from rfl] at hx146_4)
           (try rw [show 0 * 6 = 0 from rfl] at hx146_4)
           (try rw [Addr.add_zero'] at hx146_4)
           (try rw [show ((0 : Int)).toNat = 0 from rfl] at hx146_5)
           (try rw [show 0 * 6 = 0 from rfl] at hx146_5)
           (try rw [Addr.add_zero'] at hx146_5)
           replace hx146_0 := q09 HB.out hx146_0
           replace hx146_1 := q09 HB.out hx146_1
           replace hx146_2 := q09 HB.out hx146_2
           replace hx146_3 := q09 HB.out hx146_3
           replace hx146_4 := q09 HB.out hx146_4
           replace hx146_5 := q09 HB.out hx146_5
           have HR146_2 := aS hi146_2
           have HC146_2 := aS hl146_2
           clear hi146_2 hl146_2
           have HR146_5 := aS hi146_5
           have HC146_5 := aS hl146_5
           clear hi146_5 hl146_5
           replace p146 := eq_true p146
           replace q146 := eq_true q146
           go_wp2
           go_loopg [11] k3 (fun kq v11 w' => ∃ (x11_4 : Int), v11 = .int .i64 x11_4 ∧ Aside0 (clerestoryref1_DocErr.l4 kq (l0_0.length : Int) x11_4 l0_0 a0_1 = some r) ∧ Aside0 (kq ≤ k3) ∧ Aside0 (w'.heap[gb127]? = some (.cells #[(.slice (some ad146) l0_0.length c0_0), .bool a0_1] 24 (0, 0))) ∧ Aside0 (Below w.heap.size w w'))
           case atStart => exact ⟨(0), (by first | rfl | (simp; done) | simp [*]), H', ⟨Nat.le_refl _⟩, ⟨by (with_reducible repeat (first | refine kN ?_ _ | refine kD ?_ | refine kA ?_ _)); exact BK127.out⟩, ⟨by repeat (first | (with_reducible first | exact HB.out | apply bA | apply bN | apply bD | refine bS ?_ GE127.out) | exact HB.out)⟩⟩
           case round =>
            clear H'
            obtain ⟨x11_4, rfl, HA, HK4, BK127, HB⟩ := hrel
            cases gk with
            | zero => exact absurd HA.out (by simp [clerestoryref1_DocErr.l4])
            | succ k4 =>
             have H := HA.out
             clear HA
             simp only [clerestoryref1_DocErr.l4] at H
             refine iT H ?p76 ?n76 <;> clear H
             case' p76 => intro c76b0 H; replace H := iB H; obtain ⟨t147, A77, H⟩ := H; obtain ⟨hczL_0, hczL_1, hfzL_0, hfzL_1⟩ := bk2 BK127.out; refine iT H ?p78 ?n78 <;> clear H
             case' p78 => intro c78b0 H
             case' n78 => intro c78b0 H; refine iT H ?p81 ?n81 <;> clear H
             case' p81 => intro c81b0 H
             case' n81 => intro c81b0 H
             case' n76 => intro c76b0 H
             case p78 =>
              obtain rfl := Option.some.inj H
              go_wp2_with (first | ((with_reducible refine q06 (f := 65) rfl ?_); refine q0k (some 166) rfl rfl Tryd.func65 (by kernel_rfl) rfl #[.agg #[.slice (some ad146) l0_0.length c0_0, .bool a0_1], .int .i64 x11_4] rfl (by (try simp only [List.map_toArray, List.map_cons, List.map_nil]); first | done | rfl | (simp only [List.length_drop, List.length_take]; rfl)) ?_; (with_reducible refine (clerestoryref1_Deep.calls k4 _ _ l0_0 a0_1 x11_4 t147 _ ?side1 ?side2 A77.out).mono ?_); (case side1 => repeat (first | exact (Kd.C_below HR0_0.out HB.out) | (with_reducible refine cA ?_ _) | (with_reducible refine cN ?_ _) | (with_reducible refine cD ?_))); (case side2 => exact HC0_0.out); rintro e w80 ⟨rfl, hb⟩; refine ⟨_, rfl, ?_⟩; replace BK127 := aS (q08 (g := gb127) (o := .cells #[.slice (some ad146) l0_0.length c0_0, .bool a0_1] 24 (0, 0)) (by (with_reducible repeat (first | refine kN ?_ _ | refine kD ?_ | refine kA ?_ _)); exact BK127.out) hb); replace HB := aS (q03 (by repeat (first | (with_reducible first | exact HB.out | apply bA | apply bN | apply bD | refine bS ?_ GE127.out) | exact HB.out)) hb); (try clear hb); (try clear hb2); (try clear hk); (try clear hi)))
              go_ret
              exact ⟨by first | rfl | (simp [q02, q01] <;> rfl) | (simp [*, q02, q01] <;> rfl), by repeat (first | (with_reducible first | exact HB.out | apply bA | apply bN | apply bD | refine bS ?_ GE127.out) | exact HB.out)⟩
             case p81 =>
              obtain rfl := Option.some.inj H
              go_wp2_with (first | ((with_reducible refine q06 (f := 65) rfl ?_); refine q0k (some 166) rfl rfl Tryd.func65 (by kernel_rfl) rfl #[.agg #[.slice (some ad146) l0_0.length c0_0, .bool a0_1], .int .i64 x11_4] rfl (by (try simp only [List.map_toArray, List.map_cons, List.map_nil]); first | done | rfl | (simp only [List.length_drop, List.length_take]; rfl)) ?_; (with_reducible refine (clerestoryref1_Deep.calls k4 _ _ l0_0 a0_1 x11_4 t147 _ ?side1 ?side2 A77.out).mono ?_); (case side1 => repeat (first | exact (Kd.C_below HR0_0.out HB.out) | (with_reducible refine cA ?_ _) | (with_reducible refine cN ?_ _) | (with_reducible refine cD ?_))); (case side2 => exact HC0_0.out); rintro e w83 ⟨rfl, hb⟩; refine ⟨_, rfl, ?_⟩; replace BK127 := aS (q08 (g := gb127) (o := .cells #[.slice (some ad146) l0_0.length c0_0, .bool a0_1] 24 (0, 0)) (by (with_reducible repeat (first | refine kN ?_ _ | refine kD ?_ | refine kA ?_ _)); exact BK127.out) hb); replace HB := aS (q03 (by repeat (first | (with_reducible first | exact HB.out | apply bA | apply bN | apply bD | refine bS ?_ GE127.out) | exact HB.out)) hb); (try clear hb); (try clear hb2); (try clear hk); (try clear hi)))
              go_ret
              exact ⟨by first | rfl | (simp [q02, q01] <;> rfl) | (simp [*, q02, q01] <;> rfl), by repeat (first | (with_reducible first | exact HB.out | apply bA | apply bN | apply bD | refine bS ?_ GE127.out) | exact HB.out)⟩
             case n81 =>
              have H' := aS H
              clear H
              go_wp2_with (first | ((with_reducible refine q06 (f := 65) rfl ?_); refine q0k (some 166) rfl rfl Tryd.func65 (by kernel_rfl) rfl #[.agg #[.slice (some ad146) l0_0.length c0_0, .bool a0_1], .int .i64 x11_4] rfl (by (try simp only [List.map_toArray, List.map_cons, List.map_nil]); first | done | rfl | (simp only [List.length_drop, List.length_take]; rfl)) ?_; (with_reducible refine (clerestoryref1_Deep.calls k4 _ _ l0_0 a0_1 x11_4 t147 _ ?side1 ?side2 A77.out).mono ?_); (case side1 => repeat (first | exact (Kd.C_below HR0_0.out HB.out) | (with_reducible refine cA ?_ _) | (with_reducible refine cN ?_ _) | (with_reducible refine cD ?_))); (case side2 => exact HC0_0.out); rintro e w85 ⟨rfl, hb⟩; refine ⟨_, rfl, ?_⟩; replace BK127 := aS (q08 (g := gb127) (o := .cells #[.slice (some ad146) l0_0.length c0_0, .bool a0_1] 24 (0, 0)) (by (with_reducible repeat (first | refine kN ?_ _ | refine kD ?_ | refine kA ?_ _)); exact BK127.out) hb); replace HB := aS (q03 (by repeat (first | (with_reducible first | exact HB.out | apply bA | apply bN | apply bD | refine bS ?_ GE127.out) | exact HB.out)) hb); (try clear hb); (try clear hb2); (try clear hk); (try clear hi)))
              go_roundg k4
              case measure => have := HK1.out; have := HK2.out; have := HK3.out; have := HK4.out; omega
              case rel => exact ⟨(wrap64 (x11_4 + 1)), (by first | rfl | (simp; done) | simp [*]), H', ⟨by have := HK1.out; have := HK2.out; have := HK3.out; have := HK4.out; omega⟩, ⟨by (with_reducible repeat (first | refine kN ?_ _ | refine kD ?_ | refine kA ?_ _)); exact BK127.out⟩, ⟨by repeat (first | (with_reducible first | exact HB.out | apply bA | apply bN | apply bD | refine bS ?_ GE127.out) | exact HB.out)⟩⟩
             case n76 =>
              obtain rfl := Option.some.inj H
              go_wp2
              go_ret
              exact ⟨by first | rfl | (simp [q02, q01] <;> rfl) | (simp [*, q02, q01] <;> rfl), by repeat (first | (with_reducible first | exact HB.out | apply bA | apply bN | apply bD | refine bS ?_ GE127.out) | exact HB.out)⟩
          case n74 =>
           obtain rfl := Option.some.inj H
           have qi146 : (0 < l0_0.length) = True := eq_true (by omega)
           (try rw [show ((0 : Int)).toNat = 0 from rfl] at hx146_0)
           (try rw [show 0 * 6 = 0 from rfl] at hx146_0)
           (try rw [Addr.add_zero'] at hx146_0)
           (try rw [show ((0 : Int)).toNat = 0 from rfl] at hx146_1)
           (try rw [show 0 * 6 = 0 from rfl] at hx146_1)
           (try rw [Addr.add_zero'] at hx146_1)
           (try rw [show ((0 : Int)).toNat = 0 from rfl] at hx146_2)
           (try rw [show 0 * 6 = 0 from rfl] at hx146_2)
           (try rw [Addr.add_zero'] at hx146_2)
           (try rw [show ((0 : Int)).toNat = 0 from rfl] at hx146_3)
           (try rw [show 0 * 6 = 0 from rfl] at hx146_3)
           (try rw [Addr.add_zero'] at hx146_3)
           (try rw [show ((0 : Int)).toNat = 0 from rfl] at hx146_4)
           (try rw [show 0 * 6 = 0 from rfl] at hx146_4)
           (try rw [Addr.add_zero'] at hx146_4)
           (try rw [show ((0 : Int)).toNat = 0 from rfl] at hx146_5)
           (try rw [show 0 * 6 = 0 from rfl] at hx146_5)
           (try rw [Addr.add_zero'] at hx146_5)
           replace hx146_0 := q09 HB.out hx146_0
           replace hx146_1 := q09 HB.out hx146_1
           replace hx146_2 := q09 HB.out hx146_2
           replace hx146_3 := q09 HB.out hx146_3
           replace hx146_4 := q09 HB.out hx146_4
           replace hx146_5 := q09 HB.out hx146_5
           have HR146_2 := aS hi146_2
           have HC146_2 := aS hl146_2
           clear hi146_2 hl146_2
           have HR146_5 := aS hi146_5
           have HC146_5 := aS hl146_5
           clear hi146_5 hl146_5
           replace p146 := eq_true p146
           replace q146 := eq_true q146
           go_wp2
           go_ret
           exact ⟨by first | rfl | (simp [q02, q01] <;> rfl) | (simp [*, q02, q01] <;> rfl), by repeat (first | (with_reducible first | exact HB.out | apply bA | apply bN | apply bD | refine bS ?_ GE127.out) | exact HB.out)⟩
end Go.Proofs.YthjnallbbhnndaaDoor.XWp
namespace Go.Proofs.YthjnallbbhnndaaDoor.XWp
open Go.Proofs.YthjnallbbhnndaaDoor.Short Go.RowKit Go.Proofs.YthjnallbbhnndaaDoorW.PrintWords Go.Proofs.YthjnallbbhnndaaDoorW.PrintLast Go.Proofs.YthjnallbbhnndaaDoorW.PrintMore
attribute [local go_sem] q15 q13 q1i q1h q0x q0w q14 q12   -- for this text's walks alone
set_option linter.unusedVariables false
set_option linter.unusedSimpArgs false
def clerestoryref1_Under.l0 : Nat → Int → Int → List (S43) → Bool → Option (Bool)
 | 0, _, _, _, _ => none
 | k + 1, x1, x2, x149000, x149001 => if x1 = x2 then (some (x1 == x2)) else (if x1 ≥ 0 then (if 0 ≤ x1 then (if x1 < (x149000.length : Int) then (clerestoryref1_Under.l0 k ((q00 x149000 x1).f4) x2 x149000 x149001) else (none)) else (none)) else (some (x1 == x2)))
def clerestoryref1_Under.f (k : Nat) (l0_0 : List (S43)) (a0_1 : Bool) (a1 : Int) (a2 : Int) : Option (Bool) := clerestoryref1_Under.l0 k a1 a2 l0_0 a0_1
theorem clerestoryref1_Under.mono_l : ∀ k, (∀ y0 y1 y2 y3, LeO (clerestoryref1_Under.l0 k y0 y1 y2 y3) (clerestoryref1_Under.l0 (k + 1) y0 y1 y2 y3))
 | 0 => fun _ _ _ _ r h => by simp [clerestoryref1_Under.l0] at h
 | k + 1 => by
  have ih0 := clerestoryref1_Under.mono_l k
  ·intro y0 y1 y2 y3
   unfold clerestoryref1_Under.l0
   repeat' first | with_reducible first | apply ih0 | exact LeO.refl _ | exact LeO.none _ | refine LeO.ite ?_ ?_ | refine LeO.bind ?_ (fun _ => ?_) | (first | apply ih0 | exact LeO.none _ | refine LeO.ite ?_ ?_ | refine LeO.bind ?_ (fun _ => ?_))
theorem clerestoryref1_Under.mono : ∀ a0 a1 a2 a3 k, LeO (clerestoryref1_Under.f k a0 a1 a2 a3) (clerestoryref1_Under.f (k + 1) a0 a1 a2 a3) := by
 intro a0 a1 a2 a3 k
 have ih0 := clerestoryref1_Under.mono_l k
 unfold clerestoryref1_Under.f
 repeat' first | with_reducible first | apply ih0 | exact LeO.refl _ | exact LeO.none _ | refine LeO.ite ?_ ?_ | refine LeO.bind ?_ (fun _ => ?_) | (first | apply ih0 | exact LeO.none _ | refine LeO.ite ?_ ?_ | refine LeO.bind ?_ (fun _ => ?_))
set_option maxHeartbeats 8000000 in
set_option maxRecDepth 100000 in
theorem clerestoryref1_Under.calls (k : Nat) (A0_0 : Option Addr) (c0_0 : Nat) (l0_0 : List (S43)) (a0_1 : Bool) (a1 : Int) (a2 : Int) (r : Bool) (w : World) (hr0_0 : Kd.C k43 w A0_0 l0_0.length l0_0) (hc0_0 : l0_0.length ≤ c0_0) (h : clerestoryref1_Under.f k l0_0 a0_1 a1 a2 = some r) :
 Calls Tryd.prog 26 #[.agg #[.slice A0_0 l0_0.length c0_0, .bool a0_1], .int .i64 a1, .int .i64 a2] w fun e w' => e = .returned (.bool r) ∧ Below w.heap.size w w' := by
 have hu24 := Tryd.underlying24
 have HR0_0 := aS hr0_0
 have HC0_0 := aS hc0_0
 clear hr0_0 hc0_0
 have HB := aS (Below.refl w.heap.size w)
 have H := h; clear h; unfold clerestoryref1_Under.f at H
 have H' := aS H
 clear H
 go_enter Tryd.func26, Tryd.ntmps26
 go_wp2_with (first | ((with_reducible refine q0c (N := 3) rfl ?_); refine box0 rfl (N := 3) rfl (cs := #[.slice A0_0 l0_0.length c0_0, .bool a0_1]) (t := 24) (by first | (go_simp; done) | (go_simp; rfl)) (by repeat (first | (with_reducible first | exact HB.out | apply bA | apply bN | apply bD) | exact HB.out)) ?_; clear HB; intro gb148 w4 BK148 GW148 HB; have GE148 := GW148))
 go_loopg [1] k (fun kq v1 w' => ∃ (x1_1 : Int), v1 = .int .i64 x1_1 ∧ Aside0 (clerestoryref1_Under.l0 kq x1_1 a2 l0_0 a0_1 = some r) ∧ Aside0 (kq ≤ k) ∧ Aside0 (w'.heap[gb148]? = some (.cells #[(.slice A0_0 l0_0.length c0_0), .bool a0_1] 24 (0, 0))) ∧ Aside0 (Below w.heap.size w w'))
 case atStart => exact ⟨(a1), (by first | rfl | (simp; done) | simp [*]), H', ⟨Nat.le_refl _⟩, ⟨by (with_reducible repeat (first | refine kN ?_ _ | refine kD ?_ | refine kA ?_ _)); exact BK148.out⟩, ⟨by repeat (first | (with_reducible first | exact HB.out | apply bA | apply bN | apply bD | refine bS ?_ GE148.out) | exact HB.out)⟩⟩
 case round =>
  clear H'
  obtain ⟨x1_1, rfl, HA, HK1, BK148, HB⟩ := hrel
  cases gk with
  | zero => exact absurd HA.out (by simp [clerestoryref1_Under.l0])
  | succ k1 =>
   have H := HA.out
   clear HA
   simp only [clerestoryref1_Under.l0] at H
   refine iE H ?p5 ?n5 <;> clear H
   case' p5 => intro c5b0 c5b1 H
   case' n5 => intro c5 c5b0 c5b1 H; refine iL H ?p6 ?n6 <;> clear H
   case' p6 => intro c6b0 H; obtain ⟨hczL_0, hczL_1, hfzL_0, hfzL_1⟩ := bk2 BK148.out; refine iLp H ?_; clear H; intro c7b0 H; refine iTp H ?_; clear H; intro c8b0 H
   case' n6 => intro c6b0 H
   case p5|n6 =>
    obtain rfl := Option.some.inj H
    go_wp2
    go_ret
    exact ⟨by first | rfl | (simp [q02, q01] <;> rfl) | (simp [*, q02, q01] <;> rfl), by repeat (first | (with_reducible first | exact HB.out | apply bA | apply bN | apply bD | refine bS ?_ GE148.out) | exact HB.out)⟩
   case p6 =>
    have H' := aS H
    clear H
    obtain ⟨ad149, A149_2, c149_2, A149_5, c149_5, e149, hx149_0, hx149_1, hx149_2, hx149_3, hx149_4, hx149_5, HC149_2, HR149_2, HC149_5, HR149_5, p149, q149⟩ := q0p HB.out HR0_0.out x1_1 (by first | with_reducible assumption | assumption) (by first | with_reducible assumption | assumption)
    cases e149
    go_wp2
    go_roundg k1
    case measure => have := HK1.out; omega
    case rel => exact ⟨((q00 l0_0 x1_1).f4), (by first | rfl | (simp; done) | simp [*]), H', ⟨by have := HK1.out; omega⟩, ⟨by (with_reducible repeat (first | refine kN ?_ _ | refine kD ?_ | refine kA ?_ _)); exact BK148.out⟩, ⟨by repeat (first | (with_reducible first | exact HB.out | apply bA | apply bN | apply bD | refine bS ?_ GE148.out) | exact HB.out)⟩⟩
end Go.Proofs.YthjnallbbhnndaaDoor.XWp
namespace Go.Proofs.YthjnallbbhnndaaDoor.XWp
open Go.Proofs.YthjnallbbhnndaaDoor.Short Go.RowKit Go.Proofs.YthjnallbbhnndaaDoorW.PrintWords Go.Proofs.YthjnallbbhnndaaDoorW.PrintLast Go.Proofs.YthjnallbbhnndaaDoorW.PrintMore
attribute [local go_sem] q15 q13 q1i q1h q0x q0w q14 q12   -- for this text's walks alone
set_option linter.unusedVariables false
set_option linter.unusedSimpArgs false
mutual
def clerestoryref1_WalkErr.l0 : Nat → List Int → Int → Int → List (S43) → Bool → Option (Int)
 | 0, _, _, _, _, _ => none
 | k + 1, x1, x5, x6, x151000, x151001 => if x6 < (x1.length : Int) then (clerestoryref1_WalkErr.j1 k x1 x5 x6 (x5 == 0) x151000 x151001) else (clerestoryref1_WalkErr.j1 k x1 x5 x6 false x151000 x151001)
def clerestoryref1_WalkErr.j1 : Nat → List Int → Int → Int → Bool → List (S43) → Bool → Option (Int)
 | 0, _, _, _, _, _, _ => none
 | k + 1, x1, x5, x6, x17, x151000, x151001 => if x17 = true then (if 0 ≤ x6 then (if x6 < (x1.length : Int) then ((clerestoryref1_between.f (rd x1 x6) 0 (wrap64 ((x151000.length : Int) - 1))).bind fun t153 => (if t153 = true then (clerestoryref1_WalkErr.l0 k x1 x5 (wrap64 (x6 + 1)) x151000 x151001) else (clerestoryref1_WalkErr.l0 k x1 1 (wrap64 (x6 + 1)) x151000 x151001))) else (none)) else (none)) else (clerestoryref1_WalkErr.l1 k x1 x5 0 x151000 x151001)
def clerestoryref1_WalkErr.l1 : Nat → List Int → Int → Int → List (S43) → Bool → Option (Int)
 | 0, _, _, _, _, _ => none
 | k + 1, x1, x5, x7, x151000, x151001 => if x7 < (x1.length : Int) then (clerestoryref1_WalkErr.j3 k x1 x5 x7 (x5 == 0) x151000 x151001) else (clerestoryref1_WalkErr.j3 k x1 x5 x7 false x151000 x151001)
def clerestoryref1_WalkErr.j3 : Nat → List Int → Int → Int → Bool → List (S43) → Bool → Option (Int)
 | 0, _, _, _, _, _, _ => none
 | k + 1, x1, x5, x7, x37, x151000, x151001 => if x37 = true then (if 0 ≤ x7 then (if x7 < (x1.length : Int) then ((clerestoryref1_Under.f k x151000 x151001 (rd x1 x7) 0).bind fun t155 => (if t155 = true then (clerestoryref1_WalkErr.l1 k x1 x5 (wrap64 (x7 + 1)) x151000 x151001) else (clerestoryref1_WalkErr.l1 k x1 5 (wrap64 (x7 + 1)) x151000 x151001))) else (none)) else (none)) else (some x5)
end
def clerestoryref1_WalkErr.f (k : Nat) (l0_0 : List (S43)) (a0_1 : Bool) (l1 : List Int) : Option (Int) := (clerestoryref1_DocErr.f k l0_0 a0_1).bind fun t151 => (clerestoryref1_WalkErr.l0 k l1 t151 0 l0_0 a0_1)
theorem clerestoryref1_WalkErr.mono_l : ∀ k, (∀ y0 y1 y2 y3 y4, LeO (clerestoryref1_WalkErr.l0 k y0 y1 y2 y3 y4) (clerestoryref1_WalkErr.l0 (k + 1) y0 y1 y2 y3 y4)) ∧ (∀ y0 y1 y2 y3 y4 y5, LeO (clerestoryref1_WalkErr.j1 k y0 y1 y2 y3 y4 y5) (clerestoryref1_WalkErr.j1 (k + 1) y0 y1 y2 y3 y4 y5)) ∧ (∀ y0 y1 y2 y3 y4, LeO (clerestoryref1_WalkErr.l1 k y0 y1 y2 y3 y4) (clerestoryref1_WalkErr.l1 (k + 1) y0 y1 y2 y3 y4)) ∧ (∀ y0 y1 y2 y3 y4 y5, LeO (clerestoryref1_WalkErr.j3 k y0 y1 y2 y3 y4 y5) (clerestoryref1_WalkErr.j3 (k + 1) y0 y1 y2 y3 y4 y5))
 | 0 => ⟨fun _ _ _ _ _ r h => by simp [clerestoryref1_WalkErr.l0] at h, fun _ _ _ _ _ _ r h => by simp [clerestoryref1_WalkErr.j1] at h, fun _ _ _ _ _ r h => by simp [clerestoryref1_WalkErr.l1] at h, fun _ _ _ _ _ _ r h => by simp [clerestoryref1_WalkErr.j3] at h⟩
 | k + 1 => by
  obtain ⟨ih0, ih1, ih2, ih3⟩ := clerestoryref1_WalkErr.mono_l k
  refine ⟨?_, ?_, ?_, ?_⟩
  all_goals intros
  all_goals (first | unfold clerestoryref1_WalkErr.l0 | unfold clerestoryref1_WalkErr.j1 | unfold clerestoryref1_WalkErr.l1 | unfold clerestoryref1_WalkErr.j3)
  all_goals (repeat' first | with_reducible first | apply ih0 | apply ih1 | apply ih2 | apply ih3 | apply clerestoryref1_DocErr.mono | apply clerestoryref1_Under.mono | exact LeO.refl _ | exact LeO.none _ | refine LeO.ite ?_ ?_ | refine LeO.bind ?_ (fun _ => ?_) | (first | apply ih0 | apply ih1 | apply ih2 | apply ih3 | apply clerestoryref1_DocErr.mono | apply clerestoryref1_Under.mono | exact LeO.none _ | refine LeO.ite ?_ ?_ | refine LeO.bind ?_ (fun _ => ?_)))
theorem clerestoryref1_WalkErr.mono : ∀ a0 a1 a2 k, LeO (clerestoryref1_WalkErr.f k a0 a1 a2) (clerestoryref1_WalkErr.f (k + 1) a0 a1 a2) := by
 intro a0 a1 a2 k
 obtain ⟨ih0, ih1, ih2, ih3⟩ := clerestoryref1_WalkErr.mono_l k
 unfold clerestoryref1_WalkErr.f
 repeat' first | with_reducible first | apply ih0 | apply ih1 | apply ih2 | apply ih3 | apply clerestoryref1_DocErr.mono | apply clerestoryref1_Under.mono | exact LeO.refl _ | exact LeO.none _ | refine LeO.ite ?_ ?_ | refine LeO.bind ?_ (fun _ => ?_) | (first | apply ih0 | apply ih1 | apply ih2 | apply ih3 | apply clerestoryref1_DocErr.mono | apply clerestoryref1_Under.mono | exact LeO.none _ | refine LeO.ite ?_ ?_ | refine LeO.bind ?_ (fun _ => ?_))
def clerestoryref1_WalkErr.T5 : Bool × List (List Nat × List Nat) := (true, [([], []), ([], []), ([0, 1], [0, 1]), ([2], [2]), ([], []), ([4], [4]), ([5], [5]), ([6], [6]), ([3, 7], [3, 7]), ([8], [8])])
def clerestoryref1_WalkErr.B5 : List Nat := [0, 0, 3, 7, 0, 16, 48, 112, 255, 511]
theorem clerestoryref1_WalkErr.tab5 : rtab .any (opsOf Tryd.f18 5) = clerestoryref1_WalkErr.T5 := by kernel_rfl
theorem clerestoryref1_WalkErr.bits5 : q1l clerestoryref1_WalkErr.T5.2 clerestoryref1_WalkErr.B5 = true := by kernel_rfl
set_option maxHeartbeats 8000000 in
set_option maxRecDepth 100000 in
theorem clerestoryref1_WalkErr.calls (k : Nat) (A0_0 : Option Addr) (c0_0 : Nat) (l0_0 : List (S43)) (a0_1 : Bool) (A1 : Option Addr) (c1 : Nat) (l1 : List Int) (r : Int) (w : World) (hr0_0 : Kd.C k43 w A0_0 l0_0.length l0_0) (hc0_0 : l0_0.length ≤ c0_0) (hr1 : Kd.C (Kd.int .i64) w A1 l1.length l1) (hc1 : l1.length ≤ c1) (h : clerestoryref1_WalkErr.f k l0_0 a0_1 l1 = some r) :
 Calls Tryd.prog 18 #[.agg #[.slice A0_0 l0_0.length c0_0, .bool a0_1], .slice A1 l1.length c1] w fun e w' => e = .returned (.int .i64 r) ∧ Below w.heap.size w w' := by
 have hu24 := Tryd.underlying24
 have HR0_0 := aS hr0_0
 have HC0_0 := aS hc0_0
 clear hr0_0 hc0_0
 have HR1 := aS hr1
 have HC1 := aS hc1
 clear hr1 hc1
 have HB := aS (Below.refl w.heap.size w)
 have H := h; clear h; unfold clerestoryref1_WalkErr.f at H
 replace H := iB H
 obtain ⟨t151, A3, H⟩ := H
 have H' := aS H
 clear H
 go_enter Tryd.func18, Tryd.ntmps18
 go_wp2_with (first | ((with_reducible refine q0c (N := 2) rfl ?_); refine box0 rfl (N := 2) rfl (cs := #[.slice A0_0 l0_0.length c0_0, .bool a0_1]) (t := 24) (by first | (go_simp; done) | (go_simp; rfl)) (by repeat (first | (with_reducible first | exact HB.out | apply bA | apply bN | apply bD) | exact HB.out)) ?_; clear HB; intro gb150 w4 BK150 GW150 HB; have GE150 := GW150; obtain ⟨hcz5_0, hcz5_1, hfz5_0, hfz5_1⟩ := bk2 BK150.out) | ((with_reducible refine q06 (f := 17) rfl ?_); refine q0k (some 9) rfl rfl Tryd.func17 (by kernel_rfl) rfl #[.agg #[.slice A0_0 l0_0.length c0_0, .bool a0_1]] rfl (by (try simp only [List.map_toArray, List.map_cons, List.map_nil]); first | done | rfl | (simp only [List.length_drop, List.length_take]; rfl)) ?_; (with_reducible refine (clerestoryref1_DocErr.calls k _ _ l0_0 a0_1 t151 _ ?side1 ?side2 A3.out).mono ?_); (case side1 => repeat (first | exact (Kd.C_below HR0_0.out HB.out) | (with_reducible refine cA ?_ _) | (with_reducible refine cN ?_ _) | (with_reducible refine cD ?_))); (case side2 => exact HC0_0.out); rintro e w6 ⟨rfl, hb⟩; refine ⟨_, rfl, ?_⟩; replace BK150 := aS (q08 (g := gb150) (o := .cells #[.slice A0_0 l0_0.length c0_0, .bool a0_1] 24 (0, 0)) (by (with_reducible repeat (first | refine kN ?_ _ | refine kD ?_ | refine kA ?_ _)); exact BK150.out) hb); replace HB := aS (q03 (by repeat (first | (with_reducible first | exact HB.out | apply bA | apply bN | apply bD | refine bS ?_ GE150.out) | exact HB.out)) hb); (try clear hb); (try clear hb2); (try clear hk); (try clear hi)))
 go_loopg [5, 6] k (fun kq v5 v6 w' => ∃ (x5_1 : Int) (x6_1 : Int), v5 = .int .i64 x5_1 ∧ v6 = .int .i64 x6_1 ∧ Aside0 (clerestoryref1_WalkErr.l0 kq l1 x5_1 x6_1 l0_0 a0_1 = some r) ∧ Aside0 (kq ≤ k) ∧ Aside0 (w'.heap[gb150]? = some (.cells #[(.slice A0_0 l0_0.length c0_0), .bool a0_1] 24 (0, 0))) ∧ Aside0 (Below w.heap.size w w'))
 case atStart => exact ⟨(t151), (0), (by first | rfl | (simp; done) | simp [*]), (by first | rfl | (simp; done) | simp [*]), H', ⟨Nat.le_refl _⟩, ⟨by (with_reducible repeat (first | refine kN ?_ _ | refine kD ?_ | refine kA ?_ _)); exact BK150.out⟩, ⟨by repeat (first | (with_reducible first | exact HB.out | apply bA | apply bN | apply bD | refine bS ?_ GE150.out) | exact HB.out)⟩⟩
 case round =>
  clear H'
  obtain ⟨x5_1, x6_1, rfl, rfl, HA, HK1, BK150, HB⟩ := hrel
  cases gk with
  | zero => exact absurd HA.out (by simp [clerestoryref1_WalkErr.l0])
  | succ k1 =>
   have H := HA.out
   clear HA
   simp only [clerestoryref1_WalkErr.l0] at H
   have HC7 := aS H
   clear H
   go_upto_region 3 with (fail)
   go_cut [17] (fun v17 wc => ∃ (kq : Nat) (x17_6 : Bool), v17 = .bool x17_6 ∧ Aside0 (clerestoryref1_WalkErr.j1 kq l1 x5_1 x6_1 x17_6 l0_0 a0_1 = some r) ∧ Aside0 (kq ≤ k1) ∧ Aside0 (wc.heap[gb150]? = some (.cells #[(.slice A0_0 l0_0.length c0_0), .bool a0_1] 24 (0, 0))) ∧ Aside0 (Below w.heap.size w wc))
   case first =>
    have H := HC7.out
    clear HC7
    refine iT H ?p8 ?n8 <;> clear H
    case' p8 => intro c8b0 H
    case' n8 => intro c8b0 H
    case p8|n8 =>
     (first | rw [c8b0] | (simp only [q0d, q0e]; rw [c8b0]) | skip)
     have H' := aS H
     clear H
     go_wp2
     go_meet
     case rel => exact ⟨_, _, (by first | rfl | (simp; done) | simp [*]), H', ⟨by have := HK1.out; first | omega | exact Nat.le_refl _⟩, ⟨by (with_reducible repeat (first | refine kN ?_ _ | refine kD ?_ | refine kA ?_ _)); exact BK150.out⟩, ⟨by repeat (first | (with_reducible first | exact HB.out | apply bA | apply bN | apply bD | refine bS ?_ GE150.out) | exact HB.out)⟩⟩
   case rest =>
    clear HC7
    obtain ⟨kq, x17_6, rfl, HA, HJ6, BK150, HB⟩ := hcut
    cases kq with
    | zero => exact absurd HA.out (by simp [clerestoryref1_WalkErr.j1])
    | succ kj6 =>
     have H := HA.out
     clear HA
     simp only [clerestoryref1_WalkErr.j1] at H
     refine iV H ?p9 ?n9 <;> clear H
     case' p9 => intro c9 H; subst c9; refine iLp H ?_; clear H; intro c10b0 H; refine iTp H ?_; clear H; intro c11b0 H; replace H := iB H; obtain ⟨t153, A12, H⟩ := H; refine iV H ?p13 ?n13 <;> clear H
     case' p13 => intro c13 H; subst c13
     case' n13 => intro c13 H; subst c13
     case' n9 => intro c9 H; subst c9
     case p13 =>
      have H' := aS H
      clear H
      try go_wp2
      have n0_ := aS (q1e BK150.out)
      have n1_ := aS (q0s HB.out)
      clear BK150
      clear HB
      have BK150 := n0_
      have HB := n1_
      clear n0_ n1_
      have p152 : 0 ≤ (x6_1 : Int) := od (by first | (with_reducible assumption) | assumption)
      have q152 : x6_1 < (l1.length : Int) := od (by first | (with_reducible assumption) | assumption)
      obtain ⟨ad152, e152, hx152_0⟩ := Kd.at_int HR1.out x6_1 p152 q152
      have hw152_0 := hx152_0
      cases e152
      replace hx152_0 := q09 HB.out hx152_0
      replace p152 := eq_true p152
      replace q152 := eq_true q152
      refine start_ (n := 10) (S := fun w' => w'.cell? ⟨gb150, 0, none⟩ = some (.slice A0_0 l0_0.length c0_0) ∧ w'.cell? ⟨gb150, 1, none⟩ = some (.bool a0_1) ∧ w'.cell? (ad152.add (x6_1).toNat) = some (.int .i64 (rd l1 x6_1))) (ds := []) #[false, false, false, false, false, false, false, false, false, false] (by kernel_rfl) rfl rfl ⟨(q05 BK150.out 0).trans rfl, (q05 BK150.out 1).trans rfl, ((HB.out.cell (World.block_lt_of_cell? w _ hw152_0)).trans hw152_0)⟩ (fun hHeld => ?_); refine q1c clerestoryref1_WalkErr.tab5 clerestoryref1_WalkErr.bits5 (fun HT_ HW_ => ?_)
      generalize wc.drew = w14 at BK150 HB hx152_0 hHeld ⊢
      refine q0o (i := 0) (N := some 20) (v := ?_) (a' := ?_) #[true, false, false, false, false, false, false, false, false, false] rfl rfl (q0i HT_.out (by kernel_rfl)) (fun _ _ _ h => h) (Or.inl ⟨by rfl, ?_⟩) ?_ ?_
      rotate_left
      ·intro w'
       go_simp
       with_reducible rfl
      rotate_left
      ·simp only [Act.put, s1, s2, s3, q0d, q0e]
       rfl
      refine q0o (i := 1) (N := some 21) (v := ?_) (a' := ?_) #[true, true, false, false, false, false, false, false, false, false] rfl rfl (q0i HT_.out (by kernel_rfl)) (fun _ _ _ h => h) (Or.inl ⟨by rfl, ?_⟩) ?_ ?_
      rotate_left
      ·intro w'
       go_simp
       with_reducible rfl
      rotate_left
      ·simp only [Act.put, s1, s2, s3, q0d, q0e]
       rfl
      refine q0o (i := 2) (N := some 22) (v := ?_) (a' := ?_) #[true, true, true, false, false, false, false, false, false, false] rfl rfl (q0i HT_.out (by kernel_rfl)) (fun _ _ _ h => h) (Or.inl ⟨by rfl, ?_⟩) ?_ ?_
      rotate_left
      ·intro w'
       go_simp
       with_reducible rfl
      rotate_left
      ·simp only [Act.put, s1, s2, s3, q0d, q0e]
       rfl
      refine q0o (i := 4) (N := some 24) (v := ?_) (a' := ?_) #[true, true, true, false, true, false, false, false, false, false] rfl rfl (q0i HT_.out (by kernel_rfl)) (fun _ _ _ h => h) (Or.inl ⟨by rfl, ?_⟩) ?_ ?_
      rotate_left
      ·intro w'
       go_simp
       with_reducible rfl
      rotate_left
      ·simp only [Act.put, s1, s2, s3, q0d, q0e]
       rfl
      refine take_ (i := 3) (N := some 23) (v := ?_) (a' := ?_) #[true, true, true, true, true, false, false, false, false, false] rfl rfl (q0r HT_.out HW_.out (by kernel_rfl)) (fun _ _ _ h => h) (Or.inl ⟨by rfl, ?_⟩) hHeld ?_ ?_
      rotate_left
      ·rintro w' ⟨s0, s1, s2⟩
       go_simp
       with_reducible rfl
      rotate_left
      ·simp only [Act.put, s1, s2, s3, q0d, q0e]
       rfl
      refine take_ (i := 5) (N := some 25) (v := ?_) (a' := ?_) #[true, true, true, true, true, true, false, false, false, false] rfl rfl (q0r HT_.out HW_.out (by kernel_rfl)) (fun _ _ _ h => h) (Or.inl ⟨by rfl, ?_⟩) hHeld ?_ ?_
      rotate_left
      ·rintro w' ⟨s0, s1, s2⟩
       go_simp
       with_reducible rfl
      rotate_left
      ·simp only [Act.put, s1, s2, s3, q0d, q0e]
       rfl
      refine q0o (i := 6) (N := some 26) (v := ?_) (a' := ?_) #[true, true, true, true, true, true, true, false, false, false] rfl rfl (q0i HT_.out (by kernel_rfl)) (fun _ _ _ h => h) (Or.inl ⟨by rfl, ?_⟩) ?_ ?_
      rotate_left
      ·intro w'
       go_simp
       with_reducible rfl
      rotate_left
      ·simp only [Act.put, s1, s2, s3, q0d, q0e]
       rfl
      refine q0o (i := 7) (N := some 27) (v := ?_) (a' := ?_) #[true, true, true, true, true, true, true, true, false, false] rfl rfl (q0i HT_.out (by kernel_rfl)) (fun _ _ _ h => h) (Or.inl ⟨by rfl, ?_⟩) ?_ ?_
      rotate_left
      ·intro w'
       go_simp
       with_reducible rfl
      rotate_left
      ·simp only [Act.put, s1, s2, s3, q0d, q0e]
       rfl
      refine one_ (i := 8) (N := some 28) #[true, true, true, true, true, true, true, true, true, false] rfl rfl (one_of HT_.out (by kernel_rfl)) (by decide) (fun K hK => ?_)
      refine goes_ Tryd.func73 (by kernel_rfl) rfl #[.int .i64 (rd l1 x6_1), .int .i64 0, .int .i64 (wrap64 ((l0_0.length : Int) - 1))] (by rfl) rfl rfl (by (try simp only [List.map_toArray, List.map_cons, List.map_nil]); first | done | rfl | (simp only [List.length_drop, List.length_take]; rfl)) ?_
      with_reducible refine (clerestoryref1_between.calls (rd l1 x6_1) 0 (wrap64 ((l0_0.length : Int) - 1)) true _ A12.out).mono ?_
      rintro e w' ⟨rfl, ⟨nd, rfl⟩⟩
      refine ⟨_, rfl, ?_⟩
      refine hK.out _ _ ⟨(q05 BK150.out 0).trans rfl, (q05 BK150.out 1).trans rfl, ((HB.out.cell (World.block_lt_of_cell? w _ hw152_0)).trans hw152_0)⟩ (fun hHeld => ?_)
      clear hK K
      refine norm_ (a' := ?_) ?_ ?_
      rotate_left
      ·show Act.put _ (some 28) _ = _
       simp only [Act.put, s1, s2, s3, q0d, q0e]
       rfl
      refine q0o (i := 9) (N := some 29) (v := ?_) (a' := ?_) #[true, true, true, true, true, true, true, true, true, true] rfl rfl (q0i HT_.out (by kernel_rfl)) (fun _ _ _ h => h) (Or.inl ⟨by rfl, ?_⟩) ?_ ?_
      rotate_left
      ·intro w'
       go_simp
       with_reducible rfl
      rotate_left
      ·simp only [Act.put, s1, s2, s3, q0d, q0e]
       rfl
      refine done_ (done_of HT_.out (by kernel_rfl)) ?_
      try go_wp2
      go_roundg kj6
      case measure => have := HK1.out; have := HJ6.out; omega
      case rel => exact ⟨(x5_1), (wrap64 (x6_1 + 1)), (by first | rfl | (simp; done) | simp [*]), (by first | rfl | (simp; done) | simp [*]), H', ⟨by have := HK1.out; have := HJ6.out; omega⟩, ⟨by (with_reducible repeat (first | refine kN ?_ _ | refine kD ?_ | refine kA ?_ _)); exact BK150.out⟩, ⟨by repeat (first | (with_reducible first | exact HB.out | apply bA | apply bN | apply bD | refine bS ?_ GE150.out) | exact HB.out)⟩⟩
     case n13 =>
      have H' := aS H
      clear H
      try go_wp2
      have n0_ := aS (q1e BK150.out)
      have n1_ := aS (q0s HB.out)
      clear BK150
      clear HB
      have BK150 := n0_
      have HB := n1_
      clear n0_ n1_
      have p152 : 0 ≤ (x6_1 : Int) := od (by first | (with_reducible assumption) | assumption)
      have q152 : x6_1 < (l1.length : Int) := od (by first | (with_reducible assumption) | assumption)
      obtain ⟨ad152, e152, hx152_0⟩ := Kd.at_int HR1.out x6_1 p152 q152
      have hw152_0 := hx152_0
      cases e152
      replace hx152_0 := q09 HB.out hx152_0
      replace p152 := eq_true p152
      replace q152 := eq_true q152
      refine start_ (n := 10) (S := fun w' => w'.cell? ⟨gb150, 0, none⟩ = some (.slice A0_0 l0_0.length c0_0) ∧ w'.cell? ⟨gb150, 1, none⟩ = some (.bool a0_1) ∧ w'.cell? (ad152.add (x6_1).toNat) = some (.int .i64 (rd l1 x6_1))) (ds := []) #[false, false, false, false, false, false, false, false, false, false] (by kernel_rfl) rfl rfl ⟨(q05 BK150.out 0).trans rfl, (q05 BK150.out 1).trans rfl, ((HB.out.cell (World.block_lt_of_cell? w _ hw152_0)).trans hw152_0)⟩ (fun hHeld => ?_); refine q1c clerestoryref1_WalkErr.tab5 clerestoryref1_WalkErr.bits5 (fun HT_ HW_ => ?_)
      generalize wc.drew = w15 at BK150 HB hx152_0 hHeld ⊢
      refine q0o (i := 0) (N := some 20) (v := ?_) (a' := ?_) #[true, false, false, false, false, false, false, false, false, false] rfl rfl (q0i HT_.out (by kernel_rfl)) (fun _ _ _ h => h) (Or.inl ⟨by rfl, ?_⟩) ?_ ?_
      rotate_left
      ·intro w'
       go_simp
       with_reducible rfl
      rotate_left
      ·simp only [Act.put, s1, s2, s3, q0d, q0e]
       rfl
      refine q0o (i := 1) (N := some 21) (v := ?_) (a' := ?_) #[true, true, false, false, false, false, false, false, false, false] rfl rfl (q0i HT_.out (by kernel_rfl)) (fun _ _ _ h => h) (Or.inl ⟨by rfl, ?_⟩) ?_ ?_
      rotate_left
      ·intro w'
       go_simp
       with_reducible rfl
      rotate_left
      ·simp only [Act.put, s1, s2, s3, q0d, q0e]
       rfl
      refine q0o (i := 2) (N := some 22) (v := ?_) (a' := ?_) #[true, true, true, false, false, false, false, false, false, false] rfl rfl (q0i HT_.out (by kernel_rfl)) (fun _ _ _ h => h) (Or.inl ⟨by rfl, ?_⟩) ?_ ?_
      rotate_left
      ·intro w'
       go_simp
       with_reducible rfl
      rotate_left
      ·simp only [Act.put, s1, s2, s3, q0d, q0e]
       rfl
      refine q0o (i := 4) (N := some 24) (v := ?_) (a' := ?_) #[true, true, true, false, true, false, false, false, false, false] rfl rfl (q0i HT_.out (by kernel_rfl)) (fun _ _ _ h => h) (Or.inl ⟨by rfl, ?_⟩) ?_ ?_
      rotate_left
      ·intro w'
       go_simp
       with_reducible rfl
      rotate_left
      ·simp only [Act.put, s1, s2, s3, q0d, q0e]
       rfl
      refine take_ (i := 3) (N := some 23) (v := ?_) (a' := ?_) #[true, true, true, true, true, false, false, false, false, false] rfl rfl (q0r HT_.out HW_.out (by kernel_rfl)) (fun _ _ _ h => h) (Or.inl ⟨by rfl, ?_⟩) hHeld ?_ ?_
      rotate_left
      ·rintro w' ⟨s0, s1, s2⟩
       go_simp
       with_reducible rfl
      rotate_left
      ·simp only [Act.put, s1, s2, s3, q0d, q0e]
       rfl
      refine take_ (i := 5) (N := some 25) (v := ?_) (a' := ?_) #[true, true, true, true, true, true, false, false, false, false] rfl rfl (q0r HT_.out HW_.out (by kernel_rfl)) (fun _ _ _ h => h) (Or.inl ⟨by rfl, ?_⟩) hHeld ?_ ?_
      rotate_left
      ·rintro w' ⟨s0, s1, s2⟩
       go_simp
       with_reducible rfl
      rotate_left
      ·simp only [Act.put, s1, s2, s3, q0d, q0e]
       rfl
      refine q0o (i := 6) (N := some 26) (v := ?_) (a' := ?_) #[true, true, true, true, true, true, true, false, false, false] rfl rfl (q0i HT_.out (by kernel_rfl)) (fun _ _ _ h => h) (Or.inl ⟨by rfl, ?_⟩) ?_ ?_
      rotate_left
      ·intro w'
       go_simp
       with_reducible rfl
      rotate_left
      ·simp only [Act.put, s1, s2, s3, q0d, q0e]
       rfl
      refine q0o (i := 7) (N := some 27) (v := ?_) (a' := ?_) #[true, true, true, true, true, true, true, true, false, false] rfl rfl (q0i HT_.out (by kernel_rfl)) (fun _ _ _ h => h) (Or.inl ⟨by rfl, ?_⟩) ?_ ?_
      rotate_left
      ·intro w'
       go_simp
       with_reducible rfl
      rotate_left
      ·simp only [Act.put, s1, s2, s3, q0d, q0e]
       rfl
      refine one_ (i := 8) (N := some 28) #[true, true, true, true, true, true, true, true, true, false] rfl rfl (one_of HT_.out (by kernel_rfl)) (by decide) (fun K hK => ?_)
      refine goes_ Tryd.func73 (by kernel_rfl) rfl #[.int .i64 (rd l1 x6_1), .int .i64 0, .int .i64 (wrap64 ((l0_0.length : Int) - 1))] (by rfl) rfl rfl (by (try simp only [List.map_toArray, List.map_cons, List.map_nil]); first | done | rfl | (simp only [List.length_drop, List.length_take]; rfl)) ?_
      with_reducible refine (clerestoryref1_between.calls (rd l1 x6_1) 0 (wrap64 ((l0_0.length : Int) - 1)) false _ A12.out).mono ?_
      rintro e w' ⟨rfl, ⟨nd, rfl⟩⟩
      refine ⟨_, rfl, ?_⟩
      refine hK.out _ _ ⟨(q05 BK150.out 0).trans rfl, (q05 BK150.out 1).trans rfl, ((HB.out.cell (World.block_lt_of_cell? w _ hw152_0)).trans hw152_0)⟩ (fun hHeld => ?_)
      clear hK K
      refine norm_ (a' := ?_) ?_ ?_
      rotate_left
      ·show Act.put _ (some 28) _ = _
       simp only [Act.put, s1, s2, s3, q0d, q0e]
       rfl
      refine q0o (i := 9) (N := some 29) (v := ?_) (a' := ?_) #[true, true, true, true, true, true, true, true, true, true] rfl rfl (q0i HT_.out (by kernel_rfl)) (fun _ _ _ h => h) (Or.inl ⟨by rfl, ?_⟩) ?_ ?_
      rotate_left
      ·intro w'
       go_simp
       with_reducible rfl
      rotate_left
      ·simp only [Act.put, s1, s2, s3, q0d, q0e]
       rfl
      refine done_ (done_of HT_.out (by kernel_rfl)) ?_
      try go_wp2
      go_roundg kj6
      case measure => have := HK1.out; have := HJ6.out; omega
      case rel => exact ⟨(1), (wrap64 (x6_1 + 1)), (by first | rfl | (simp; done) | simp [*]), (by first | rfl | (simp; done) | simp [*]), H', ⟨by have := HK1.out; have := HJ6.out; omega⟩, ⟨by (with_reducible repeat (first | refine kN ?_ _ | refine kD ?_ | refine kA ?_ _)); exact BK150.out⟩, ⟨by repeat (first | (with_reducible first | exact HB.out | apply bA | apply bN | apply bD | refine bS ?_ GE150.out) | exact HB.out)⟩⟩
     case n9 =>
      have H' := aS H
      clear H
      go_wp2
      go_loopg [5, 7] kj6 (fun kq v5 v7 w' => ∃ (x5_3 : Int) (x7_3 : Int), v5 = .int .i64 x5_3 ∧ v7 = .int .i64 x7_3 ∧ Aside0 (clerestoryref1_WalkErr.l1 kq l1 x5_3 x7_3 l0_0 a0_1 = some r) ∧ Aside0 (kq ≤ kj6) ∧ Aside0 (w'.heap[gb150]? = some (.cells #[(.slice A0_0 l0_0.length c0_0), .bool a0_1] 24 (0, 0))) ∧ Aside0 (Below w.heap.size w w'))
      case atStart => exact ⟨(x5_1), (0), (by first | rfl | (simp; done) | simp [*]), (by first | rfl | (simp; done) | simp [*]), H', ⟨Nat.le_refl _⟩, ⟨by (with_reducible repeat (first | refine kN ?_ _ | refine kD ?_ | refine kA ?_ _)); exact BK150.out⟩, ⟨by repeat (first | (with_reducible first | exact HB.out | apply bA | apply bN | apply bD | refine bS ?_ GE150.out) | exact HB.out)⟩⟩
      case round =>
       clear H'
       obtain ⟨x5_3, x7_3, rfl, rfl, HA, HK3, BK150, HB⟩ := hrel
       cases gk with
       | zero => exact absurd HA.out (by simp [clerestoryref1_WalkErr.l1])
       | succ k3 =>
        have H := HA.out
        clear HA
        simp only [clerestoryref1_WalkErr.l1] at H
        have HC16 := aS H
        clear H
        go_upto_region 8 with (fail)
        go_cut [37] (fun v37 wc => ∃ (kq : Nat) (x37_15 : Bool), v37 = .bool x37_15 ∧ Aside0 (clerestoryref1_WalkErr.j3 kq l1 x5_3 x7_3 x37_15 l0_0 a0_1 = some r) ∧ Aside0 (kq ≤ k3) ∧ Aside0 (wc.heap[gb150]? = some (.cells #[(.slice A0_0 l0_0.length c0_0), .bool a0_1] 24 (0, 0))) ∧ Aside0 (Below w.heap.size w wc))
        case first =>
         have H := HC16.out
         clear HC16
         refine iT H ?p17 ?n17 <;> clear H
         case' p17 => intro c17b0 H
         case' n17 => intro c17b0 H
         case p17|n17 =>
          (first | rw [c17b0] | (simp only [q0d, q0e]; rw [c17b0]) | skip)
          have H' := aS H
          clear H
          go_wp2
          go_meet
          case rel => exact ⟨_, _, (by first | rfl | (simp; done) | simp [*]), H', ⟨by have := HK1.out; have := HJ6.out; have := HK3.out; first | omega | exact Nat.le_refl _⟩, ⟨by (with_reducible repeat (first | refine kN ?_ _ | refine kD ?_ | refine kA ?_ _)); exact BK150.out⟩, ⟨by repeat (first | (with_reducible first | exact HB.out | apply bA | apply bN | apply bD | refine bS ?_ GE150.out) | exact HB.out)⟩⟩
        case rest =>
         clear HC16
         obtain ⟨kq, x37_15, rfl, HA, HJ15, BK150, HB⟩ := hcut
         cases kq with
         | zero => exact absurd HA.out (by simp [clerestoryref1_WalkErr.j3])
         | succ kj15 =>
          have H := HA.out
          clear HA
          simp only [clerestoryref1_WalkErr.j3] at H
          refine iV H ?p18 ?n18 <;> clear H
          case' p18 => intro c18 H; subst c18; refine iLp H ?_; clear H; intro c19b0 H; refine iTp H ?_; clear H; intro c20b0 H; replace H := iB H; obtain ⟨t155, A21, H⟩ := H; refine iV H ?p22 ?n22 <;> clear H
          case' p22 => intro c22 H; subst c22
          case' n22 => intro c22 H; subst c22
          case' n18 => intro c18 H; subst c18
          case p22 =>
           have H' := aS H
           clear H
           try go_wp2
           have n0_ := aS (q1e BK150.out)
           have n1_ := aS (q0s HB.out)
           clear BK150
           clear HB
           have BK150 := n0_
           have HB := n1_
           clear n0_ n1_
           have p154 : 0 ≤ (x7_3 : Int) := od (by first | (with_reducible assumption) | assumption)
           have q154 : x7_3 < (l1.length : Int) := od (by first | (with_reducible assumption) | assumption)
           obtain ⟨ad154, e154, hx154_0⟩ := Kd.at_int HR1.out x7_3 p154 q154
           have hw154_0 := hx154_0
           cases e154
           replace hx154_0 := q09 HB.out hx154_0
           replace p154 := eq_true p154
           replace q154 := eq_true q154
           refine start_ (n := 7) (S := fun w' => w'.cell? ⟨gb150, 0, none⟩ = some (.slice A0_0 l0_0.length c0_0) ∧ w'.cell? ⟨gb150, 1, none⟩ = some (.bool a0_1) ∧ w'.cell? (ad154.add (x7_3).toNat) = some (.int .i64 (rd l1 x7_3))) (ds := []) #[false, false, false, false, false, false, false] (by kernel_rfl) rfl rfl ⟨(q05 BK150.out 0).trans rfl, (q05 BK150.out 1).trans rfl, ((HB.out.cell (World.block_lt_of_cell? w _ hw154_0)).trans hw154_0)⟩ (fun hHeld => ?_)
           generalize wc.drew = w23 at BK150 HB hx154_0 hHeld ⊢
           refine q0o (i := 1) (N := some 41) (v := ?_) (a' := ?_) #[false, true, false, false, false, false, false] rfl rfl (by kernel_rfl) (fun _ _ _ h => h) (Or.inl ⟨by rfl, ?_⟩) ?_ ?_
           rotate_left
           ·intro w'
            go_simp
            with_reducible rfl
           rotate_left
           ·simp only [Act.put, s1, s2, s3, q0d, q0e]
            rfl
           refine q0o (i := 2) (N := some 42) (v := ?_) (a' := ?_) #[false, true, true, false, false, false, false] rfl rfl (by kernel_rfl) (fun _ _ _ h => h) (Or.inl ⟨by rfl, ?_⟩) ?_ ?_
           rotate_left
           ·intro w'
            go_simp
            with_reducible rfl
           rotate_left
           ·simp only [Act.put, s1, s2, s3, q0d, q0e]
            rfl
           refine q0o (i := 3) (N := some 43) (v := ?_) (a' := ?_) #[false, true, true, true, false, false, false] rfl rfl (by kernel_rfl) (fun _ _ _ h => h) (Or.inl ⟨by rfl, ?_⟩) ?_ ?_
           rotate_left
           ·intro w'
            go_simp
            with_reducible rfl
           rotate_left
           ·simp only [Act.put, s1, s2, s3, q0d, q0e]
            rfl
           refine take_ (i := 0) (N := some 40) (v := ?_) (a' := ?_) #[true, true, true, true, false, false, false] rfl rfl (by kernel_rfl) (fun _ _ _ h => h) (Or.inl ⟨by rfl, ?_⟩) hHeld ?_ ?_
           rotate_left
           ·rintro w' ⟨s0, s1, s2⟩
            go_simp
            with_reducible rfl
           rotate_left
           ·simp only [Act.put, s1, s2, s3, q0d, q0e]
            rfl
           refine take_ (i := 4) (N := some 44) (v := ?_) (a' := ?_) #[true, true, true, true, true, false, false] rfl rfl (by kernel_rfl) (fun _ _ _ h => h) (Or.inl ⟨by rfl, ?_⟩) hHeld ?_ ?_
           rotate_left
           ·rintro w' ⟨s0, s1, s2⟩
            go_simp
            with_reducible rfl
           rotate_left
           ·simp only [Act.put, s1, s2, s3, q0d, q0e]
            rfl
           refine one_ (i := 5) (N := some 45) #[true, true, true, true, true, true, false] rfl rfl (by kernel_rfl) (by decide) (fun K hK => ?_)
           refine goes_ Tryd.func26 (by kernel_rfl) rfl #[.agg #[.slice A0_0 l0_0.length c0_0, .bool a0_1], .int .i64 (rd l1 x7_3), .int .i64 0] (by rfl) rfl rfl (by (try simp only [List.map_toArray, List.map_cons, List.map_nil]); first | done | rfl | (simp only [List.length_drop, List.length_take]; rfl)) ?_
           with_reducible refine (clerestoryref1_Under.calls kj15 _ _ l0_0 a0_1 (rd l1 x7_3) 0 true _ ?side1 ?side2 A21.out).mono ?_
           (case side1 => repeat (first | exact (Kd.C_below HR0_0.out HB.out) | (with_reducible refine cA ?_ _) | (with_reducible refine cN ?_ _) | (with_reducible refine cD ?_)))
           (case side2 => exact HC0_0.out)
           rintro e w24 ⟨rfl, hb⟩
           refine ⟨_, rfl, ?_⟩
           have n0_ := aS (q08 (g := gb150) (o := .cells #[.slice A0_0 l0_0.length c0_0, .bool a0_1] 24 (0, 0)) (by (with_reducible repeat (first | refine kN ?_ _ | refine kD ?_ | refine kA ?_ _)); exact BK150.out) hb)
           have n1_ := aS (q03 (by repeat (first | (with_reducible first | exact HB.out | apply bA | apply bN | apply bD | refine bS ?_ GE150.out) | exact HB.out)) hb)
           clear BK150
           clear HB
           have BK150 := n0_
           have HB := n1_
           clear n0_ n1_
           (try clear hb)
           (try clear hb2)
           (try clear hk)
           (try clear hi)
           refine hK.out _ _ ⟨(q05 BK150.out 0).trans rfl, (q05 BK150.out 1).trans rfl, ((HB.out.cell (World.block_lt_of_cell? w _ hw154_0)).trans hw154_0)⟩ (fun hHeld => ?_)
           clear hK K
           refine norm_ (a' := ?_) ?_ ?_
           rotate_left
           ·show Act.put _ (some 45) _ = _
            simp only [Act.put, s1, s2, s3, q0d, q0e]
            rfl
           refine q0o (i := 6) (N := some 46) (v := ?_) (a' := ?_) #[true, true, true, true, true, true, true] rfl rfl (by kernel_rfl) (fun _ _ _ h => h) (Or.inl ⟨by rfl, ?_⟩) ?_ ?_
           rotate_left
           ·intro w'
            go_simp
            with_reducible rfl
           rotate_left
           ·simp only [Act.put, s1, s2, s3, q0d, q0e]
            rfl
           refine done_ (by kernel_rfl) ?_
           try go_wp2
           go_roundg kj15
           case measure => have := HK1.out; have := HJ6.out; have := HK3.out; have := HJ15.out; omega
           case rel => exact ⟨(x5_3), (wrap64 (x7_3 + 1)), (by first | rfl | (simp; done) | simp [*]), (by first | rfl | (simp; done) | simp [*]), H', ⟨by have := HK1.out; have := HJ6.out; have := HK3.out; have := HJ15.out; omega⟩, ⟨by (with_reducible repeat (first | refine kN ?_ _ | refine kD ?_ | refine kA ?_ _)); exact BK150.out⟩, ⟨by repeat (first | (with_reducible first | exact HB.out | apply bA | apply bN | apply bD | refine bS ?_ GE150.out) | exact HB.out)⟩⟩
          case n22 =>
           have H' := aS H
           clear H
           try go_wp2
           have n0_ := aS (q1e BK150.out)
           have n1_ := aS (q0s HB.out)
           clear BK150
           clear HB
           have BK150 := n0_
           have HB := n1_
           clear n0_ n1_
           have p154 : 0 ≤ (x7_3 : Int) := od (by first | (with_reducible assumption) | assumption)
           have q154 : x7_3 < (l1.length : Int) := od (by first | (with_reducible assumption) | assumption)
           obtain ⟨ad154, e154, hx154_0⟩ := Kd.at_int HR1.out x7_3 p154 q154
           have hw154_0 := hx154_0
           cases e154
           replace hx154_0 := q09 HB.out hx154_0
           replace p154 := eq_true p154
           replace q154 := eq_true q154
           refine start_ (n := 7) (S := fun w' => w'.cell? ⟨gb150, 0, none⟩ = some (.slice A0_0 l0_0.length c0_0) ∧ w'.cell? ⟨gb150, 1, none⟩ = some (.bool a0_1) ∧ w'.cell? (ad154.add (x7_3).toNat) = some (.int .i64 (rd l1 x7_3))) (ds := []) #[false, false, false, false, false, false, false] (by kernel_rfl) rfl rfl ⟨(q05 BK150.out 0).trans rfl, (q05 BK150.out 1).trans rfl, ((HB.out.cell (World.block_lt_of_cell? w _ hw154_0)).trans hw154_0)⟩ (fun hHeld => ?_)
           generalize wc.drew = w25 at BK150 HB hx154_0 hHeld ⊢
           refine q0o (i := 1) (N := some 41) (v := ?_) (a' := ?_) #[false, true, false, false, false, false, false] rfl rfl (by kernel_rfl) (fun _ _ _ h => h) (Or.inl ⟨by rfl, ?_⟩) ?_ ?_
           rotate_left
           ·intro w'
            go_simp
            with_reducible rfl
           rotate_left
           ·simp only [Act.put, s1, s2, s3, q0d, q0e]
            rfl
           refine q0o (i := 2) (N := some 42) (v := ?_) (a' := ?_) #[false, true, true, false, false, false, false] rfl rfl (by kernel_rfl) (fun _ _ _ h => h) (Or.inl ⟨by rfl, ?_⟩) ?_ ?_
           rotate_left
           ·intro w'
            go_simp
            with_reducible rfl
           rotate_left
           ·simp only [Act.put, s1, s2, s3, q0d, q0e]
            rfl
           refine q0o (i := 3) (N := some 43) (v := ?_) (a' := ?_) #[false, true, true, true, false, false, false] rfl rfl (by kernel_rfl) (fun _ _ _ h => h) (Or.inl ⟨by rfl, ?_⟩) ?_ ?_
           rotate_left
           ·intro w'
            go_simp
            with_reducible rfl
           rotate_left
           ·simp only [Act.put, s1, s2, s3, q0d, q0e]
            rfl
           refine take_ (i := 0) (N := some 40) (v := ?_) (a' := ?_) #[true, true, true, true, false, false, false] rfl rfl (by kernel_rfl) (fun _ _ _ h => h) (Or.inl ⟨by rfl, ?_⟩) hHeld ?_ ?_
           rotate_left
           ·rintro w' ⟨s0, s1, s2⟩
            go_simp
            with_reducible rfl
           rotate_left
           ·simp only [Act.put, s1, s2, s3, q0d, q0e]
            rfl
           refine take_ (i := 4) (N := some 44) (v := ?_) (a' := ?_) #[true, true, true, true, true, false, false] rfl rfl (by kernel_rfl) (fun _ _ _ h => h) (Or.inl ⟨by rfl, ?_⟩) hHeld ?_ ?_
           rotate_left
           ·rintro w' ⟨s0, s1, s2⟩
            go_simp
            with_reducible rfl
           rotate_left
           ·simp only [Act.put, s1, s2, s3, q0d, q0e]
            rfl
           refine one_ (i := 5) (N := some 45) #[true, true, true, true, true, true, false] rfl rfl (by kernel_rfl) (by decide) (fun K hK => ?_)
           refine goes_ Tryd.func26 (by kernel_rfl) rfl #[.agg #[.slice A0_0 l0_0.length c0_0, .bool a0_1], .int .i64 (rd l1 x7_3), .int .i64 0] (by rfl) rfl rfl (by (try simp only [List.map_toArray, List.map_cons, List.map_nil]); first | done | rfl | (simp only [List.length_drop, List.length_take]; rfl)) ?_
           with_reducible refine (clerestoryref1_Under.calls kj15 _ _ l0_0 a0_1 (rd l1 x7_3) 0 false _ ?side1 ?side2 A21.out).mono ?_
           (case side1 => repeat (first | exact (Kd.C_below HR0_0.out HB.out) | (with_reducible refine cA ?_ _) | (with_reducible refine cN ?_ _) | (with_reducible refine cD ?_)))
           (case side2 => exact HC0_0.out)
           rintro e w26 ⟨rfl, hb⟩
           refine ⟨_, rfl, ?_⟩
           have n0_ := aS (q08 (g := gb150) (o := .cells #[.slice A0_0 l0_0.length c0_0, .bool a0_1] 24 (0, 0)) (by (with_reducible repeat (first | refine kN ?_ _ | refine kD ?_ | refine kA ?_ _)); exact BK150.out) hb)
           have n1_ := aS (q03 (by repeat (first | (with_reducible first | exact HB.out | apply bA | apply bN | apply bD | refine bS ?_ GE150.out) | exact HB.out)) hb)
           clear BK150
           clear HB
           have BK150 := n0_
           have HB := n1_
           clear n0_ n1_
           (try clear hb)
           (try clear hb2)
           (try clear hk)
           (try clear hi)
           refine hK.out _ _ ⟨(q05 BK150.out 0).trans rfl, (q05 BK150.out 1).trans rfl, ((HB.out.cell (World.block_lt_of_cell? w _ hw154_0)).trans hw154_0)⟩ (fun hHeld => ?_)
           clear hK K
           refine norm_ (a' := ?_) ?_ ?_
           rotate_left
           ·show Act.put _ (some 45) _ = _
            simp only [Act.put, s1, s2, s3, q0d, q0e]
            rfl
           refine q0o (i := 6) (N := some 46) (v := ?_) (a' := ?_) #[true, true, true, true, true, true, true] rfl rfl (by kernel_rfl) (fun _ _ _ h => h) (Or.inl ⟨by rfl, ?_⟩) ?_ ?_
           rotate_left
           ·intro w'
            go_simp
            with_reducible rfl
           rotate_left
           ·simp only [Act.put, s1, s2, s3, q0d, q0e]
            rfl
           refine done_ (by kernel_rfl) ?_
           try go_wp2
           go_roundg kj15
           case measure => have := HK1.out; have := HJ6.out; have := HK3.out; have := HJ15.out; omega
           case rel => exact ⟨(5), (wrap64 (x7_3 + 1)), (by first | rfl | (simp; done) | simp [*]), (by first | rfl | (simp; done) | simp [*]), H', ⟨by have := HK1.out; have := HJ6.out; have := HK3.out; have := HJ15.out; omega⟩, ⟨by (with_reducible repeat (first | refine kN ?_ _ | refine kD ?_ | refine kA ?_ _)); exact BK150.out⟩, ⟨by repeat (first | (with_reducible first | exact HB.out | apply bA | apply bN | apply bD | refine bS ?_ GE150.out) | exact HB.out)⟩⟩
          case n18 =>
           obtain rfl := Option.some.inj H
           go_wp2
           go_ret
           exact ⟨by first | rfl | (simp [q02, q01] <;> rfl) | (simp [*, q02, q01] <;> rfl), by repeat (first | (with_reducible first | exact HB.out | apply bA | apply bN | apply bD | refine bS ?_ GE150.out) | exact HB.out)⟩
def dom_parent.f (a0 : Int) : Option (Bool) := if a0 = 1 then (some true) else (some (a0 == 2))
set_option maxHeartbeats 8000000 in
set_option maxRecDepth 100000 in
theorem dom_parent.calls (a0 : Int) (r : Bool) (w : World) (h : dom_parent.f a0 = some r) :
 Calls Tryd.prog 158 #[.int .i64 a0] w fun e w' => e = .returned (.bool r) ∧ Drawn0 w w' := by
 have H := h; clear h; unfold dom_parent.f at H
 refine iE H ?p2 ?n2 <;> clear H
 case' p2 => intro c2b0 c2b1 H
 case' n2 => intro c2 c2b0 c2b1 H
 case p2|n2 =>
  obtain rfl := Option.some.inj H
  go_enter Tryd.func158, Tryd.ntmps158
  go_wp2
  go_ret
  exact ⟨by first | rfl | (simp; done) | (simp [*]; done), by repeat (first | exact Drawn0.refl _ | apply Drawn0.step)⟩
end Go.Proofs.YthjnallbbhnndaaDoor.XWp
