/- Plain words for a search by a predicate: the first place at which it holds, or -1. No program, no condition. -/
import Derived.Test.YthecjfkafpndoaaWWords
import Derived.Test.YthecjfkafpndoaaWNEv
import Derived.Laws.Cells
import Derived.Shelf.Abstract
import Derived.WalkKit
import Derived.Deep.LoopGhost
import Derived.Lib.SliceRun
namespace Go.Proofs.Ythecjfkafpndoaa.Cl
open Go Go.Proofs.YthecjfkafpndoaaW.PrintWords

theorem getD_lt {α : Type} (l : List α) (i : Nat) (z : α) (h : i < l.length) : l.getD i z = l[i] := by simp [List.getD, h]
theorem mem_getD {α : Type} (l : List α) (i : Nat) (z : α) (h : i < l.length) : l.getD i z ∈ l := by
  rw [getD_lt l i z h]; exact List.getElem_mem h
/-- The first place at which p holds; -1: there is none. -/
def idxFrom {α : Type} (p : α → Bool) : List α → Nat → Int
  | [], _ => -1
  | x :: t, i => if p x = true then (i : Int) else idxFrom p t (i + 1)
def idxOf {α : Type} (p : α → Bool) (l : List α) : Int := idxFrom p l 0

theorem idxFrom_hit {α : Type} (p : α → Bool) (z : α) : ∀ (l : List α) (k i : Nat), k < l.length → p (l.getD k z) = true → (∀ j, j < k → p (l.getD j z) = false) → idxFrom p l i = ((i + k : Nat) : Int)
  | [], k, _, hk, _, _ => absurd hk (Nat.not_lt_zero _)
  | x :: t, 0, i, _, h, _ => by
    have : p x = true := by simpa using h
    simp [idxFrom, this]
  | x :: t, k + 1, i, hk, h, hn => by
    have h0 : p x = false := by simpa using hn 0 (Nat.succ_pos _)
    rw [idxFrom, if_neg (by simp [h0]), idxFrom_hit p z t k (i + 1) (by simpa using hk) (by simpa using h) (fun j hj => by simpa using hn (j + 1) (by omega))]
    congr 1
    omega
theorem idxFrom_miss {α : Type} (p : α → Bool) : ∀ (l : List α) (i : Nat), (∀ x ∈ l, p x = false) → idxFrom p l i = -1
  | [], _, _ => rfl
  | x :: t, i, h => by
    rw [idxFrom, if_neg (by simp [h x (by simp)]), idxFrom_miss p t (i + 1) (fun y hy => h y (List.mem_cons_of_mem _ hy))]
theorem idxOf_hit {α : Type} (p : α → Bool) (z : α) (l : List α) (k : Nat) (hk : k < l.length) (h : p (l.getD k z) = true) (hn : ∀ j, j < k → p (l.getD j z) = false) : idxOf p l = (k : Int) := by
  have := idxFrom_hit p z l k 0 hk h hn
  rwa [Nat.zero_add] at this
theorem idxOf_miss {α : Type} (p : α → Bool) (z : α) (l : List α) (h : ∀ j, j < l.length → p (l.getD j z) = false) : idxOf p l = -1 := by
  refine idxFrom_miss p l 0 fun x hx => ?_
  obtain ⟨j, hj, e⟩ := List.getElem_of_mem hx
  have := h j hj
  rwa [getD_lt l j z hj, e] at this
theorem idxFrom_any {α : Type} (p : α → Bool) : ∀ (l : List α) (i : Nat), decide (0 ≤ idxFrom p l i) = l.any p
  | [], _ => by simp [idxFrom]
  | x :: t, i => by
    rw [idxFrom, List.any_cons]
    by_cases h : p x = true
    · rw [if_pos h, h]; simp
    · rw [if_neg h, idxFrom_any p t (i + 1)]
      simp only [Bool.not_eq_true] at h
      rw [h]; simp
theorem idxOf_any {α : Type} (p : α → Bool) (l : List α) : decide (0 ≤ idxOf p l) = l.any p := idxFrom_any p l 0
theorem idxFrom_lt {α : Type} (p : α → Bool) : ∀ (l : List α) (i : Nat), idxFrom p l i = -1 ∨ ((i : Int) ≤ idxFrom p l i ∧ idxFrom p l i < (i + l.length : Nat))
  | [], _ => .inl rfl
  | x :: t, i => by
    rw [idxFrom]
    split
    · right; simp only [List.length_cons]; omega
    · rcases idxFrom_lt p t (i + 1) with h | h
      · exact .inl h
      · right; simp only [List.length_cons]; omega
theorem idxOf_lt {α : Type} (p : α → Bool) (l : List α) : idxOf p l = -1 ∨ (0 ≤ idxOf p l ∧ idxOf p l < l.length) := by
  have := idxFrom_lt p l 0
  simpa [idxOf] using this

/-- An element of a row that is read, its cells as a load takes them. -/
theorem getC {α : Type} {d : Kd α} {w : World} {A : Option Addr} {n : Nat} {xs : List α} (h : d.C w A n xs) (z : α) (i : Nat) (h1 : i < n) :
    ∃ ad c, A = some ad ∧ c.length = d.sz ∧ d.K w (xs.getD i z) c ∧ (∀ j u, c[j]? = some u → w.cell? (ad.add (i * d.sz + j)) = some u) := by
  obtain ⟨ad, c, h2, h3, h4, h5⟩ := Kd.C_get h z (i : Int) (by omega) (by omega)
  rw [show ((i : Int)).toNat = i from rfl] at h4 h5
  exact ⟨ad, c, h2, h3, h4, h5⟩
theorem load_list (P : Program) (W : World) (a : Addr) (cs : List Value) (k : Nat) (hk : cs.length = k) (h : ∀ j v, cs[j]? = some v → W.cell? (a.add j) = some v) :
    Sem.run P (loadCellsFrom a 0 k #[]) W = .ok cs.toArray W := by
  have := run_loadCells_list (P := P) (w := W) a cs h
  rw [hk] at this
  simpa [loadCells] using this

/-- Cells written behind a row's end: the row is as it was. -/
theorem own_tail {W : World} {base e sz n cap g : Nat} {xs : List Value} (h : W.ownsRow base e sz (.slice (some ⟨g, 0, none⟩) n cap) n xs) (o : Nat) (vs : List Value) (ho : n * sz ≤ o) (hfit : o + vs.length ≤ cap * sz) :
    (W.setCells g o vs).ownsRow base e sz (.slice (some ⟨g, 0, none⟩) n cap) n xs := by
  obtain ⟨h1, h2⟩ := h
  refine ⟨h1, ?_⟩
  rcases h2 with ⟨hv, _⟩ | ⟨g', cap', cur, hv, hb, hh, hnc', hcm, hcs, ht⟩
  · cases hv
  injection hv with ha _ hc
  injection ha with ha
  injection ha with hg
  subst hg; subst hc
  obtain ⟨cur', h3, h4, h5⟩ := setCells_row vs o W cur hh (by omega)
  refine .inr ⟨g, cap, cur', rfl, hb, h3, hnc', hcm, by omega, ?_⟩
  rw [h5, List.append_assoc, List.take_append_of_le_length (by rw [List.length_take, Array.length_toList]; omega), List.take_take, Nat.min_eq_left ho]
  exact ht
theorem grown_setCells (W : World) (g o : Nat) (vs : List Value) : W.grownBy (W.setCells g o vs) (some g) := by
  obtain ⟨s1, s2, s3, s4⟩ := setCells_same g vs o W
  exact ⟨s1, s2, s3, by rw [s4]; exact Nat.le_refl _, fun k _ hk => setCells_far vs o k (fun he => hk (by rw [he]))⟩
theorem R_tail {α : Type} {d : Kd α} {W : World} {base e n cap g : Nat} {ok : Nat → Prop} {xs : List α} (h : d.R e W base ok (.slice (some ⟨g, 0, none⟩) n cap) xs) (o : Nat) (vs : List Value) (ho : n * d.sz ≤ o) (hfit : o + vs.length ≤ cap * d.sz) :
    d.R e (W.setCells g o vs) base ok (.slice (some ⟨g, 0, none⟩) n cap) xs := by
  have hn := (Kd.R_reads' h).1
  subst hn
  obtain ⟨h0, inner, hown, hr⟩ := h
  refine ⟨h0, inner, own_tail hown o vs ho hfit, hr.imp_ fun p c hp => d.M_move (fun k hk => setCells_far vs o k (fun he => hk.2 (by rw [he]; rfl))) hp⟩
theorem N_tail {α : Type} {d : Kd α} {W : World} {base e n cap g : Nat} {ok : Nat → Prop} {xs : List α} (h : Kd.N d e W base ok (.slice (some ⟨g, 0, none⟩) n cap) xs) (o : Nat) (vs : List Value) (ho : n * d.sz ≤ o) (hfit : o + vs.length ≤ cap * d.sz) :
    Kd.N d e (W.setCells g o vs) base ok (.slice (some ⟨g, 0, none⟩) n cap) xs := by
  obtain ⟨h0, rows, hl, hR, hf⟩ := h
  exact ⟨h0, rows, hl, R_tail hR o vs ho hfit, fun j x c hx hc => Kd.FK_step (hf j x c hx hc) (fun k hk _ => setCells_far vs o k (fun he => hk.2 (by rw [he]; rfl)))⟩
/-- clear of a part of a block. -/
theorem run_clear (P : Program) (W : World) (t e ty : TypeId) (z : Value) (ht : P.underlying t = some (.slice e)) (hv : ∀ w, (zeroValue e).run P w = .ok z w) (g o n c e' : Nat) (hn : 0 < n) (cur : Array Value) (hh : W.heap[g]? = some (.cells cur e' (0, 0)))
    (hfit : o + (Builtin.zeroCells z.cells n).toList.length ≤ cur.size) (h1 : ∀ v ∈ (Builtin.zeroCells z.cells n).toList, v.oneCell' = true) :
    (Builtin.clear_ #[t] ty #[.slice (some ⟨g, o, none⟩) n c]).run P W = .ok (.tuple #[]) (W.setCells g o (Builtin.zeroCells z.cells n).toList) := by
  have hst := run_storeCells_cells (P := P) g o (Builtin.zeroCells z.cells n).toList 0 W (fun j hj => by
    rw [cell_of_row W g _ cur e' (0, 0) hh, Array.getElem?_eq_getElem (by omega)]; rfl) (fun j hj => by simp [World.frozen?, hh]) h1
  simp only [Nat.add_zero] at hst
  obtain ⟨m, rfl⟩ : ∃ m, n = m + 1 := ⟨n - 1, by omega⟩
  simp [Builtin.clear_, run_underlying ht, hv, hst]
theorem N_row {α : Type} {d : Kd α} {W : World} {base e n cap g : Nat} {ok : Nat → Prop} {xs : List α} (h : Kd.N d e W base ok (.slice (some ⟨g, 0, none⟩) n cap) xs) : ∃ cur, W.heap[g]? = some (.cells cur e (0, 0)) ∧ cur.size = cap * d.sz ∧ cap ≤ maxLen := by
  obtain ⟨_, rows, _, ⟨_, inner, ho, _⟩, _⟩ := h
  rcases ho.2 with ⟨hv, _⟩ | ⟨g', cap', cur, hv, hb, hh, hnc', hcm, hcs, ht⟩
  · cases hv
  injection hv with ha _ hc
  injection ha with ha
  injection ha with hg
  subst hg; subst hc
  exact ⟨cur, hh, hcs, hcm⟩
theorem R_row {α : Type} {d : Kd α} {W : World} {base e n cap g : Nat} {ok : Nat → Prop} {xs : List α} (h : d.R e W base ok (.slice (some ⟨g, 0, none⟩) n cap) xs) : ∃ cur, W.heap[g]? = some (.cells cur e (0, 0)) ∧ cur.size = cap * d.sz ∧ cap ≤ maxLen := N_row (Kd.R_N h)
/-- A row of one element in a block of its own. -/
theorem F_one {α : Type} {d : Kd α} {W : World} {b e : Nat} {cs : List Value} {x : α} {ok : Nat → Prop} (hb : W.heap[b]? = some (.cells cs.toArray e (0, 0))) (hF : Kd.FK d W ok x cs) : Kd.F d W (fun k => ok k ∨ k = b) (some ⟨b, 0, none⟩) 1 [x] := by
  intro W' hW
  have h1 := hW b (.inr rfl) (blk_lt hb)
  rw [hb] at h1
  have hK := hF W' (fun k hk hlt => hW k (.inl hk) hlt)
  refine ⟨rfl, by decide, fun _ => ⟨_, rfl, fun j p hj => ?_⟩⟩
  match j, hj with
  | 0, hj =>
    obtain rfl := Option.some.inj hj
    refine ⟨cs, d.K_len hK, hK, fun i u hi => ?_⟩
    rw [Nat.zero_mul, Nat.zero_add, add_plain, cell_of_row W' b _ _ e (0, 0) h1]
    simpa using hi
  | j + 1, hj => simp at hj
theorem zero_one {z : Array Value} (h : z.toList.all (fun v => v.oneCell') = true) (n : Nat) : ∀ v ∈ (Builtin.zeroCells z n).toList, v.oneCell' = true := by
  intro v hv
  unfold Builtin.zeroCells at hv
  rw [Array.toList_map, List.mem_map] at hv
  obtain ⟨i, hi, rfl⟩ := hv
  rw [Array.mem_toList_iff, Array.mem_range] at hi
  have hz : 0 < z.size := by
    rcases Nat.eq_zero_or_pos z.size with h0 | h0
    · rw [h0] at hi; omega
    · exact h0
  rw [getElem!_pos z _ (Nat.mod_lt _ hz)]
  exact List.all_eq_true.1 h _ (by simp)
theorem grown_step {w W W1 : World} {row : Option Nat} (h : w.grownBy W row) (k : W.grownBy W1 row) : w.grownBy W1 row :=
  ⟨k.os.trans h.os, k.tape.trans h.tape, k.output.trans h.output, Nat.le_trans h.size k.size, fun i hi hr => (k.block i (Nat.lt_of_lt_of_le hi h.size) hr).trans (h.block i hi hr)⟩
end Go.Proofs.Ythecjfkafpndoaa.Cl
