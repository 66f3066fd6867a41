/- Plain words for a search by a predicate: the first place at which it holds, or -1. No program, no condition. -/
import Derived.Test.YthjnallbbhnndaaDoorG0
import Derived.Laws.Cells
import Derived.Shelf.Abstract
import Derived.Lib.SliceRun
import Derived.Shelf.Small.Utf8
import Derived.Shelf.Small.Strs
import Derived.Shelf.Strings.Search1
import Derived.Shelf.Strings.AsciiSet
import Derived.Ground.Names2Prog
import Derived.Test.YthjnallbbhnndaaDoorProg
import Derived.Shelf.Strings.SlTrimAscii
import Derived.Shelf.Spec.SlicesInsert
import Derived.Shelf.Spec.SlicesInsertGrow
import Derived.StillTailTactics
import Derived.Deep.RegionLaw
import Derived.Lib.Hide
import Derived.Outline
import Derived.Deep.MidRow
import Derived.WalkSpells
namespace Go.Proofs.YthjnallbbhnndaaDoor.Cl
open Go Go.Proofs.YthjnallbbhnndaaDoorW.PrintWords
theorem getD_lt {α : Type} (l : List α) (i : Nat) (z : α) (h : i < l.length) : l.getD i z = l[i] := by simp [List.getD, h]
theorem mem_getD {α : Type} (l : List α) (i : Nat) (z : α) (h : i < l.length) : l.getD i z ∈ l := by
  rw [getD_lt l i z h]; exact List.getElem_mem h
def q2a {α : Type} (p : α → Bool) : List α → Nat → Int
  | [], _ => -1
  | x :: t, i => if p x = true then (i : Int) else q2a p t (i + 1)
def idxOf {α : Type} (p : α → Bool) (l : List α) : Int := q2a p l 0
theorem idxFrom_hit {α : Type} (p : α → Bool) (z : α) : ∀ (l : List α) (k i : Nat), k < l.length → p (l.getD k z) = true → (∀ j, j < k → p (l.getD j z) = false) → q2a p l i = ((i + k : Nat) : Int)
  | [], k, _, hk, _, _ => absurd hk (Nat.not_lt_zero _)
  | x :: t, 0, i, _, h, _ => by
    have : p x = true := by simpa using h
    simp [q2a, this]
  | x :: t, k + 1, i, hk, h, hn => by
    have h0 : p x = false := by simpa using hn 0 (Nat.succ_pos _)
    rw [q2a, if_neg (by simp [h0]), idxFrom_hit p z t k (i + 1) (by simpa using hk) (by simpa using h) (fun j hj => by simpa using hn (j + 1) (by omega))]
    congr 1
    omega
theorem idxFrom_miss {α : Type} (p : α → Bool) : ∀ (l : List α) (i : Nat), (∀ x ∈ l, p x = false) → q2a p l i = -1
  | [], _, _ => rfl
  | x :: t, i, h => by
    rw [q2a, if_neg (by simp [h x (by simp)]), idxFrom_miss p t (i + 1) (fun y hy => h y (List.mem_cons_of_mem _ hy))]
theorem idxOf_hit {α : Type} (p : α → Bool) (z : α) (l : List α) (k : Nat) (hk : k < l.length) (h : p (l.getD k z) = true) (hn : ∀ j, j < k → p (l.getD j z) = false) : idxOf p l = (k : Int) := by
  have := idxFrom_hit p z l k 0 hk h hn
  rwa [Nat.zero_add] at this
theorem idxOf_miss {α : Type} (p : α → Bool) (z : α) (l : List α) (h : ∀ j, j < l.length → p (l.getD j z) = false) : idxOf p l = -1 := by
  refine idxFrom_miss p l 0 fun x hx => ?_
  obtain ⟨j, hj, e⟩ := List.getElem_of_mem hx
  have := h j hj
  rwa [getD_lt l j z hj, e] at this
theorem idxFrom_any {α : Type} (p : α → Bool) : ∀ (l : List α) (i : Nat), decide (0 ≤ q2a p l i) = l.any p
  | [], _ => by simp [q2a]
  | x :: t, i => by
    rw [q2a, List.any_cons]
    by_cases h : p x = true
    · rw [if_pos h, h]; simp
    · rw [if_neg h, idxFrom_any p t (i + 1)]
      simp only [Bool.not_eq_true] at h
      rw [h]; simp
theorem idxOf_any {α : Type} (p : α → Bool) (l : List α) : decide (0 ≤ idxOf p l) = l.any p := idxFrom_any p l 0
theorem idxFrom_lt {α : Type} (p : α → Bool) : ∀ (l : List α) (i : Nat), q2a p l i = -1 ∨ ((i : Int) ≤ q2a p l i ∧ q2a p l i < (i + l.length : Nat))
  | [], _ => .inl rfl
  | x :: t, i => by
    rw [q2a]
    split
    · right; simp only [List.length_cons]; omega
    · rcases idxFrom_lt p t (i + 1) with h | h
      · exact .inl h
      · right; simp only [List.length_cons]; omega
theorem idxOf_lt {α : Type} (p : α → Bool) (l : List α) : idxOf p l = -1 ∨ (0 ≤ idxOf p l ∧ idxOf p l < l.length) := by
  have := idxFrom_lt p l 0
  simpa [idxOf] using this
theorem getC {α : Type} {d : Kd α} {w : World} {A : Option Addr} {n : Nat} {xs : List α} (h : d.C w A n xs) (z : α) (i : Nat) (h1 : i < n) :
    ∃ ad c, A = some ad ∧ c.length = d.sz ∧ d.K w (xs.getD i z) c ∧ (∀ j u, c[j]? = some u → w.cell? (ad.add (i * d.sz + j)) = some u) := by
  obtain ⟨ad, c, h2, h3, h4, h5⟩ := Kd.C_get h z (i : Int) (by omega) (by omega)
  rw [show ((i : Int)).toNat = i from rfl] at h4 h5
  exact ⟨ad, c, h2, h3, h4, h5⟩
theorem load_list (P : Program) (W : World) (a : Addr) (cs : List Value) (k : Nat) (hk : cs.length = k) (h : ∀ j v, cs[j]? = some v → W.cell? (a.add j) = some v) :
    Sem.run P (loadCellsFrom a 0 k #[]) W = .ok cs.toArray W := by
  have := run_loadCells_list (P := P) (w := W) a cs h
  rw [hk] at this
  simpa [loadCells] using this
theorem own_tail {W : World} {base e sz n cap g : Nat} {xs : List Value} (h : W.ownsRow base e sz (.slice (some ⟨g, 0, none⟩) n cap) n xs) (o : Nat) (vs : List Value) (ho : n * sz ≤ o) (hfit : o + vs.length ≤ cap * sz) :
    (W.setCells g o vs).ownsRow base e sz (.slice (some ⟨g, 0, none⟩) n cap) n xs := by
  obtain ⟨h1, h2⟩ := h
  refine ⟨h1, ?_⟩
  rcases h2 with ⟨hv, _⟩ | ⟨g', cap', cur, hv, hb, hh, hnc', hcm, hcs, ht⟩
  · cases hv
  injection hv with ha _ hc
  injection ha with ha
  injection ha with hg
  subst hg; subst hc
  obtain ⟨cur', h3, h4, h5⟩ := q1h vs o W cur hh (by omega)
  refine .inr ⟨g, cap, cur', rfl, hb, h3, hnc', hcm, by omega, ?_⟩
  rw [h5, List.append_assoc, List.take_append_of_le_length (by rw [List.length_take, Array.length_toList]; omega), List.take_take, Nat.min_eq_left ho]
  exact ht
theorem grown_setCells (W : World) (g o : Nat) (vs : List Value) : W.grownBy (W.setCells g o vs) (some g) := by
  obtain ⟨s1, s2, s3, s4⟩ := q0v g vs o W
  exact ⟨s1, s2, s3, by rw [s4]; exact Nat.le_refl _, fun k _ hk => q1l vs o k (fun he => hk (by rw [he]))⟩
theorem R_tail {α : Type} {d : Kd α} {W : World} {base e n cap g : Nat} {ok : Nat → Prop} {xs : List α} (h : d.R e W base ok (.slice (some ⟨g, 0, none⟩) n cap) xs) (o : Nat) (vs : List Value) (ho : n * d.sz ≤ o) (hfit : o + vs.length ≤ cap * d.sz) :
    d.R e (W.setCells g o vs) base ok (.slice (some ⟨g, 0, none⟩) n cap) xs := by
  have hn := (Kd.R_reads' h).1
  subst hn
  obtain ⟨h0, inner, hown, hr⟩ := h
  refine ⟨h0, inner, own_tail hown o vs ho hfit, hr.imp_ fun p c hp => d.M_move (fun k hk => q1l vs o k (fun he => hk.2 (by rw [he]; rfl))) hp⟩
theorem N_tail {α : Type} {d : Kd α} {W : World} {base e n cap g : Nat} {ok : Nat → Prop} {xs : List α} (h : Kd.N d e W base ok (.slice (some ⟨g, 0, none⟩) n cap) xs) (o : Nat) (vs : List Value) (ho : n * d.sz ≤ o) (hfit : o + vs.length ≤ cap * d.sz) :
    Kd.N d e (W.setCells g o vs) base ok (.slice (some ⟨g, 0, none⟩) n cap) xs := by
  obtain ⟨h0, rows, hl, hR, hf⟩ := h
  exact ⟨h0, rows, hl, R_tail hR o vs ho hfit, fun j x c hx hc => Kd.FK_step (hf j x c hx hc) (fun k hk _ => q1l vs o k (fun he => hk.2 (by rw [he]; rfl)))⟩
theorem run_clear (P : Program) (W : World) (t e ty : TypeId) (z : Value) (ht : P.underlying t = some (.slice e)) (hv : ∀ w, (zeroValue e).run P w = .ok z w) (g o n c e' : Nat) (hn : 0 < n) (cur : Array Value) (hh : W.heap[g]? = some (.cells cur e' (0, 0)))
    (hfit : o + (Builtin.zeroCells z.cells n).toList.length ≤ cur.size) (h1 : ∀ v ∈ (Builtin.zeroCells z.cells n).toList, v.oneCell' = true) :
    (Builtin.clear_ #[t] ty #[.slice (some ⟨g, o, none⟩) n c]).run P W = .ok (.tuple #[]) (W.setCells g o (Builtin.zeroCells z.cells n).toList) := by
  have hst := run_storeCells_cells (P := P) g o (Builtin.zeroCells z.cells n).toList 0 W (fun j hj => by
    rw [cell_of_row W g _ cur e' (0, 0) hh, Array.getElem?_eq_getElem (by omega)]; rfl) (fun j hj => by simp [World.frozen?, hh]) h1
  simp only [Nat.add_zero] at hst
  obtain ⟨m, rfl⟩ : ∃ m, n = m + 1 := ⟨n - 1, by omega⟩
  simp [Builtin.clear_, run_underlying ht, hv, hst]
theorem N_row {α : Type} {d : Kd α} {W : World} {base e n cap g : Nat} {ok : Nat → Prop} {xs : List α} (h : Kd.N d e W base ok (.slice (some ⟨g, 0, none⟩) n cap) xs) : ∃ cur, W.heap[g]? = some (.cells cur e (0, 0)) ∧ cur.size = cap * d.sz ∧ cap ≤ maxLen := by
  obtain ⟨_, rows, _, ⟨_, inner, ho, _⟩, _⟩ := h
  rcases ho.2 with ⟨hv, _⟩ | ⟨g', cap', cur, hv, hb, hh, hnc', hcm, hcs, ht⟩
  · cases hv
  injection hv with ha _ hc
  injection ha with ha
  injection ha with hg
  subst hg; subst hc
  exact ⟨cur, hh, hcs, hcm⟩
theorem R_row {α : Type} {d : Kd α} {W : World} {base e n cap g : Nat} {ok : Nat → Prop} {xs : List α} (h : d.R e W base ok (.slice (some ⟨g, 0, none⟩) n cap) xs) : ∃ cur, W.heap[g]? = some (.cells cur e (0, 0)) ∧ cur.size = cap * d.sz ∧ cap ≤ maxLen := N_row (Kd.R_N h)
theorem F_one {α : Type} {d : Kd α} {W : World} {b e : Nat} {cs : List Value} {x : α} {ok : Nat → Prop} (hb : W.heap[b]? = some (.cells cs.toArray e (0, 0))) (hF : Kd.FK d W ok x cs) : Kd.F d W (fun k => ok k ∨ k = b) (some ⟨b, 0, none⟩) 1 [x] := by
  intro W' hW
  have h1 := hW b (.inr rfl) (q0a hb)
  rw [hb] at h1
  have hK := hF W' (fun k hk hlt => hW k (.inl hk) hlt)
  refine ⟨rfl, by decide, fun _ => ⟨_, rfl, fun j p hj => ?_⟩⟩
  match j, hj with
  | 0, hj =>
    obtain rfl := Option.some.inj hj
    refine ⟨cs, d.K_len hK, hK, fun i u hi => ?_⟩
    rw [Nat.zero_mul, Nat.zero_add, add_plain, cell_of_row W' b _ _ e (0, 0) h1]
    simpa using hi
  | j + 1, hj => simp at hj
theorem zero_one {z : Array Value} (h : z.toList.all (fun v => v.oneCell') = true) (n : Nat) : ∀ v ∈ (Builtin.zeroCells z n).toList, v.oneCell' = true := by
  intro v hv
  unfold Builtin.zeroCells at hv
  rw [Array.toList_map, List.mem_map] at hv
  obtain ⟨i, hi, rfl⟩ := hv
  rw [Array.mem_toList_iff, Array.mem_range] at hi
  have hz : 0 < z.size := by
    rcases Nat.eq_zero_or_pos z.size with h0 | h0
    · rw [h0] at hi; omega
    · exact h0
  rw [getElem!_pos z _ (Nat.mod_lt _ hz)]
  exact List.all_eq_true.1 h _ (by simp)
theorem grown_step {w W W1 : World} {row : Option Nat} (h : w.grownBy W row) (k : W.grownBy W1 row) : w.grownBy W1 row :=
  ⟨k.os.trans h.os, k.tape.trans h.tape, k.output.trans h.output, Nat.le_trans h.size k.size, fun i hi hr => (k.block i (Nat.lt_of_lt_of_le hi h.size) hr).trans (h.block i hi hr)⟩
end Go.Proofs.YthjnallbbhnndaaDoor.Cl
namespace Go.Proofs.YthjnallbbhnndaaDoor.Short
open Go Go.RowKit Go.Proofs.YthjnallbbhnndaaDoorW.PrintWords Go.Proofs.YthjnallbbhnndaaDoorW.PrintLast Go.Proofs.YthjnallbbhnndaaDoorW.PrintMore
theorem aS {p : Prop} (h : p) : Aside0 p := ⟨h⟩
set_option linter.defProp false
abbrev bA := @q0i
abbrev bN := @q1e
abbrev bD := @below_drew1
abbrev bS := @q08
abbrev vA := @Kd.V_alloc
abbrev vN := @Kd.V_drewN
abbrev vD := @Kd.V_drew
abbrev nA := @Kd.N_alloc
abbrev nN := @Kd.N_drewN
abbrev nD := @Kd.N_drew
abbrev rA := @Kd.R_alloc
abbrev rN := @Kd.R_drewN
abbrev rD := @Kd.R_drew
abbrev sA := @Kd.S_alloc
abbrev sN := @Kd.S_drewN
abbrev sD := @Kd.S_drew
abbrev cA := @Kd.C_alloc
abbrev cN := @Kd.C_drewN
abbrev cD := @Kd.C_drew
abbrev kA := @blk_alloc
abbrev kN := @blk_drewN
abbrev kD := @q2c
abbrev od := @of_decide_eq_true
abbrev s1 := @List.setIfInBounds_toArray
abbrev s2 := @List.set_cons_zero
abbrev s3 := @List.set_cons_succ
end Go.Proofs.YthjnallbbhnndaaDoor.Short
namespace Go.Proofs
open Go.Shelf
def Tryd.lays137_ren : Go.Shelf.Ren := ⟨fun | 137 => 154 | 217 => 176 | 266 => 187 | n => n, fun | 9 => 9 | 5 => 5 | 3 => 3 | n => n, fun | n => n⟩
theorem Tryd.lays137 : Go.Proofs.Lays.n137 Tryd.prog Tryd.lays137_ren := {
  mixed := by kernel_rfl
  f137 := Tryd.func154.trans (congrArg some (by kernel_rfl))
  f217 := Tryd.func176.trans (congrArg some (by kernel_rfl))
  f266 := Tryd.func187.trans (congrArg some (by kernel_rfl))
  t3 := Tryd.underlying3
  a3 := Tryd.isAgg3
  z3 := Tryd.sizeOf3
  v3 := Tryd.zeroValue3
  t5 := Tryd.underlying5
  a5 := Tryd.isAgg5
  z5 := Tryd.sizeOf5
  v5 := Tryd.zeroValue5
  t9 := Tryd.underlying9
  a9 := Tryd.isAgg9
  z9 := Tryd.sizeOf9
  v9 := Tryd.zeroValue9 }
open Go.RowKit in
theorem Tryd.strings_IndexByte (s : ByteArray) (c : Int) (w : World) :
    Calls Tryd.prog 154 #[.string s, .int .u8 c] w fun e w' => e = .returned (.int .i64 (Lib.indexByte s.data.toList c.toNat.toUInt8)) ∧ w' = w := Any.strings_IndexByte Tryd.lays137 s c w
def Tryd.lays160_ren : Go.Shelf.Ren := ⟨fun | 160 => 177 | 232 => 189 | 231 => 188 | 227 => 190 | 234 => 192 | 233 => 191 | 236 => 194 | 235 => 193 | 228 => 196 | 271 => 198 | 151 => 95 | 197 => 197 | 120 => 200 | 152 => 133 | 260 => 199 | 137 => 154 | 119 => 155 | 224 => 156 | 225 => 157 | 217 => 176 | 266 => 187 | n => n, fun | 9 => 9 | 4 => 4 | 3 => 3 | 5 => 5 | 117 => 220 | 116 => 219 | 0 => 0 | 124 => 223 | 21 => 21 | 105 => 225 | 46 => 203 | 119 => 227 | 139 => 230 | 138 => 229 | n => n, fun | 3 => 1 | 4 => 2 | n => n⟩
theorem Tryd.lays160 : Go.Proofs.Lays.n160 Tryd.prog Tryd.lays160_ren := {
  mixed := by kernel_rfl
  f119 := Tryd.func155.trans (congrArg some (by kernel_rfl))
  f120 := Tryd.func200.trans (congrArg some (by kernel_rfl))
  f137 := Tryd.func154.trans (congrArg some (by kernel_rfl))
  f151 := Tryd.func95.trans (congrArg some (by kernel_rfl))
  f152 := Tryd.func133.trans (congrArg some (by kernel_rfl))
  f160 := Tryd.func177.trans (congrArg some (by kernel_rfl))
  f197 := Tryd.func197.trans (congrArg some (by kernel_rfl))
  f217 := Tryd.func176.trans (congrArg some (by kernel_rfl))
  f224 := Tryd.func156.trans (congrArg some (by kernel_rfl))
  f225 := Tryd.func157.trans (congrArg some (by kernel_rfl))
  f227 := Tryd.func190.trans (congrArg some (by kernel_rfl))
  f228 := Tryd.func196.trans (congrArg some (by kernel_rfl))
  f231 := Tryd.func188.trans (congrArg some (by kernel_rfl))
  f232 := Tryd.func189.trans (congrArg some (by kernel_rfl))
  f233 := Tryd.func191.trans (congrArg some (by kernel_rfl))
  f234 := Tryd.func192.trans (congrArg some (by kernel_rfl))
  f235 := Tryd.func193.trans (congrArg some (by kernel_rfl))
  f236 := Tryd.func194.trans (congrArg some (by kernel_rfl))
  f260 := Tryd.func199.trans (congrArg some (by kernel_rfl))
  f266 := Tryd.func187.trans (congrArg some (by kernel_rfl))
  f271 := Tryd.func198.trans (congrArg some (by kernel_rfl))
  t0 := Tryd.underlying0
  a0 := Tryd.isAgg0
  z0 := Tryd.sizeOf0
  v0 := Tryd.zeroValue0
  t3 := Tryd.underlying3
  a3 := Tryd.isAgg3
  z3 := Tryd.sizeOf3
  v3 := Tryd.zeroValue3
  t4 := Tryd.underlying4
  a4 := Tryd.isAgg4
  z4 := Tryd.sizeOf4
  v4 := Tryd.zeroValue4
  t5 := Tryd.underlying5
  a5 := Tryd.isAgg5
  z5 := Tryd.sizeOf5
  v5 := Tryd.zeroValue5
  t9 := Tryd.underlying9
  a9 := Tryd.isAgg9
  z9 := Tryd.sizeOf9
  v9 := Tryd.zeroValue9
  t21 := Tryd.underlying21
  a21 := Tryd.isAgg21
  z21 := Tryd.sizeOf21
  v21 := Tryd.zeroValue21
  t46 := Tryd.underlying203
  a46 := Tryd.isAgg203
  z46 := Tryd.sizeOf203
  v46 := Tryd.zeroValue203
  t105 := Tryd.underlying225
  a105 := Tryd.isAgg225
  z105 := Tryd.sizeOf225
  v105 := Tryd.zeroValue225
  t116 := Tryd.underlying219
  a116 := Tryd.isAgg219
  z116 := Tryd.sizeOf219
  t117 := Tryd.underlying220
  a117 := Tryd.isAgg220
  z117 := Tryd.sizeOf220
  v117 := Tryd.zeroValue220
  t119 := Tryd.underlying227
  a119 := Tryd.isAgg227
  z119 := Tryd.sizeOf227
  t124 := Tryd.underlying223
  a124 := Tryd.isAgg223
  z124 := Tryd.sizeOf223
  v124 := Tryd.zeroValue223
  t138 := Tryd.underlying229
  a138 := Tryd.isAgg229
  z138 := Tryd.sizeOf229
  v138 := Tryd.zeroValue229
  t139 := Tryd.underlying230
  a139 := Tryd.isAgg230
  z139 := Tryd.sizeOf230
  v139 := Tryd.zeroValue230
  g3 := by kernel_rfl
  g4 := by kernel_rfl }
open Go.RowKit Go.Lib in
theorem Tryd.strings_Trim (s cutset : ByteArray) (w : World) (hs : s.size ≤ 9223372036854775807) (hcs : cutset.size < 4294967281) (hascii : ∀ (j : Nat) b, cutset.data.toList[j]? = some b → b.toNat < 128) :
    Calls Tryd.prog 177 #[.string s, .string cutset] w fun e w' => e = .returned (.string ⟨(Lib.trimS s.data.toList cutset.data.toList).toArray⟩) ∧ Below w.heap.size w w' := Any.strings_Trim_laid Tryd.lays160 (by kernel_rfl) s cutset w hs hcs hascii
end Go.Proofs
namespace Go.Proofs
open Go.Shelf
def Tryd.laysIns_ren : Go.Shelf.Ren := ⟨fun | 21 => 153 | 27 => 174 | 28 => 175 | 35 => 186 | 39 => 111 | n => n, fun | 22 => 31 | 3 => 3 | 4 => 4 | 0 => 0 | n => n, fun | n => n⟩
theorem Tryd.laysIns : Go.Proofs.Lays2.n21 Tryd.prog Tryd.laysIns_ren := {
  mixed := by kernel_rfl
  f21 := Tryd.func153.trans (congrArg some (by kernel_rfl))
  f27 := Tryd.func174.trans (congrArg some (by kernel_rfl))
  f28 := Tryd.func175.trans (congrArg some (by kernel_rfl))
  f35 := Tryd.func186.trans (congrArg some (by kernel_rfl))
  f39 := Tryd.func111.trans (congrArg some (by kernel_rfl))
  t0 := Tryd.underlying0
  a0 := Tryd.isAgg0
  z0 := Tryd.sizeOf0
  v0 := Tryd.zeroValue0
  t3 := Tryd.underlying3
  a3 := Tryd.isAgg3
  z3 := Tryd.sizeOf3
  v3 := Tryd.zeroValue3
  t4 := Tryd.underlying4
  a4 := Tryd.isAgg4
  z4 := Tryd.sizeOf4
  v4 := Tryd.zeroValue4
  t22 := Tryd.underlying31
  a22 := Tryd.isAgg31
  z22 := Tryd.sizeOf31
  v22 := Tryd.zeroValue31
  i3 := by kernel_rfl }
end Go.Proofs
namespace Go.Proofs.YthjnallbbhnndaaDoor.Short
open Go Go.RowKit Go.Proofs.YthjnallbbhnndaaDoorW.PrintWords
theorem iB {α β : Type} {x : Option α} {f : α → Option β} {r : β} (h : x.bind f = some r) : ∃ t, Aside0 (x = some t) ∧ f t = some r :=
  let ⟨t, a, b⟩ := Option.bind_eq_some_iff.mp h
  ⟨t, ⟨a⟩, b⟩
variable {β : Type} {a b : Option β} {r : β} {G : Prop}
theorem iG {P : Prop} [Decidable P] (h : (if P then a else b) = some r) (p : P → a = some r → G) (n : ¬ P → b = some r → G) : G := by
  by_cases c : P
  · rw [if_pos c] at h; exact p c h
  · rw [if_neg c] at h; exact n c h
theorem iGp {P : Prop} [Decidable P] (h : (if P then a else none) = some r) (p : P → a = some r → G) : G := iG h p fun _ h => absurd h (by simp)
theorem iGq {P : Prop} [Decidable P] (h : (if P then none else b) = some r) (n : ¬ P → b = some r → G) : G := iG h (fun _ h => absurd h (by simp)) n
theorem iV {t : Bool} (h : (if t = true then a else b) = some r) (p : t = true → a = some r → G) (n : t = false → b = some r → G) : G := iG h p fun c => n (Bool.eq_false_iff.mpr c)
theorem iVp {t : Bool} (h : (if t = true then a else none) = some r) (p : t = true → a = some r → G) : G := iV h p fun _ h => absurd h (by simp)
theorem iVq {t : Bool} (h : (if t = true then none else b) = some r) (n : t = false → b = some r → G) : G := iV h (fun _ h => absurd h (by simp)) n
theorem iE {α : Type} [BEq α] [LawfulBEq α] {x y : α} [Decidable (x = y)] (h : (if x = y then a else b) = some r) (p : (x == y) = true → (x != y) = false → a = some r → G) (n : ¬ x = y → (x == y) = false → (x != y) = true → b = some r → G) : G :=
  iG h (fun c => p (beq_iff_eq.mpr c) (bne_eq_false_iff_eq.mpr c)) fun c => n c (beq_eq_false_iff_ne.mpr c) (bne_iff_ne.mpr c)
theorem iEp {α : Type} [BEq α] [LawfulBEq α] {x y : α} [Decidable (x = y)] (h : (if x = y then a else none) = some r) (p : (x == y) = true → (x != y) = false → a = some r → G) : G := iE h p fun _ _ _ h => absurd h (by simp)
theorem iEq {α : Type} [BEq α] [LawfulBEq α] {x y : α} [Decidable (x = y)] (h : (if x = y then none else b) = some r) (n : ¬ x = y → (x == y) = false → (x != y) = true → b = some r → G) : G := iE h (fun _ _ h => absurd h (by simp)) n
theorem iT {x y : Int} (h : (if x < y then a else b) = some r) (p : decide (x < y) = true → a = some r → G) (n : decide (x < y) = false → b = some r → G) : G := iG h (fun c => p (decide_eq_true c)) fun c => n (decide_eq_false c)
theorem iTp {x y : Int} (h : (if x < y then a else none) = some r) (p : decide (x < y) = true → a = some r → G) : G := iT h p fun _ h => absurd h (by simp)
theorem iTq {x y : Int} (h : (if x < y then none else b) = some r) (n : decide (x < y) = false → b = some r → G) : G := iT h (fun _ h => absurd h (by simp)) n
theorem iTN {x y : Int} {m n : Nat} (h : (if x < y then a else b) = some r) (e : x = m) (f : y = n) (p : decide (x < y) = true → decide (m < n) = true → a = some r → G) (q : decide (x < y) = false → decide (m < n) = false → b = some r → G) : G :=
  iG h (fun c => p (decide_eq_true c) (decide_eq_true (by omega))) fun c => q (decide_eq_false c) (decide_eq_false (by omega))
theorem iTNp {x y : Int} {m n : Nat} (h : (if x < y then a else none) = some r) (e : x = m) (f : y = n) (p : decide (x < y) = true → decide (m < n) = true → a = some r → G) : G := iTN h e f p fun _ _ h => absurd h (by simp)
theorem iTNq {x y : Int} {m n : Nat} (h : (if x < y then none else b) = some r) (e : x = m) (f : y = n) (q : decide (x < y) = false → decide (m < n) = false → b = some r → G) : G := iTN h e f (fun _ _ h => absurd h (by simp)) q
theorem iL {x y : Int} (h : (if x ≤ y then a else b) = some r) (p : decide (x ≤ y) = true → a = some r → G) (n : decide (x ≤ y) = false → b = some r → G) : G := iG h (fun c => p (decide_eq_true c)) fun c => n (decide_eq_false c)
theorem iLp {x y : Int} (h : (if x ≤ y then a else none) = some r) (p : decide (x ≤ y) = true → a = some r → G) : G := iL h p fun _ h => absurd h (by simp)
theorem iLq {x y : Int} (h : (if x ≤ y then none else b) = some r) (n : decide (x ≤ y) = false → b = some r → G) : G := iL h (fun _ h => absurd h (by simp)) n
theorem iLN {x y : Int} {m n : Nat} (h : (if x ≤ y then a else b) = some r) (e : x = m) (f : y = n) (p : decide (x ≤ y) = true → decide (m ≤ n) = true → a = some r → G) (q : decide (x ≤ y) = false → decide (m ≤ n) = false → b = some r → G) : G :=
  iG h (fun c => p (decide_eq_true c) (decide_eq_true (by omega))) fun c => q (decide_eq_false c) (decide_eq_false (by omega))
theorem iLNp {x y : Int} {m n : Nat} (h : (if x ≤ y then a else none) = some r) (e : x = m) (f : y = n) (p : decide (x ≤ y) = true → decide (m ≤ n) = true → a = some r → G) : G := iLN h e f p fun _ _ h => absurd h (by simp)
theorem iLNq {x y : Int} {m n : Nat} (h : (if x ≤ y then none else b) = some r) (e : x = m) (f : y = n) (q : decide (x ≤ y) = false → decide (m ≤ n) = false → b = some r → G) : G := iLN h e f (fun _ _ h => absurd h (by simp)) q
variable {w : World} {g : Nat} {t : TypeId} {v0 v1 v2 v3 v4 v5 v6 v7 : Value}
theorem bk2 (h : w.heap[g]? = some (.cells #[v0, v1] t (0, 0))) : w.cell? ⟨g, 0, none⟩ = some v0 ∧ w.cell? ⟨g, 1, none⟩ = some v1 ∧ w.frozen? ⟨g, 0, none⟩ = false ∧ w.frozen? ⟨g, 1, none⟩ = false :=
  ⟨(q09 h 0).trans rfl, (q09 h 1).trans rfl, q0f h 0, q0f h 1⟩
theorem bk3 (h : w.heap[g]? = some (.cells #[v0, v1, v2] t (0, 0))) : w.cell? ⟨g, 0, none⟩ = some v0 ∧ w.cell? ⟨g, 1, none⟩ = some v1 ∧ w.cell? ⟨g, 2, none⟩ = some v2 ∧ w.frozen? ⟨g, 0, none⟩ = false ∧ w.frozen? ⟨g, 1, none⟩ = false ∧ w.frozen? ⟨g, 2, none⟩ = false :=
  ⟨(q09 h 0).trans rfl, (q09 h 1).trans rfl, (q09 h 2).trans rfl, q0f h 0, q0f h 1, q0f h 2⟩
theorem bk4 (h : w.heap[g]? = some (.cells #[v0, v1, v2, v3] t (0, 0))) : w.cell? ⟨g, 0, none⟩ = some v0 ∧ w.cell? ⟨g, 1, none⟩ = some v1 ∧ w.cell? ⟨g, 2, none⟩ = some v2 ∧ w.cell? ⟨g, 3, none⟩ = some v3 ∧ w.frozen? ⟨g, 0, none⟩ = false ∧ w.frozen? ⟨g, 1, none⟩ = false ∧ w.frozen? ⟨g, 2, none⟩ = false ∧ w.frozen? ⟨g, 3, none⟩ = false :=
  ⟨(q09 h 0).trans rfl, (q09 h 1).trans rfl, (q09 h 2).trans rfl, (q09 h 3).trans rfl, q0f h 0, q0f h 1, q0f h 2, q0f h 3⟩
theorem bk5 (h : w.heap[g]? = some (.cells #[v0, v1, v2, v3, v4] t (0, 0))) : w.cell? ⟨g, 0, none⟩ = some v0 ∧ w.cell? ⟨g, 1, none⟩ = some v1 ∧ w.cell? ⟨g, 2, none⟩ = some v2 ∧ w.cell? ⟨g, 3, none⟩ = some v3 ∧ w.cell? ⟨g, 4, none⟩ = some v4 ∧ w.frozen? ⟨g, 0, none⟩ = false ∧ w.frozen? ⟨g, 1, none⟩ = false ∧ w.frozen? ⟨g, 2, none⟩ = false ∧ w.frozen? ⟨g, 3, none⟩ = false ∧ w.frozen? ⟨g, 4, none⟩ = false :=
  ⟨(q09 h 0).trans rfl, (q09 h 1).trans rfl, (q09 h 2).trans rfl, (q09 h 3).trans rfl, (q09 h 4).trans rfl, q0f h 0, q0f h 1, q0f h 2, q0f h 3, q0f h 4⟩
theorem bk6 (h : w.heap[g]? = some (.cells #[v0, v1, v2, v3, v4, v5] t (0, 0))) : w.cell? ⟨g, 0, none⟩ = some v0 ∧ w.cell? ⟨g, 1, none⟩ = some v1 ∧ w.cell? ⟨g, 2, none⟩ = some v2 ∧ w.cell? ⟨g, 3, none⟩ = some v3 ∧ w.cell? ⟨g, 4, none⟩ = some v4 ∧ w.cell? ⟨g, 5, none⟩ = some v5 ∧ w.frozen? ⟨g, 0, none⟩ = false ∧ w.frozen? ⟨g, 1, none⟩ = false ∧ w.frozen? ⟨g, 2, none⟩ = false ∧ w.frozen? ⟨g, 3, none⟩ = false ∧ w.frozen? ⟨g, 4, none⟩ = false ∧ w.frozen? ⟨g, 5, none⟩ = false :=
  ⟨(q09 h 0).trans rfl, (q09 h 1).trans rfl, (q09 h 2).trans rfl, (q09 h 3).trans rfl, (q09 h 4).trans rfl, (q09 h 5).trans rfl, q0f h 0, q0f h 1, q0f h 2, q0f h 3, q0f h 4, q0f h 5⟩
theorem bk7 (h : w.heap[g]? = some (.cells #[v0, v1, v2, v3, v4, v5, v6] t (0, 0))) : w.cell? ⟨g, 0, none⟩ = some v0 ∧ w.cell? ⟨g, 1, none⟩ = some v1 ∧ w.cell? ⟨g, 2, none⟩ = some v2 ∧ w.cell? ⟨g, 3, none⟩ = some v3 ∧ w.cell? ⟨g, 4, none⟩ = some v4 ∧ w.cell? ⟨g, 5, none⟩ = some v5 ∧ w.cell? ⟨g, 6, none⟩ = some v6 ∧ w.frozen? ⟨g, 0, none⟩ = false ∧ w.frozen? ⟨g, 1, none⟩ = false ∧ w.frozen? ⟨g, 2, none⟩ = false ∧ w.frozen? ⟨g, 3, none⟩ = false ∧ w.frozen? ⟨g, 4, none⟩ = false ∧ w.frozen? ⟨g, 5, none⟩ = false ∧ w.frozen? ⟨g, 6, none⟩ = false :=
  ⟨(q09 h 0).trans rfl, (q09 h 1).trans rfl, (q09 h 2).trans rfl, (q09 h 3).trans rfl, (q09 h 4).trans rfl, (q09 h 5).trans rfl, (q09 h 6).trans rfl, q0f h 0, q0f h 1, q0f h 2, q0f h 3, q0f h 4, q0f h 5, q0f h 6⟩
theorem bk8 (h : w.heap[g]? = some (.cells #[v0, v1, v2, v3, v4, v5, v6, v7] t (0, 0))) : w.cell? ⟨g, 0, none⟩ = some v0 ∧ w.cell? ⟨g, 1, none⟩ = some v1 ∧ w.cell? ⟨g, 2, none⟩ = some v2 ∧ w.cell? ⟨g, 3, none⟩ = some v3 ∧ w.cell? ⟨g, 4, none⟩ = some v4 ∧ w.cell? ⟨g, 5, none⟩ = some v5 ∧ w.cell? ⟨g, 6, none⟩ = some v6 ∧ w.cell? ⟨g, 7, none⟩ = some v7 ∧ w.frozen? ⟨g, 0, none⟩ = false ∧ w.frozen? ⟨g, 1, none⟩ = false ∧ w.frozen? ⟨g, 2, none⟩ = false ∧ w.frozen? ⟨g, 3, none⟩ = false ∧ w.frozen? ⟨g, 4, none⟩ = false ∧ w.frozen? ⟨g, 5, none⟩ = false ∧ w.frozen? ⟨g, 6, none⟩ = false ∧ w.frozen? ⟨g, 7, none⟩ = false :=
  ⟨(q09 h 0).trans rfl, (q09 h 1).trans rfl, (q09 h 2).trans rfl, (q09 h 3).trans rfl, (q09 h 4).trans rfl, (q09 h 5).trans rfl, (q09 h 6).trans rfl, (q09 h 7).trans rfl, q0f h 0, q0f h 1, q0f h 2, q0f h 3, q0f h 4, q0f h 5, q0f h 6, q0f h 7⟩
section
variable {A : Option Addr} {n : Nat} {w1 : World}
theorem atIA {k : IntKind} {xs : List Int} (h : (Kd.int k).C w A n xs) (i : Int) (h0 : decide (0 ≤ i) = true) (h1 : decide (i < n) = true) : ∃ ad, A = some ad ∧ w.cell? (ad.add i.toNat) = some (.int k (rd xs i)) ∧ (0 ≤ i) = True ∧ (i < n) = True :=
  let ⟨ad, e, c⟩ := Kd.at_int h i (of_decide_eq_true h0) (of_decide_eq_true h1)
  ⟨ad, e, c, eq_true (of_decide_eq_true h0), eq_true (of_decide_eq_true h1)⟩
theorem atIB {k : IntKind} {xs : List Int} (hb : Below w.heap.size w w1) (h : (Kd.int k).C w A n xs) (i : Int) (h0 : decide (0 ≤ i) = true) (h1 : decide (i < n) = true) : ∃ ad, A = some ad ∧ w1.cell? (ad.add i.toNat) = some (.int k (rd xs i)) ∧ (0 ≤ i) = True ∧ (i < n) = True :=
  let ⟨ad, e, c, a, b⟩ := atIA h i h0 h1
  ⟨ad, e, q0b hb c, a, b⟩
theorem atOA {xs : List Bool} (h : Kd.bool.C w A n xs) (i : Int) (h0 : decide (0 ≤ i) = true) (h1 : decide (i < n) = true) : ∃ ad, A = some ad ∧ w.cell? (ad.add i.toNat) = some (.bool (rdOf false xs i)) ∧ (0 ≤ i) = True ∧ (i < n) = True :=
  let ⟨ad, e, c⟩ := Kd.at_bool h i (of_decide_eq_true h0) (of_decide_eq_true h1)
  ⟨ad, e, c, eq_true (of_decide_eq_true h0), eq_true (of_decide_eq_true h1)⟩
theorem atOB {xs : List Bool} (hb : Below w.heap.size w w1) (h : Kd.bool.C w A n xs) (i : Int) (h0 : decide (0 ≤ i) = true) (h1 : decide (i < n) = true) : ∃ ad, A = some ad ∧ w1.cell? (ad.add i.toNat) = some (.bool (rdOf false xs i)) ∧ (0 ≤ i) = True ∧ (i < n) = True :=
  let ⟨ad, e, c, a, b⟩ := atOA h i h0 h1
  ⟨ad, e, q0b hb c, a, b⟩
theorem box0 {P : Program} {ops : Array Oper} {Q : Exit → Act → World → Prop} {rest : List Oper} {o : Oper} {a : Act} {w0 W : World} (hgd : o.guard = none) {N : Tmp} (_hd : o.dst = some N) {cs : Array Value} {t : TypeId}
    (hrun : (execOp a.eval o).run P W = .ok (.value (.pointer (some ⟨W.heap.size, 0, none⟩))) (W.alloc (.cells cs t (0, 0)))) (hB : Below w0.heap.size w0 W)
    (h : ∀ g w1, Aside0 (w1.heap[g]? = some (.cells cs t (0, 0))) → Aside0 (w0.heap.size ≤ g) → Aside0 (Below w0.heap.size w0 w1) → wpList P ops Q rest (a.put o.dst (.pointer (some ⟨g, 0, none⟩))) w1) : wpList P ops Q (o :: rest) a W :=
  q0t hgd _hd hrun fun g hg w1 hb hs => h g w1 ⟨hb⟩ ⟨by rw [hg]; exact q0c hB⟩ ⟨q01 hB hs⟩
end
end Go.Proofs.YthjnallbbhnndaaDoor.Short
namespace Go.Proofs.YthjnallbbhnndaaDoor.XDe
open Go.Proofs.YthjnallbbhnndaaDoor.Short Go.RowKit Go.Proofs.YthjnallbbhnndaaDoorW.PrintWords Go.Proofs.YthjnallbbhnndaaDoorW.PrintLast Go.Proofs.YthjnallbbhnndaaDoorW.PrintMore
attribute [local go_sem] q16 q14 q1g q1f q0s q0r q15 q13   -- for this text's walks alone
set_option linter.unusedVariables false
set_option linter.unusedSimpArgs false
def errW : Option Int → Value
 | none => .nilIface
 | some c => .iface 0 (.int .i64 c)
theorem q05 : errW none = .nilIface := rfl
theorem q04 (c : Int) : errW (some c) = .iface 0 (.int .i64 c) := rfl
theorem info3 : (Tryd.prog.info? 3).map (fun i => (i.zero, i.size, i.bytes)) = some (some (.int .i64 0), 1, 8) := by kernel_rfl
theorem info4 : (Tryd.prog.info? 4).map (fun i => (i.zero, i.size, i.bytes)) = some (some (.bool false), 1, 1) := by kernel_rfl
theorem info43 : (Tryd.prog.info? 43).map (fun i => (i.zero, i.size, i.bytes)) = some (some (.agg #[(.int .i64 0), (.string ⟨#[]⟩), (.slice none 0 0), (.string ⟨#[]⟩), (.int .i64 0), (.slice none 0 0)]), 6, 96) := by kernel_rfl
theorem q1u : (Tryd.prog.info? 122).map (fun i => (i.zero, i.size, i.bytes)) = some (some (.agg #[(.string ⟨#[]⟩), (.string ⟨#[]⟩)]), 2, 32) := by kernel_rfl
structure S122 where
 f0 : ByteArray
 f1 : ByteArray
def z122 : S122 := ⟨(⟨#[]⟩ : ByteArray), (⟨#[]⟩ : ByteArray)⟩
def k122 : Kd S122 := Kd.iso (Kd.pair Kd.string Kd.string) (fun x : S122 => (x.f0, x.f1))
theorem k122_heap : Kd.Heap k122 := Kd.heap_iso _ (Kd.heap_pair Kd.heap_string Kd.heap_string)
theorem k122_open {w : World} {x : S122} {cs : List Value} (h : k122.K w x cs) : cs = [.string x.f0, .string x.f1] := by
 obtain ⟨_, _, rfl, rfl, rfl⟩ := h
 exact rfl
theorem k122_openM {w : World} {base : Nat} {ok : Nat → Prop} {x : S122} {cs : List Value} (h : k122.M w base ok x cs) : cs = [.string x.f0, .string x.f1] := by
 obtain ⟨_, _, rfl, rfl, rfl⟩ := h
 exact rfl
theorem k122_mk (w : World) (x : S122)  : k122.K w x [.string x.f0, .string x.f1] := ⟨[.string x.f0], [.string x.f1], rfl, rfl, rfl⟩
theorem k122_mkM (w : World) (base : Nat) (ok : Nat → Prop) (x : S122)  : k122.M w base ok x [.string x.f0, .string x.f1] := ⟨[.string x.f0], [.string x.f1], rfl, rfl, rfl⟩
theorem k122_mkF (W : World) (ok : Nat → Prop) (x : S122) : Kd.FK k122 W ok x [.string x.f0, .string x.f1] := fun W2 _ => k122_mk W2 x
def q03 (xs : List S122) (i : Int) : S122 := xs.getD i.toNat z122
theorem at_T122 {w : World} {A : Option Addr} {n : Nat} {xs : List S122} (h : Kd.C k122 w A n xs) (i : Int) (h0 : 0 ≤ i) (h1 : i < n) : ∃ ad , A = some ad ∧ w.cell? (ad.add (i.toNat * 2)) = some (.string (q03 xs i).f0) ∧ w.cell? ⟨(ad.add (i.toNat * 2)).block, (ad.add (i.toNat * 2)).off + 1, none⟩ = some (.string (q03 xs i).f1) := by
 obtain ⟨ad, c, e, _, hK, hc0⟩ := Kd.C_get h z122 i h0 h1
 have hc : ∀ j u, c[j]? = some u → w.cell? (ad.add (i.toNat * 2 + j)) = some u := hc0
 obtain rfl := k122_open hK
 exact ⟨ad, e, hc 0 _ rfl, by rw [← q0z _ _ 1 (by omega)]; exact hc 1 _ rfl⟩
theorem q19 {w w1 : World} {A : Option Addr} {n : Nat} {xs : List S122} (hb : Below w.heap.size w w1) (h : Kd.C k122 w A n xs) (i : Int) (h0 : decide (0 ≤ i) = true) (h1 : decide (i < n) = true) : ∃ ad, A = some ad ∧ w1.cell? (ad.add (i.toNat * 2)) = some (.string (q03 xs i).f0) ∧ w1.cell? ⟨(ad.add (i.toNat * 2)).block, (ad.add (i.toNat * 2)).off + 1, none⟩ = some (.string (q03 xs i).f1) ∧ (0 ≤ i) = True ∧ (i < n) = True :=
 let ⟨ad, e, x0, x1⟩ := at_T122 h i (of_decide_eq_true h0) (of_decide_eq_true h1)
 ⟨ad, e, q0b hb x0, q0b hb x1, eq_true (of_decide_eq_true h0), eq_true (of_decide_eq_true h1)⟩
theorem at_T122A {w : World} {A : Option Addr} {n : Nat} {xs : List S122} (h : Kd.C k122 w A n xs) (i : Int) (h0 : decide (0 ≤ i) = true) (h1 : decide (i < n) = true) : ∃ ad, A = some ad ∧ w.cell? (ad.add (i.toNat * 2)) = some (.string (q03 xs i).f0) ∧ w.cell? ⟨(ad.add (i.toNat * 2)).block, (ad.add (i.toNat * 2)).off + 1, none⟩ = some (.string (q03 xs i).f1) ∧ (0 ≤ i) = True ∧ (i < n) = True :=
 let ⟨ad, e, x0, x1⟩ := at_T122 h i (of_decide_eq_true h0) (of_decide_eq_true h1)
 ⟨ad, e, x0, x1, eq_true (of_decide_eq_true h0), eq_true (of_decide_eq_true h1)⟩
def rd_L3 (xs : List (List S122)) (i : Int) : (List S122) := xs.getD i.toNat ([] : List S122)
theorem at_L3 {w : World} {A : Option Addr} {n : Nat} {xs : List (List S122)} (h : Kd.C (Kd.slice 122 k122) w A n xs) (i : Int) (h0 : 0 ≤ i) (h1 : i < n) : ∃ ad A0 c0, A = some ad ∧ w.cell? (ad.add i.toNat) = some (.slice A0 (rd_L3 xs i).length c0) ∧ (rd_L3 xs i).length ≤ c0 ∧ k122.C w A0 (rd_L3 xs i).length (rd_L3 xs i) := by
 obtain ⟨ad, c, e, _, hK, hc0⟩ := Kd.C_get h ([] : List S122) i h0 h1
 have hc : ∀ j u, c[j]? = some u → w.cell? (ad.add (i.toNat * 1 + j)) = some u := hc0
 obtain ⟨A0, c0, rfl, l0, g0⟩ := hK
 exact ⟨ad, A0, c0, e, by have hq := hc 0 _ rfl; rwa [Nat.mul_one, Nat.add_zero] at hq, l0, g0⟩
def rd_L4 (xs : List (List Int)) (i : Int) : (List Int) := xs.getD i.toNat ([] : List Int)
theorem at_L4 {w : World} {A : Option Addr} {n : Nat} {xs : List (List Int)} (h : Kd.C (Kd.slice 3 (Kd.int .i64)) w A n xs) (i : Int) (h0 : 0 ≤ i) (h1 : i < n) : ∃ ad A0 c0, A = some ad ∧ w.cell? (ad.add i.toNat) = some (.slice A0 (rd_L4 xs i).length c0) ∧ (rd_L4 xs i).length ≤ c0 ∧ (Kd.int .i64).C w A0 (rd_L4 xs i).length (rd_L4 xs i) := by
 obtain ⟨ad, c, e, _, hK, hc0⟩ := Kd.C_get h ([] : List Int) i h0 h1
 have hc : ∀ j u, c[j]? = some u → w.cell? (ad.add (i.toNat * 1 + j)) = some u := hc0
 obtain ⟨A0, c0, rfl, l0, g0⟩ := hK
 exact ⟨ad, A0, c0, e, by have hq := hc 0 _ rfl; rwa [Nat.mul_one, Nat.add_zero] at hq, l0, g0⟩
structure S43 where
 f0 : Int
 f1 : ByteArray
 f2 : (List S122)
 f3 : ByteArray
 f4 : Int
 f5 : (List Int)
def z43 : S43 := ⟨(0 : Int), (⟨#[]⟩ : ByteArray), ([] : List S122), (⟨#[]⟩ : ByteArray), (0 : Int), ([] : List Int)⟩
def k43 : Kd S43 := Kd.iso (Kd.pair (Kd.int .i64) (Kd.pair Kd.string (Kd.pair (Kd.slice 122 k122) (Kd.pair Kd.string (Kd.pair (Kd.int .i64) (Kd.slice 3 (Kd.int .i64))))))) (fun x : S43 => (x.f0, x.f1, x.f2, x.f3, x.f4, x.f5))
theorem k43_heap : Kd.Heap k43 := Kd.heap_iso _ (Kd.heap_pair (Kd.heap_int .i64) (Kd.heap_pair Kd.heap_string (Kd.heap_pair (Kd.heap_slice 122 k122_heap) (Kd.heap_pair Kd.heap_string (Kd.heap_pair (Kd.heap_int .i64) (Kd.heap_slice 3 (Kd.heap_int .i64)))))))
theorem k43_open {w : World} {x : S43} {cs : List Value} (h : k43.K w x cs) : ∃ A2 c2 A5 c5, cs = [.int .i64 x.f0, .string x.f1, .slice A2 x.f2.length c2, .string x.f3, .int .i64 x.f4, .slice A5 x.f5.length c5] ∧ x.f2.length ≤ c2 ∧ k122.C w A2 x.f2.length x.f2 ∧ x.f5.length ≤ c5 ∧ (Kd.int .i64).C w A5 x.f5.length x.f5 := by
 obtain ⟨_, _, rfl, rfl, ⟨_, _, rfl, rfl, ⟨_, _, rfl, ⟨A2, c2, rfl, l2, g2⟩, ⟨_, _, rfl, rfl, ⟨_, _, rfl, rfl, ⟨A5, c5, rfl, l5, g5⟩⟩⟩⟩⟩⟩ := h
 exact ⟨A2, c2, A5, c5, rfl, l2, g2, l5, g5⟩
theorem q27 {w : World} {base : Nat} {ok : Nat → Prop} {x : S43} {cs : List Value} (h : k43.M w base ok x cs) : ∃ v2 v5, cs = [.int .i64 x.f0, .string x.f1, v2, .string x.f3, .int .i64 x.f4, v5] ∧ k122.R 122 w base ok v2 x.f2 ∧ (Kd.int .i64).R 3 w base ok v5 x.f5 := by
 obtain ⟨_, _, rfl, rfl, ⟨_, _, rfl, rfl, ⟨_, _, rfl, ⟨v2, rfl, g2⟩, ⟨_, _, rfl, rfl, ⟨_, _, rfl, rfl, ⟨v5, rfl, g5⟩⟩⟩⟩⟩⟩ := h
 exact ⟨v2, v5, rfl, g2, g5⟩
theorem k43_mk (w : World) (x : S43) {A2 : Option Addr} {c2 : Nat} (l2 : x.f2.length ≤ c2) (g2 : k122.C w A2 x.f2.length x.f2) {A5 : Option Addr} {c5 : Nat} (l5 : x.f5.length ≤ c5) (g5 : (Kd.int .i64).C w A5 x.f5.length x.f5) : k43.K w x [.int .i64 x.f0, .string x.f1, .slice A2 x.f2.length c2, .string x.f3, .int .i64 x.f4, .slice A5 x.f5.length c5] := ⟨[.int .i64 x.f0], [.string x.f1, .slice A2 x.f2.length c2, .string x.f3, .int .i64 x.f4, .slice A5 x.f5.length c5], rfl, rfl, ⟨[.string x.f1], [.slice A2 x.f2.length c2, .string x.f3, .int .i64 x.f4, .slice A5 x.f5.length c5], rfl, rfl, ⟨[.slice A2 x.f2.length c2], [.string x.f3, .int .i64 x.f4, .slice A5 x.f5.length c5], rfl, ⟨A2, c2, rfl, l2, g2⟩, ⟨[.string x.f3], [.int .i64 x.f4, .slice A5 x.f5.length c5], rfl, rfl, ⟨[.int .i64 x.f4], [.slice A5 x.f5.length c5], rfl, rfl, ⟨A5, c5, rfl, l5, g5⟩⟩⟩⟩⟩⟩
theorem q28 (w : World) (base : Nat) (ok : Nat → Prop) (x : S43) {v2 : Value} (g2 : k122.R 122 w base ok v2 x.f2) {v5 : Value} (g5 : (Kd.int .i64).R 3 w base ok v5 x.f5) : k43.M w base ok x [.int .i64 x.f0, .string x.f1, v2, .string x.f3, .int .i64 x.f4, v5] := ⟨[.int .i64 x.f0], [.string x.f1, v2, .string x.f3, .int .i64 x.f4, v5], rfl, rfl, ⟨[.string x.f1], [v2, .string x.f3, .int .i64 x.f4, v5], rfl, rfl, ⟨[v2], [.string x.f3, .int .i64 x.f4, v5], rfl, ⟨v2, rfl, g2⟩, ⟨[.string x.f3], [.int .i64 x.f4, v5], rfl, rfl, ⟨[.int .i64 x.f4], [v5], rfl, rfl, ⟨v5, rfl, g5⟩⟩⟩⟩⟩⟩
theorem k43_openF {W : World} {ok : Nat → Prop} {x : S43} {cs : List Value} (h : Kd.FK k43 W ok x cs) : ∃ A2 c2 A5 c5, cs = [.int .i64 x.f0, .string x.f1, .slice A2 x.f2.length c2, .string x.f3, .int .i64 x.f4, .slice A5 x.f5.length c5] ∧ x.f2.length ≤ c2 ∧ Kd.F k122 W ok A2 x.f2.length x.f2 ∧ x.f5.length ≤ c5 ∧ Kd.F (Kd.int .i64) W ok A5 x.f5.length x.f5 := by
 obtain ⟨A2, c2, A5, c5, rfl, l2, _, l5, _⟩ := k43_open (Kd.FK_now h)
 exact ⟨A2, c2, A5, c5, rfl, l2, (fun W' hW => by obtain ⟨A2_, c2_, A5_, c5_, he, l2_, g2_, l5_, g5_⟩ := k43_open (h W' hW); injection (Option.some.inj (show some (Value.slice A2 x.f2.length c2) = some (Value.slice A2_ x.f2.length c2_) from congrArg (fun l => l[2]?) he)) with ha_ _ _; rw [ha_]; exact g2_), l5, (fun W' hW => by obtain ⟨A2_, c2_, A5_, c5_, he, l2_, g2_, l5_, g5_⟩ := k43_open (h W' hW); injection (Option.some.inj (show some (Value.slice A5 x.f5.length c5) = some (Value.slice A5_ x.f5.length c5_) from congrArg (fun l => l[5]?) he)) with ha_ _ _; rw [ha_]; exact g5_)⟩
theorem k43_mkF (W : World) (ok : Nat → Prop) (x : S43) {A2 : Option Addr} {c2 : Nat} (l2 : x.f2.length ≤ c2) (g2 : Kd.F k122 W ok A2 x.f2.length x.f2) {A5 : Option Addr} {c5 : Nat} (l5 : x.f5.length ≤ c5) (g5 : Kd.F (Kd.int .i64) W ok A5 x.f5.length x.f5) : Kd.FK k43 W ok x [.int .i64 x.f0, .string x.f1, .slice A2 x.f2.length c2, .string x.f3, .int .i64 x.f4, .slice A5 x.f5.length c5] := fun W2 hW => k43_mk W2 x l2 (g2 W2 hW) l5 (g5 W2 hW)
theorem k43_mkFV (W : World) (ok : Nat → Prop) (x : S43) {v2 : Value} {b2 e2 : Nat} (g2 : Kd.V k122 e2 W b2 ok v2 x.f2) {v5 : Value} {b5 e5 : Nat} (g5 : Kd.V (Kd.int .i64) e5 W b5 ok v5 x.f5) : Kd.FK k43 W ok x [.int .i64 x.f0, .string x.f1, v2, .string x.f3, .int .i64 x.f4, v5] := by
 obtain ⟨A2, c2, rfl, l2, h2⟩ := g2
 obtain ⟨A5, c5, rfl, l5, h5⟩ := g5
 exact k43_mkF W ok x l2 h2 l5 h5
def q00 (xs : List S43) (i : Int) : S43 := xs.getD i.toNat z43
theorem at_T43 {w : World} {A : Option Addr} {n : Nat} {xs : List S43} (h : Kd.C k43 w A n xs) (i : Int) (h0 : 0 ≤ i) (h1 : i < n) : ∃ ad A2 c2 A5 c5, A = some ad ∧ w.cell? (ad.add (i.toNat * 6)) = some (.int .i64 (q00 xs i).f0) ∧ w.cell? ⟨(ad.add (i.toNat * 6)).block, (ad.add (i.toNat * 6)).off + 1, none⟩ = some (.string (q00 xs i).f1) ∧ w.cell? ⟨(ad.add (i.toNat * 6)).block, (ad.add (i.toNat * 6)).off + 2, none⟩ = some (.slice A2 (q00 xs i).f2.length c2) ∧ w.cell? ⟨(ad.add (i.toNat * 6)).block, (ad.add (i.toNat * 6)).off + 3, none⟩ = some (.string (q00 xs i).f3) ∧ w.cell? ⟨(ad.add (i.toNat * 6)).block, (ad.add (i.toNat * 6)).off + 4, none⟩ = some (.int .i64 (q00 xs i).f4) ∧ w.cell? ⟨(ad.add (i.toNat * 6)).block, (ad.add (i.toNat * 6)).off + 5, none⟩ = some (.slice A5 (q00 xs i).f5.length c5) ∧ (q00 xs i).f2.length ≤ c2 ∧ k122.C w A2 (q00 xs i).f2.length (q00 xs i).f2 ∧ (q00 xs i).f5.length ≤ c5 ∧ (Kd.int .i64).C w A5 (q00 xs i).f5.length (q00 xs i).f5 := by
 obtain ⟨ad, c, e, _, hK, hc0⟩ := Kd.C_get h z43 i h0 h1
 have hc : ∀ j u, c[j]? = some u → w.cell? (ad.add (i.toNat * 6 + j)) = some u := hc0
 obtain ⟨A2, c2, A5, c5, rfl, l2, g2, l5, g5⟩ := k43_open hK
 exact ⟨ad, A2, c2, A5, c5, e, hc 0 _ rfl, by rw [← q0z _ _ 1 (by omega)]; exact hc 1 _ rfl, by rw [← q0z _ _ 2 (by omega)]; exact hc 2 _ rfl, by rw [← q0z _ _ 3 (by omega)]; exact hc 3 _ rfl, by rw [← q0z _ _ 4 (by omega)]; exact hc 4 _ rfl, by rw [← q0z _ _ 5 (by omega)]; exact hc 5 _ rfl, l2, g2, l5, g5⟩
theorem q0w {w w1 : World} {A : Option Addr} {n : Nat} {xs : List S43} (hb : Below w.heap.size w w1) (h : Kd.C k43 w A n xs) (i : Int) (h0 : decide (0 ≤ i) = true) (h1 : decide (i < n) = true) : ∃ ad A2 c2 A5 c5, A = some ad ∧ w1.cell? (ad.add (i.toNat * 6)) = some (.int .i64 (q00 xs i).f0) ∧ w1.cell? ⟨(ad.add (i.toNat * 6)).block, (ad.add (i.toNat * 6)).off + 1, none⟩ = some (.string (q00 xs i).f1) ∧ w1.cell? ⟨(ad.add (i.toNat * 6)).block, (ad.add (i.toNat * 6)).off + 2, none⟩ = some (.slice A2 (q00 xs i).f2.length c2) ∧ w1.cell? ⟨(ad.add (i.toNat * 6)).block, (ad.add (i.toNat * 6)).off + 3, none⟩ = some (.string (q00 xs i).f3) ∧ w1.cell? ⟨(ad.add (i.toNat * 6)).block, (ad.add (i.toNat * 6)).off + 4, none⟩ = some (.int .i64 (q00 xs i).f4) ∧ w1.cell? ⟨(ad.add (i.toNat * 6)).block, (ad.add (i.toNat * 6)).off + 5, none⟩ = some (.slice A5 (q00 xs i).f5.length c5) ∧ Aside0 ((q00 xs i).f2.length ≤ c2) ∧ Aside0 (k122.C w A2 (q00 xs i).f2.length (q00 xs i).f2) ∧ Aside0 ((q00 xs i).f5.length ≤ c5) ∧ Aside0 ((Kd.int .i64).C w A5 (q00 xs i).f5.length (q00 xs i).f5) ∧ (0 ≤ i) = True ∧ (i < n) = True :=
 let ⟨ad, A2, c2, A5, c5, e, x0, x1, x2, x3, x4, x5, m0, m1, m2, m3⟩ := at_T43 h i (of_decide_eq_true h0) (of_decide_eq_true h1)
 ⟨ad, A2, c2, A5, c5, e, q0b hb x0, q0b hb x1, q0b hb x2, q0b hb x3, q0b hb x4, q0b hb x5, ⟨m0⟩, ⟨m1⟩, ⟨m2⟩, ⟨m3⟩, eq_true (of_decide_eq_true h0), eq_true (of_decide_eq_true h1)⟩
theorem at_T43A {w : World} {A : Option Addr} {n : Nat} {xs : List S43} (h : Kd.C k43 w A n xs) (i : Int) (h0 : decide (0 ≤ i) = true) (h1 : decide (i < n) = true) : ∃ ad A2 c2 A5 c5, A = some ad ∧ w.cell? (ad.add (i.toNat * 6)) = some (.int .i64 (q00 xs i).f0) ∧ w.cell? ⟨(ad.add (i.toNat * 6)).block, (ad.add (i.toNat * 6)).off + 1, none⟩ = some (.string (q00 xs i).f1) ∧ w.cell? ⟨(ad.add (i.toNat * 6)).block, (ad.add (i.toNat * 6)).off + 2, none⟩ = some (.slice A2 (q00 xs i).f2.length c2) ∧ w.cell? ⟨(ad.add (i.toNat * 6)).block, (ad.add (i.toNat * 6)).off + 3, none⟩ = some (.string (q00 xs i).f3) ∧ w.cell? ⟨(ad.add (i.toNat * 6)).block, (ad.add (i.toNat * 6)).off + 4, none⟩ = some (.int .i64 (q00 xs i).f4) ∧ w.cell? ⟨(ad.add (i.toNat * 6)).block, (ad.add (i.toNat * 6)).off + 5, none⟩ = some (.slice A5 (q00 xs i).f5.length c5) ∧ Aside0 ((q00 xs i).f2.length ≤ c2) ∧ Aside0 (k122.C w A2 (q00 xs i).f2.length (q00 xs i).f2) ∧ Aside0 ((q00 xs i).f5.length ≤ c5) ∧ Aside0 ((Kd.int .i64).C w A5 (q00 xs i).f5.length (q00 xs i).f5) ∧ (0 ≤ i) = True ∧ (i < n) = True :=
 let ⟨ad, A2, c2, A5, c5, e, x0, x1, x2, x3, x4, x5, m0, m1, m2, m3⟩ := at_T43 h i (of_decide_eq_true h0) (of_decide_eq_true h1)
 ⟨ad, A2, c2, A5, c5, e, x0, x1, x2, x3, x4, x5, ⟨m0⟩, ⟨m1⟩, ⟨m2⟩, ⟨m3⟩, eq_true (of_decide_eq_true h0), eq_true (of_decide_eq_true h1)⟩
def rd_L7 (xs : List (List S43)) (i : Int) : (List S43) := xs.getD i.toNat ([] : List S43)
theorem at_L7 {w : World} {A : Option Addr} {n : Nat} {xs : List (List S43)} (h : Kd.C (Kd.slice 43 k43) w A n xs) (i : Int) (h0 : 0 ≤ i) (h1 : i < n) : ∃ ad A0 c0, A = some ad ∧ w.cell? (ad.add i.toNat) = some (.slice A0 (rd_L7 xs i).length c0) ∧ (rd_L7 xs i).length ≤ c0 ∧ k43.C w A0 (rd_L7 xs i).length (rd_L7 xs i) := by
 obtain ⟨ad, c, e, _, hK, hc0⟩ := Kd.C_get h ([] : List S43) i h0 h1
 have hc : ∀ j u, c[j]? = some u → w.cell? (ad.add (i.toNat * 1 + j)) = some u := hc0
 obtain ⟨A0, c0, rfl, l0, g0⟩ := hK
 exact ⟨ad, A0, c0, e, by have hq := hc 0 _ rfl; rwa [Nat.mul_one, Nat.add_zero] at hq, l0, g0⟩
structure S24 where
 f0 : (List S43)
 f1 : Bool
def z24 : S24 := ⟨([] : List S43), false⟩
def k24 : Kd S24 := Kd.iso (Kd.pair (Kd.slice 43 k43) Kd.bool) (fun x : S24 => (x.f0, x.f1))
theorem k24_heap : Kd.Heap k24 := Kd.heap_iso _ (Kd.heap_pair (Kd.heap_slice 43 k43_heap) Kd.heap_bool)
theorem k24_open {w : World} {x : S24} {cs : List Value} (h : k24.K w x cs) : ∃ A0 c0, cs = [.slice A0 x.f0.length c0, .bool x.f1] ∧ x.f0.length ≤ c0 ∧ k43.C w A0 x.f0.length x.f0 := by
 obtain ⟨_, _, rfl, ⟨A0, c0, rfl, l0, g0⟩, rfl⟩ := h
 exact ⟨A0, c0, rfl, l0, g0⟩
theorem k24_openM {w : World} {base : Nat} {ok : Nat → Prop} {x : S24} {cs : List Value} (h : k24.M w base ok x cs) : ∃ v0, cs = [v0, .bool x.f1] ∧ k43.R 43 w base ok v0 x.f0 := by
 obtain ⟨_, _, rfl, ⟨v0, rfl, g0⟩, rfl⟩ := h
 exact ⟨v0, rfl, g0⟩
theorem k24_mk (w : World) (x : S24) {A0 : Option Addr} {c0 : Nat} (l0 : x.f0.length ≤ c0) (g0 : k43.C w A0 x.f0.length x.f0) : k24.K w x [.slice A0 x.f0.length c0, .bool x.f1] := ⟨[.slice A0 x.f0.length c0], [.bool x.f1], rfl, ⟨A0, c0, rfl, l0, g0⟩, rfl⟩
theorem k24_mkM (w : World) (base : Nat) (ok : Nat → Prop) (x : S24) {v0 : Value} (g0 : k43.R 43 w base ok v0 x.f0) : k24.M w base ok x [v0, .bool x.f1] := ⟨[v0], [.bool x.f1], rfl, ⟨v0, rfl, g0⟩, rfl⟩
theorem k24_openF {W : World} {ok : Nat → Prop} {x : S24} {cs : List Value} (h : Kd.FK k24 W ok x cs) : ∃ A0 c0, cs = [.slice A0 x.f0.length c0, .bool x.f1] ∧ x.f0.length ≤ c0 ∧ Kd.F k43 W ok A0 x.f0.length x.f0 := by
 obtain ⟨A0, c0, rfl, l0, _⟩ := k24_open (Kd.FK_now h)
 exact ⟨A0, c0, rfl, l0, (fun W' hW => by obtain ⟨A0_, c0_, he, l0_, g0_⟩ := k24_open (h W' hW); injection (Option.some.inj (show some (Value.slice A0 x.f0.length c0) = some (Value.slice A0_ x.f0.length c0_) from congrArg (fun l => l[0]?) he)) with ha_ _ _; rw [ha_]; exact g0_)⟩
theorem k24_mkF (W : World) (ok : Nat → Prop) (x : S24) {A0 : Option Addr} {c0 : Nat} (l0 : x.f0.length ≤ c0) (g0 : Kd.F k43 W ok A0 x.f0.length x.f0) : Kd.FK k24 W ok x [.slice A0 x.f0.length c0, .bool x.f1] := fun W2 hW => k24_mk W2 x l0 (g0 W2 hW)
theorem k24_mkFV (W : World) (ok : Nat → Prop) (x : S24) {v0 : Value} {b0 e0 : Nat} (g0 : Kd.V k43 e0 W b0 ok v0 x.f0) : Kd.FK k24 W ok x [v0, .bool x.f1] := by
 obtain ⟨A0, c0, rfl, l0, h0⟩ := g0
 exact k24_mkF W ok x l0 h0
def rd_T24 (xs : List S24) (i : Int) : S24 := xs.getD i.toNat z24
theorem at_T24 {w : World} {A : Option Addr} {n : Nat} {xs : List S24} (h : Kd.C k24 w A n xs) (i : Int) (h0 : 0 ≤ i) (h1 : i < n) : ∃ ad A0 c0, A = some ad ∧ w.cell? (ad.add (i.toNat * 2)) = some (.slice A0 (rd_T24 xs i).f0.length c0) ∧ w.cell? ⟨(ad.add (i.toNat * 2)).block, (ad.add (i.toNat * 2)).off + 1, none⟩ = some (.bool (rd_T24 xs i).f1) ∧ (rd_T24 xs i).f0.length ≤ c0 ∧ k43.C w A0 (rd_T24 xs i).f0.length (rd_T24 xs i).f0 := by
 obtain ⟨ad, c, e, _, hK, hc0⟩ := Kd.C_get h z24 i h0 h1
 have hc : ∀ j u, c[j]? = some u → w.cell? (ad.add (i.toNat * 2 + j)) = some u := hc0
 obtain ⟨A0, c0, rfl, l0, g0⟩ := k24_open hK
 exact ⟨ad, A0, c0, e, hc 0 _ rfl, by rw [← q0z _ _ 1 (by omega)]; exact hc 1 _ rfl, l0, g0⟩
theorem at_T24B {w w1 : World} {A : Option Addr} {n : Nat} {xs : List S24} (hb : Below w.heap.size w w1) (h : Kd.C k24 w A n xs) (i : Int) (h0 : decide (0 ≤ i) = true) (h1 : decide (i < n) = true) : ∃ ad A0 c0, A = some ad ∧ w1.cell? (ad.add (i.toNat * 2)) = some (.slice A0 (rd_T24 xs i).f0.length c0) ∧ w1.cell? ⟨(ad.add (i.toNat * 2)).block, (ad.add (i.toNat * 2)).off + 1, none⟩ = some (.bool (rd_T24 xs i).f1) ∧ Aside0 ((rd_T24 xs i).f0.length ≤ c0) ∧ Aside0 (k43.C w A0 (rd_T24 xs i).f0.length (rd_T24 xs i).f0) ∧ (0 ≤ i) = True ∧ (i < n) = True :=
 let ⟨ad, A0, c0, e, x0, x1, m0, m1⟩ := at_T24 h i (of_decide_eq_true h0) (of_decide_eq_true h1)
 ⟨ad, A0, c0, e, q0b hb x0, q0b hb x1, ⟨m0⟩, ⟨m1⟩, eq_true (of_decide_eq_true h0), eq_true (of_decide_eq_true h1)⟩
theorem at_T24A {w : World} {A : Option Addr} {n : Nat} {xs : List S24} (h : Kd.C k24 w A n xs) (i : Int) (h0 : decide (0 ≤ i) = true) (h1 : decide (i < n) = true) : ∃ ad A0 c0, A = some ad ∧ w.cell? (ad.add (i.toNat * 2)) = some (.slice A0 (rd_T24 xs i).f0.length c0) ∧ w.cell? ⟨(ad.add (i.toNat * 2)).block, (ad.add (i.toNat * 2)).off + 1, none⟩ = some (.bool (rd_T24 xs i).f1) ∧ Aside0 ((rd_T24 xs i).f0.length ≤ c0) ∧ Aside0 (k43.C w A0 (rd_T24 xs i).f0.length (rd_T24 xs i).f0) ∧ (0 ≤ i) = True ∧ (i < n) = True :=
 let ⟨ad, A0, c0, e, x0, x1, m0, m1⟩ := at_T24 h i (of_decide_eq_true h0) (of_decide_eq_true h1)
 ⟨ad, A0, c0, e, x0, x1, ⟨m0⟩, ⟨m1⟩, eq_true (of_decide_eq_true h0), eq_true (of_decide_eq_true h1)⟩
structure S87 where
 f0 : Int
 f1 : Int
 f2 : Int
 f3 : Int
 f4 : ByteArray
 f5 : ByteArray
 f6 : S43
def z87 : S87 := ⟨(0 : Int), (0 : Int), (0 : Int), (0 : Int), (⟨#[]⟩ : ByteArray), (⟨#[]⟩ : ByteArray), z43⟩
def k87 : Kd S87 := Kd.iso (Kd.pair (Kd.int .i64) (Kd.pair (Kd.int .i64) (Kd.pair (Kd.int .i64) (Kd.pair (Kd.int .i64) (Kd.pair Kd.string (Kd.pair Kd.string k43)))))) (fun x : S87 => (x.f0, x.f1, x.f2, x.f3, x.f4, x.f5, x.f6))
theorem k87_heap : Kd.Heap k87 := Kd.heap_iso _ (Kd.heap_pair (Kd.heap_int .i64) (Kd.heap_pair (Kd.heap_int .i64) (Kd.heap_pair (Kd.heap_int .i64) (Kd.heap_pair (Kd.heap_int .i64) (Kd.heap_pair Kd.heap_string (Kd.heap_pair Kd.heap_string k43_heap))))))
theorem k87_open {w : World} {x : S87} {cs : List Value} (h : k87.K w x cs) : ∃ A8 c8 A11 c11, cs = [.int .i64 x.f0, .int .i64 x.f1, .int .i64 x.f2, .int .i64 x.f3, .string x.f4, .string x.f5, .int .i64 x.f6.f0, .string x.f6.f1, .slice A8 x.f6.f2.length c8, .string x.f6.f3, .int .i64 x.f6.f4, .slice A11 x.f6.f5.length c11] ∧ x.f6.f2.length ≤ c8 ∧ k122.C w A8 x.f6.f2.length x.f6.f2 ∧ x.f6.f5.length ≤ c11 ∧ (Kd.int .i64).C w A11 x.f6.f5.length x.f6.f5 := by
 obtain ⟨_, _, rfl, rfl, ⟨_, _, rfl, rfl, ⟨_, _, rfl, rfl, ⟨_, _, rfl, rfl, ⟨_, _, rfl, rfl, ⟨_, _, rfl, rfl, s6⟩⟩⟩⟩⟩⟩ := h
 obtain ⟨A8, c8, A11, c11, rfl, l8, g8, l11, g11⟩ := k43_open s6
 exact ⟨A8, c8, A11, c11, rfl, l8, g8, l11, g11⟩
theorem k87_openM {w : World} {base : Nat} {ok : Nat → Prop} {x : S87} {cs : List Value} (h : k87.M w base ok x cs) : ∃ v8 v11, cs = [.int .i64 x.f0, .int .i64 x.f1, .int .i64 x.f2, .int .i64 x.f3, .string x.f4, .string x.f5, .int .i64 x.f6.f0, .string x.f6.f1, v8, .string x.f6.f3, .int .i64 x.f6.f4, v11] ∧ k122.R 122 w base ok v8 x.f6.f2 ∧ (Kd.int .i64).R 3 w base ok v11 x.f6.f5 := by
 obtain ⟨_, _, rfl, rfl, ⟨_, _, rfl, rfl, ⟨_, _, rfl, rfl, ⟨_, _, rfl, rfl, ⟨_, _, rfl, rfl, ⟨_, _, rfl, rfl, s6⟩⟩⟩⟩⟩⟩ := h
 obtain ⟨v8, v11, rfl, g8, g11⟩ := q27 s6
 exact ⟨v8, v11, rfl, g8, g11⟩
theorem k87_mk (w : World) (x : S87) {A8 : Option Addr} {c8 : Nat} (l8 : x.f6.f2.length ≤ c8) (g8 : k122.C w A8 x.f6.f2.length x.f6.f2) {A11 : Option Addr} {c11 : Nat} (l11 : x.f6.f5.length ≤ c11) (g11 : (Kd.int .i64).C w A11 x.f6.f5.length x.f6.f5) : k87.K w x [.int .i64 x.f0, .int .i64 x.f1, .int .i64 x.f2, .int .i64 x.f3, .string x.f4, .string x.f5, .int .i64 x.f6.f0, .string x.f6.f1, .slice A8 x.f6.f2.length c8, .string x.f6.f3, .int .i64 x.f6.f4, .slice A11 x.f6.f5.length c11] := ⟨[.int .i64 x.f0], [.int .i64 x.f1, .int .i64 x.f2, .int .i64 x.f3, .string x.f4, .string x.f5, .int .i64 x.f6.f0, .string x.f6.f1, .slice A8 x.f6.f2.length c8, .string x.f6.f3, .int .i64 x.f6.f4, .slice A11 x.f6.f5.length c11], rfl, rfl, ⟨[.int .i64 x.f1], [.int .i64 x.f2, .int .i64 x.f3, .string x.f4, .string x.f5, .int .i64 x.f6.f0, .string x.f6.f1, .slice A8 x.f6.f2.length c8, .string x.f6.f3, .int .i64 x.f6.f4, .slice A11 x.f6.f5.length c11], rfl, rfl, ⟨[.int .i64 x.f2], [.int .i64 x.f3, .string x.f4, .string x.f5, .int .i64 x.f6.f0, .string x.f6.f1, .slice A8 x.f6.f2.length c8, .string x.f6.f3, .int .i64 x.f6.f4, .slice A11 x.f6.f5.length c11], rfl, rfl, ⟨[.int .i64 x.f3], [.string x.f4, .string x.f5, .int .i64 x.f6.f0, .string x.f6.f1, .slice A8 x.f6.f2.length c8, .string x.f6.f3, .int .i64 x.f6.f4, .slice A11 x.f6.f5.length c11], rfl, rfl, ⟨[.string x.f4], [.string x.f5, .int .i64 x.f6.f0, .string x.f6.f1, .slice A8 x.f6.f2.length c8, .string x.f6.f3, .int .i64 x.f6.f4, .slice A11 x.f6.f5.length c11], rfl, rfl, ⟨[.string x.f5], [.int .i64 x.f6.f0, .string x.f6.f1, .slice A8 x.f6.f2.length c8, .string x.f6.f3, .int .i64 x.f6.f4, .slice A11 x.f6.f5.length c11], rfl, rfl, (k43_mk w x.f6 l8 g8 l11 g11)⟩⟩⟩⟩⟩⟩
theorem k87_mkM (w : World) (base : Nat) (ok : Nat → Prop) (x : S87) {v8 : Value} (g8 : k122.R 122 w base ok v8 x.f6.f2) {v11 : Value} (g11 : (Kd.int .i64).R 3 w base ok v11 x.f6.f5) : k87.M w base ok x [.int .i64 x.f0, .int .i64 x.f1, .int .i64 x.f2, .int .i64 x.f3, .string x.f4, .string x.f5, .int .i64 x.f6.f0, .string x.f6.f1, v8, .string x.f6.f3, .int .i64 x.f6.f4, v11] := ⟨[.int .i64 x.f0], [.int .i64 x.f1, .int .i64 x.f2, .int .i64 x.f3, .string x.f4, .string x.f5, .int .i64 x.f6.f0, .string x.f6.f1, v8, .string x.f6.f3, .int .i64 x.f6.f4, v11], rfl, rfl, ⟨[.int .i64 x.f1], [.int .i64 x.f2, .int .i64 x.f3, .string x.f4, .string x.f5, .int .i64 x.f6.f0, .string x.f6.f1, v8, .string x.f6.f3, .int .i64 x.f6.f4, v11], rfl, rfl, ⟨[.int .i64 x.f2], [.int .i64 x.f3, .string x.f4, .string x.f5, .int .i64 x.f6.f0, .string x.f6.f1, v8, .string x.f6.f3, .int .i64 x.f6.f4, v11], rfl, rfl, ⟨[.int .i64 x.f3], [.string x.f4, .string x.f5, .int .i64 x.f6.f0, .string x.f6.f1, v8, .string x.f6.f3, .int .i64 x.f6.f4, v11], rfl, rfl, ⟨[.string x.f4], [.string x.f5, .int .i64 x.f6.f0, .string x.f6.f1, v8, .string x.f6.f3, .int .i64 x.f6.f4, v11], rfl, rfl, ⟨[.string x.f5], [.int .i64 x.f6.f0, .string x.f6.f1, v8, .string x.f6.f3, .int .i64 x.f6.f4, v11], rfl, rfl, (q28 w base ok x.f6 g8 g11)⟩⟩⟩⟩⟩⟩
theorem k87_openF {W : World} {ok : Nat → Prop} {x : S87} {cs : List Value} (h : Kd.FK k87 W ok x cs) : ∃ A8 c8 A11 c11, cs = [.int .i64 x.f0, .int .i64 x.f1, .int .i64 x.f2, .int .i64 x.f3, .string x.f4, .string x.f5, .int .i64 x.f6.f0, .string x.f6.f1, .slice A8 x.f6.f2.length c8, .string x.f6.f3, .int .i64 x.f6.f4, .slice A11 x.f6.f5.length c11] ∧ x.f6.f2.length ≤ c8 ∧ Kd.F k122 W ok A8 x.f6.f2.length x.f6.f2 ∧ x.f6.f5.length ≤ c11 ∧ Kd.F (Kd.int .i64) W ok A11 x.f6.f5.length x.f6.f5 := by
 obtain ⟨A8, c8, A11, c11, rfl, l8, _, l11, _⟩ := k87_open (Kd.FK_now h)
 exact ⟨A8, c8, A11, c11, rfl, l8, (fun W' hW => by obtain ⟨A8_, c8_, A11_, c11_, he, l8_, g8_, l11_, g11_⟩ := k87_open (h W' hW); injection (Option.some.inj (show some (Value.slice A8 x.f6.f2.length c8) = some (Value.slice A8_ x.f6.f2.length c8_) from congrArg (fun l => l[8]?) he)) with ha_ _ _; rw [ha_]; exact g8_), l11, (fun W' hW => by obtain ⟨A8_, c8_, A11_, c11_, he, l8_, g8_, l11_, g11_⟩ := k87_open (h W' hW); injection (Option.some.inj (show some (Value.slice A11 x.f6.f5.length c11) = some (Value.slice A11_ x.f6.f5.length c11_) from congrArg (fun l => l[11]?) he)) with ha_ _ _; rw [ha_]; exact g11_)⟩
theorem k87_mkF (W : World) (ok : Nat → Prop) (x : S87) {A8 : Option Addr} {c8 : Nat} (l8 : x.f6.f2.length ≤ c8) (g8 : Kd.F k122 W ok A8 x.f6.f2.length x.f6.f2) {A11 : Option Addr} {c11 : Nat} (l11 : x.f6.f5.length ≤ c11) (g11 : Kd.F (Kd.int .i64) W ok A11 x.f6.f5.length x.f6.f5) : Kd.FK k87 W ok x [.int .i64 x.f0, .int .i64 x.f1, .int .i64 x.f2, .int .i64 x.f3, .string x.f4, .string x.f5, .int .i64 x.f6.f0, .string x.f6.f1, .slice A8 x.f6.f2.length c8, .string x.f6.f3, .int .i64 x.f6.f4, .slice A11 x.f6.f5.length c11] := fun W2 hW => k87_mk W2 x l8 (g8 W2 hW) l11 (g11 W2 hW)
theorem k87_mkFV (W : World) (ok : Nat → Prop) (x : S87) {v8 : Value} {b8 e8 : Nat} (g8 : Kd.V k122 e8 W b8 ok v8 x.f6.f2) {v11 : Value} {b11 e11 : Nat} (g11 : Kd.V (Kd.int .i64) e11 W b11 ok v11 x.f6.f5) : Kd.FK k87 W ok x [.int .i64 x.f0, .int .i64 x.f1, .int .i64 x.f2, .int .i64 x.f3, .string x.f4, .string x.f5, .int .i64 x.f6.f0, .string x.f6.f1, v8, .string x.f6.f3, .int .i64 x.f6.f4, v11] := by
 obtain ⟨A8, c8, rfl, l8, h8⟩ := g8
 obtain ⟨A11, c11, rfl, l11, h11⟩ := g11
 exact k87_mkF W ok x l8 h8 l11 h11
def q06 (xs : List S87) (i : Int) : S87 := xs.getD i.toNat z87
theorem at_T87 {w : World} {A : Option Addr} {n : Nat} {xs : List S87} (h : Kd.C k87 w A n xs) (i : Int) (h0 : 0 ≤ i) (h1 : i < n) : ∃ ad A8 c8 A11 c11, A = some ad ∧ w.cell? (ad.add (i.toNat * 12)) = some (.int .i64 (q06 xs i).f0) ∧ w.cell? ⟨(ad.add (i.toNat * 12)).block, (ad.add (i.toNat * 12)).off + 1, none⟩ = some (.int .i64 (q06 xs i).f1) ∧ w.cell? ⟨(ad.add (i.toNat * 12)).block, (ad.add (i.toNat * 12)).off + 2, none⟩ = some (.int .i64 (q06 xs i).f2) ∧ w.cell? ⟨(ad.add (i.toNat * 12)).block, (ad.add (i.toNat * 12)).off + 3, none⟩ = some (.int .i64 (q06 xs i).f3) ∧ w.cell? ⟨(ad.add (i.toNat * 12)).block, (ad.add (i.toNat * 12)).off + 4, none⟩ = some (.string (q06 xs i).f4) ∧ w.cell? ⟨(ad.add (i.toNat * 12)).block, (ad.add (i.toNat * 12)).off + 5, none⟩ = some (.string (q06 xs i).f5) ∧ w.cell? ⟨(ad.add (i.toNat * 12)).block, (ad.add (i.toNat * 12)).off + 6, none⟩ = some (.int .i64 (q06 xs i).f6.f0) ∧ w.cell? ⟨(ad.add (i.toNat * 12)).block, (ad.add (i.toNat * 12)).off + 7, none⟩ = some (.string (q06 xs i).f6.f1) ∧ w.cell? ⟨(ad.add (i.toNat * 12)).block, (ad.add (i.toNat * 12)).off + 8, none⟩ = some (.slice A8 (q06 xs i).f6.f2.length c8) ∧ w.cell? ⟨(ad.add (i.toNat * 12)).block, (ad.add (i.toNat * 12)).off + 9, none⟩ = some (.string (q06 xs i).f6.f3) ∧ w.cell? ⟨(ad.add (i.toNat * 12)).block, (ad.add (i.toNat * 12)).off + 10, none⟩ = some (.int .i64 (q06 xs i).f6.f4) ∧ w.cell? ⟨(ad.add (i.toNat * 12)).block, (ad.add (i.toNat * 12)).off + 11, none⟩ = some (.slice A11 (q06 xs i).f6.f5.length c11) ∧ (q06 xs i).f6.f2.length ≤ c8 ∧ k122.C w A8 (q06 xs i).f6.f2.length (q06 xs i).f6.f2 ∧ (q06 xs i).f6.f5.length ≤ c11 ∧ (Kd.int .i64).C w A11 (q06 xs i).f6.f5.length (q06 xs i).f6.f5 := by
 obtain ⟨ad, c, e, _, hK, hc0⟩ := Kd.C_get h z87 i h0 h1
 have hc : ∀ j u, c[j]? = some u → w.cell? (ad.add (i.toNat * 12 + j)) = some u := hc0
 obtain ⟨A8, c8, A11, c11, rfl, l8, g8, l11, g11⟩ := k87_open hK
 exact ⟨ad, A8, c8, A11, c11, e, hc 0 _ rfl, by rw [← q0z _ _ 1 (by omega)]; exact hc 1 _ rfl, by rw [← q0z _ _ 2 (by omega)]; exact hc 2 _ rfl, by rw [← q0z _ _ 3 (by omega)]; exact hc 3 _ rfl, by rw [← q0z _ _ 4 (by omega)]; exact hc 4 _ rfl, by rw [← q0z _ _ 5 (by omega)]; exact hc 5 _ rfl, by rw [← q0z _ _ 6 (by omega)]; exact hc 6 _ rfl, by rw [← q0z _ _ 7 (by omega)]; exact hc 7 _ rfl, by rw [← q0z _ _ 8 (by omega)]; exact hc 8 _ rfl, by rw [← q0z _ _ 9 (by omega)]; exact hc 9 _ rfl, by rw [← q0z _ _ 10 (by omega)]; exact hc 10 _ rfl, by rw [← q0z _ _ 11 (by omega)]; exact hc 11 _ rfl, l8, g8, l11, g11⟩
theorem at_T87B {w w1 : World} {A : Option Addr} {n : Nat} {xs : List S87} (hb : Below w.heap.size w w1) (h : Kd.C k87 w A n xs) (i : Int) (h0 : decide (0 ≤ i) = true) (h1 : decide (i < n) = true) : ∃ ad A8 c8 A11 c11, A = some ad ∧ w1.cell? (ad.add (i.toNat * 12)) = some (.int .i64 (q06 xs i).f0) ∧ w1.cell? ⟨(ad.add (i.toNat * 12)).block, (ad.add (i.toNat * 12)).off + 1, none⟩ = some (.int .i64 (q06 xs i).f1) ∧ w1.cell? ⟨(ad.add (i.toNat * 12)).block, (ad.add (i.toNat * 12)).off + 2, none⟩ = some (.int .i64 (q06 xs i).f2) ∧ w1.cell? ⟨(ad.add (i.toNat * 12)).block, (ad.add (i.toNat * 12)).off + 3, none⟩ = some (.int .i64 (q06 xs i).f3) ∧ w1.cell? ⟨(ad.add (i.toNat * 12)).block, (ad.add (i.toNat * 12)).off + 4, none⟩ = some (.string (q06 xs i).f4) ∧ w1.cell? ⟨(ad.add (i.toNat * 12)).block, (ad.add (i.toNat * 12)).off + 5, none⟩ = some (.string (q06 xs i).f5) ∧ w1.cell? ⟨(ad.add (i.toNat * 12)).block, (ad.add (i.toNat * 12)).off + 6, none⟩ = some (.int .i64 (q06 xs i).f6.f0) ∧ w1.cell? ⟨(ad.add (i.toNat * 12)).block, (ad.add (i.toNat * 12)).off + 7, none⟩ = some (.string (q06 xs i).f6.f1) ∧ w1.cell? ⟨(ad.add (i.toNat * 12)).block, (ad.add (i.toNat * 12)).off + 8, none⟩ = some (.slice A8 (q06 xs i).f6.f2.length c8) ∧ w1.cell? ⟨(ad.add (i.toNat * 12)).block, (ad.add (i.toNat * 12)).off + 9, none⟩ = some (.string (q06 xs i).f6.f3) ∧ w1.cell? ⟨(ad.add (i.toNat * 12)).block, (ad.add (i.toNat * 12)).off + 10, none⟩ = some (.int .i64 (q06 xs i).f6.f4) ∧ w1.cell? ⟨(ad.add (i.toNat * 12)).block, (ad.add (i.toNat * 12)).off + 11, none⟩ = some (.slice A11 (q06 xs i).f6.f5.length c11) ∧ Aside0 ((q06 xs i).f6.f2.length ≤ c8) ∧ Aside0 (k122.C w A8 (q06 xs i).f6.f2.length (q06 xs i).f6.f2) ∧ Aside0 ((q06 xs i).f6.f5.length ≤ c11) ∧ Aside0 ((Kd.int .i64).C w A11 (q06 xs i).f6.f5.length (q06 xs i).f6.f5) ∧ (0 ≤ i) = True ∧ (i < n) = True :=
 let ⟨ad, A8, c8, A11, c11, e, x0, x1, x2, x3, x4, x5, x6, x7, x8, x9, x10, x11, m0, m1, m2, m3⟩ := at_T87 h i (of_decide_eq_true h0) (of_decide_eq_true h1)
 ⟨ad, A8, c8, A11, c11, e, q0b hb x0, q0b hb x1, q0b hb x2, q0b hb x3, q0b hb x4, q0b hb x5, q0b hb x6, q0b hb x7, q0b hb x8, q0b hb x9, q0b hb x10, q0b hb x11, ⟨m0⟩, ⟨m1⟩, ⟨m2⟩, ⟨m3⟩, eq_true (of_decide_eq_true h0), eq_true (of_decide_eq_true h1)⟩
theorem at_T87A {w : World} {A : Option Addr} {n : Nat} {xs : List S87} (h : Kd.C k87 w A n xs) (i : Int) (h0 : decide (0 ≤ i) = true) (h1 : decide (i < n) = true) : ∃ ad A8 c8 A11 c11, A = some ad ∧ w.cell? (ad.add (i.toNat * 12)) = some (.int .i64 (q06 xs i).f0) ∧ w.cell? ⟨(ad.add (i.toNat * 12)).block, (ad.add (i.toNat * 12)).off + 1, none⟩ = some (.int .i64 (q06 xs i).f1) ∧ w.cell? ⟨(ad.add (i.toNat * 12)).block, (ad.add (i.toNat * 12)).off + 2, none⟩ = some (.int .i64 (q06 xs i).f2) ∧ w.cell? ⟨(ad.add (i.toNat * 12)).block, (ad.add (i.toNat * 12)).off + 3, none⟩ = some (.int .i64 (q06 xs i).f3) ∧ w.cell? ⟨(ad.add (i.toNat * 12)).block, (ad.add (i.toNat * 12)).off + 4, none⟩ = some (.string (q06 xs i).f4) ∧ w.cell? ⟨(ad.add (i.toNat * 12)).block, (ad.add (i.toNat * 12)).off + 5, none⟩ = some (.string (q06 xs i).f5) ∧ w.cell? ⟨(ad.add (i.toNat * 12)).block, (ad.add (i.toNat * 12)).off + 6, none⟩ = some (.int .i64 (q06 xs i).f6.f0) ∧ w.cell? ⟨(ad.add (i.toNat * 12)).block, (ad.add (i.toNat * 12)).off + 7, none⟩ = some (.string (q06 xs i).f6.f1) ∧ w.cell? ⟨(ad.add (i.toNat * 12)).block, (ad.add (i.toNat * 12)).off + 8, none⟩ = some (.slice A8 (q06 xs i).f6.f2.length c8) ∧ w.cell? ⟨(ad.add (i.toNat * 12)).block, (ad.add (i.toNat * 12)).off + 9, none⟩ = some (.string (q06 xs i).f6.f3) ∧ w.cell? ⟨(ad.add (i.toNat * 12)).block, (ad.add (i.toNat * 12)).off + 10, none⟩ = some (.int .i64 (q06 xs i).f6.f4) ∧ w.cell? ⟨(ad.add (i.toNat * 12)).block, (ad.add (i.toNat * 12)).off + 11, none⟩ = some (.slice A11 (q06 xs i).f6.f5.length c11) ∧ Aside0 ((q06 xs i).f6.f2.length ≤ c8) ∧ Aside0 (k122.C w A8 (q06 xs i).f6.f2.length (q06 xs i).f6.f2) ∧ Aside0 ((q06 xs i).f6.f5.length ≤ c11) ∧ Aside0 ((Kd.int .i64).C w A11 (q06 xs i).f6.f5.length (q06 xs i).f6.f5) ∧ (0 ≤ i) = True ∧ (i < n) = True :=
 let ⟨ad, A8, c8, A11, c11, e, x0, x1, x2, x3, x4, x5, x6, x7, x8, x9, x10, x11, m0, m1, m2, m3⟩ := at_T87 h i (of_decide_eq_true h0) (of_decide_eq_true h1)
 ⟨ad, A8, c8, A11, c11, e, x0, x1, x2, x3, x4, x5, x6, x7, x8, x9, x10, x11, ⟨m0⟩, ⟨m1⟩, ⟨m2⟩, ⟨m3⟩, eq_true (of_decide_eq_true h0), eq_true (of_decide_eq_true h1)⟩
end Go.Proofs.YthjnallbbhnndaaDoor.XDe
namespace Go.Proofs.YthjnallbbhnndaaDoor.XDe
open Go.Proofs.YthjnallbbhnndaaDoor.Short Go.RowKit Go.Proofs.YthjnallbbhnndaaDoorW.PrintWords Go.Proofs.YthjnallbbhnndaaDoorW.PrintLast Go.Proofs.YthjnallbbhnndaaDoorW.PrintMore
attribute [local go_sem] q16 q14 q1g q1f q0s q0r q15 q13   -- for this text's walks alone
set_option linter.unusedVariables false
set_option linter.unusedSimpArgs false
def clerestoryref1_SameInts.l0 : Nat → List Int → List Int → Int → Option (Bool)
 | 0, _, _, _ => none
 | k + 1, x0, x1, x5 => if x5 < (x0.length : Int) then (if 0 ≤ x5 then (if x5 < (x1.length : Int) then (if (rd x0 x5) = (rd x1 x5) then (clerestoryref1_SameInts.l0 k x0 x1 (wrap64 (x5 + 1))) else (some false)) else (none)) else (none)) else (some true)
def clerestoryref1_SameInts.f (k : Nat) (l0 : List Int) (l1 : List Int) : Option (Bool) := if (l0.length : Int) = (l1.length : Int) then (clerestoryref1_SameInts.l0 k l0 l1 0) else (some false)
theorem clerestoryref1_SameInts.mono_l : ∀ k, (∀ y0 y1 y2, LeO (clerestoryref1_SameInts.l0 k y0 y1 y2) (clerestoryref1_SameInts.l0 (k + 1) y0 y1 y2))
 | 0 => fun _ _ _ r h => by simp [clerestoryref1_SameInts.l0] at h
 | k + 1 => by
  have ih0 := clerestoryref1_SameInts.mono_l k
  ·intro y0 y1 y2
   unfold clerestoryref1_SameInts.l0
   repeat' first | with_reducible first | apply ih0 | exact LeO.refl _ | exact LeO.none _ | refine LeO.ite ?_ ?_ | refine LeO.bind ?_ (fun _ => ?_) | (first | apply ih0 | exact LeO.none _ | refine LeO.ite ?_ ?_ | refine LeO.bind ?_ (fun _ => ?_))
theorem clerestoryref1_SameInts.mono : ∀ a0 a1 k, LeO (clerestoryref1_SameInts.f k a0 a1) (clerestoryref1_SameInts.f (k + 1) a0 a1) := by
 intro a0 a1 k
 have ih0 := clerestoryref1_SameInts.mono_l k
 unfold clerestoryref1_SameInts.f
 repeat' first | with_reducible first | apply ih0 | exact LeO.refl _ | exact LeO.none _ | refine LeO.ite ?_ ?_ | refine LeO.bind ?_ (fun _ => ?_) | (first | apply ih0 | exact LeO.none _ | refine LeO.ite ?_ ?_ | refine LeO.bind ?_ (fun _ => ?_))
set_option maxHeartbeats 8000000 in
set_option maxRecDepth 100000 in
theorem clerestoryref1_SameInts.calls (k : Nat) (A0 : Option Addr) (c0 : Nat) (l0 : List Int) (A1 : Option Addr) (c1 : Nat) (l1 : List Int) (r : Bool) (w : World) (hr0 : Kd.C (Kd.int .i64) w A0 l0.length l0) (hc0 : l0.length ≤ c0) (hr1 : Kd.C (Kd.int .i64) w A1 l1.length l1) (hc1 : l1.length ≤ c1) (h : clerestoryref1_SameInts.f k l0 l1 = some r) :
 Calls Tryd.prog 30 #[.slice A0 l0.length c0, .slice A1 l1.length c1] w fun e w' => e = .returned (.bool r) ∧ Drawn0 w w' := by
 have HR0 := aS hr0
 have HC0 := aS hc0
 clear hr0 hc0
 have HR1 := aS hr1
 have HC1 := aS hc1
 clear hr1 hc1
 have H : (if (l0.length : Int) = (l1.length : Int) then (clerestoryref1_SameInts.l0 k l0 l1 0) else (some false)) = some r := h
 clear h
 by_cases c3 : (l0.length : Int) = (l1.length : Int)
 ·rw [if_pos c3] at H
  have c3b0 : ((l0.length : Int) == (l1.length : Int)) = true := beq_iff_eq.mpr c3
  have c3b1 : ((l0.length : Int) != (l1.length : Int)) = false := bne_eq_false_iff_eq.mpr c3
  have c3b2 : (l0.length == l1.length) = true := by first | simpa using c3 | (simp at c3 ⊢; omega)
  clear c3
  have H' := aS H
  clear H
  go_enter Tryd.func30, Tryd.ntmps30
  go_wp2
  repeat (go_quiet (fail); try go_wp2)
  go_loopg [5] k (fun kq v5 w' => ∃ (x5_1 : Int), v5 = .int .i64 x5_1 ∧ Aside0 (clerestoryref1_SameInts.l0 kq l0 l1 x5_1 = some r) ∧ Aside0 (kq ≤ k) ∧ Drawn0 w w')
  case atStart => exact ⟨(0), zi, H', ⟨Nat.le_refl _⟩, by repeat (first | exact Drawn0.refl _ | apply Drawn0.step)⟩
  case round =>
   clear H'
   try clear c1
   try clear p2
   try clear c3
   try clear c3b0
   try clear c3b1
   try clear c3b2
   obtain ⟨x5_1, rfl, HA, HK1, ⟨m1, rfl⟩⟩ := hrel
   cases gk with
   | zero => exact absurd HA.out (by simp [clerestoryref1_SameInts.l0])
   | succ k1 =>
    have H := HA.out
    clear HA
    simp only [clerestoryref1_SameInts.l0] at H
    by_cases c4 : x5_1 < (l0.length : Int)
    ·rw [if_pos c4] at H
     have c4b0 : decide (x5_1 < (l0.length : Int)) = true := decide_eq_true c4
     clear c4
     by_cases c5 : 0 ≤ x5_1
     ·rw [if_pos c5] at H
      have c5b0 : decide (0 ≤ x5_1) = true := decide_eq_true c5
      clear c5
      by_cases c6 : x5_1 < (l1.length : Int)
      ·rw [if_pos c6] at H
       have c6b0 : decide (x5_1 < (l1.length : Int)) = true := decide_eq_true c6
       clear c6
       by_cases c7 : (rd l0 x5_1) = (rd l1 x5_1)
       ·rw [if_pos c7] at H
        have c7b0 : ((rd l0 x5_1) == (rd l1 x5_1)) = true := beq_iff_eq.mpr c7
        have c7b1 : ((rd l0 x5_1) != (rd l1 x5_1)) = false := bne_eq_false_iff_eq.mpr c7
        clear c7
        have H' := aS H
        clear H
        have p148 : 0 ≤ (x5_1 : Int) := od zb
        have q148 : x5_1 < (l0.length : Int) := od zb
        obtain ⟨ad148, e148, hx148_0⟩ := Kd.at_int HR0.out x5_1 p148 q148
        cases e148
        replace p148 := eq_true p148
        replace q148 := eq_true q148
        have p149 : 0 ≤ (x5_1 : Int) := od zb
        have q149 : x5_1 < (l1.length : Int) := od zb
        obtain ⟨ad149, e149, hx149_0⟩ := Kd.at_int HR1.out x5_1 p149 q149
        cases e149
        replace p149 := eq_true p149
        replace q149 := eq_true q149
        go_wp2
        repeat (go_quiet (fail); try go_wp2)
        go_roundg k1
        case measure => have := HK1.out; omega
        case rel => exact ⟨(wrap64 (x5_1 + 1)), zi, H', ⟨by have := HK1.out; omega⟩, by repeat (first | exact Drawn0.refl _ | apply Drawn0.step)⟩
       ·rw [if_neg c7] at H
        have c7b0 : ((rd l0 x5_1) == (rd l1 x5_1)) = false := beq_eq_false_iff_ne.mpr c7
        have c7b1 : ((rd l0 x5_1) != (rd l1 x5_1)) = true := bne_iff_ne.mpr c7
        obtain rfl := Option.some.inj H
        have p148 : 0 ≤ (x5_1 : Int) := od zb
        have q148 : x5_1 < (l0.length : Int) := od zb
        obtain ⟨ad148, e148, hx148_0⟩ := Kd.at_int HR0.out x5_1 p148 q148
        cases e148
        replace p148 := eq_true p148
        replace q148 := eq_true q148
        have p149 : 0 ≤ (x5_1 : Int) := od zb
        have q149 : x5_1 < (l1.length : Int) := od zb
        obtain ⟨ad149, e149, hx149_0⟩ := Kd.at_int HR1.out x5_1 p149 q149
        cases e149
        replace p149 := eq_true p149
        replace q149 := eq_true q149
        go_wp2
        repeat (go_quiet (fail); try go_wp2)
        go_ret
        exact ⟨by first | rfl | (simp; done) | (simp [*]; done), by repeat (first | exact Drawn0.refl _ | apply Drawn0.step)⟩
      ·rw [if_neg c6] at H
       exact absurd H (by simp)
     ·rw [if_neg c5] at H
      exact absurd H (by simp)
    ·rw [if_neg c4] at H
     have c4b0 : decide (x5_1 < (l0.length : Int)) = false := decide_eq_false c4
     clear c4
     obtain rfl := Option.some.inj H
     go_wp2
     repeat (go_quiet (fail); try go_wp2)
     go_ret
     exact ⟨by first | rfl | (simp; done) | (simp [*]; done), by repeat (first | exact Drawn0.refl _ | apply Drawn0.step)⟩
 ·rw [if_neg c3] at H
  have c3b0 : ((l0.length : Int) == (l1.length : Int)) = false := beq_eq_false_iff_ne.mpr c3
  have c3b1 : ((l0.length : Int) != (l1.length : Int)) = true := bne_iff_ne.mpr c3
  have c3b2 : (l0.length == l1.length) = false := by first | simpa using c3 | (simp at c3 ⊢; omega)
  obtain rfl := Option.some.inj H
  go_enter Tryd.func30, Tryd.ntmps30
  go_wp2
  repeat (go_quiet (fail); try go_wp2)
  go_ret
  exact ⟨by first | rfl | (simp; done) | (simp [*]; done), by repeat (first | exact Drawn0.refl _ | apply Drawn0.step)⟩
def dom_parent.f (a0 : Int) : Option (Bool) := if a0 = 1 then (some true) else (some (a0 == 2))
set_option maxHeartbeats 8000000 in
set_option maxRecDepth 100000 in
theorem dom_parent.calls (a0 : Int) (r : Bool) (w : World) (h : dom_parent.f a0 = some r) :
 Calls Tryd.prog 158 #[.int .i64 a0] w fun e w' => e = .returned (.bool r) ∧ Drawn0 w w' := by
 have H := h; clear h; unfold dom_parent.f at H
 refine iE H ?p2 ?n2 <;> clear H
 case' p2 => intro c2b0 c2b1 H
 case' n2 => intro c2 c2b0 c2b1 H
 case p2|n2 =>
  obtain rfl := Option.some.inj H
  go_enter Tryd.func158, Tryd.ntmps158
  go_wp2
  go_ret
  exact ⟨by first | rfl | (simp; done) | (simp [*]; done), by repeat (first | exact Drawn0.refl _ | apply Drawn0.step)⟩
def dom_bare.f (a0_0 : Int) (a0_1 : ByteArray) (l0_2 : List (S122)) (a0_3 : ByteArray) (a0_4 : Int) (l0_5 : List Int) : Option (Bool) := if a0_0 = 3 then (if a0_0 = 2 then ((dom_parent.f a0_0).bind fun t109 => (if t109 = true then (some true) else (some ((l0_5.length : Int) == 0)))) else (if a0_0 = 5 then (if (l0_2.length : Int) = 0 then ((dom_parent.f a0_0).bind fun t110 => (if t110 = true then (some true) else (some ((l0_5.length : Int) == 0)))) else (some false)) else (if a0_1.toList = ([] : List UInt8) then (if (l0_2.length : Int) = 0 then ((dom_parent.f a0_0).bind fun t111 => (if t111 = true then (some true) else (some ((l0_5.length : Int) == 0)))) else (some false)) else (some false)))) else (if a0_0 = 2 then (if a0_0 = 4 then ((dom_parent.f a0_0).bind fun t112 => (if t112 = true then (some true) else (some ((l0_5.length : Int) == 0)))) else (if a0_3.toList = ([] : List UInt8) then ((dom_parent.f a0_0).bind fun t113 => (if t113 = true then (some true) else (some ((l0_5.length : Int) == 0)))) else (some false))) else (if a0_0 = 5 then (if (l0_2.length : Int) = 0 then (if a0_0 = 4 then ((dom_parent.f a0_0).bind fun t114 => (if t114 = true then (some true) else (some ((l0_5.length : Int) == 0)))) else (if a0_3.toList = ([] : List UInt8) then ((dom_parent.f a0_0).bind fun t115 => (if t115 = true then (some true) else (some ((l0_5.length : Int) == 0)))) else (some false))) else (some false)) else (if a0_1.toList = ([] : List UInt8) then (if (l0_2.length : Int) = 0 then (if a0_0 = 4 then ((dom_parent.f a0_0).bind fun t116 => (if t116 = true then (some true) else (some ((l0_5.length : Int) == 0)))) else (if a0_3.toList = ([] : List UInt8) then ((dom_parent.f a0_0).bind fun t117 => (if t117 = true then (some true) else (some ((l0_5.length : Int) == 0)))) else (some false))) else (some false)) else (some false))))
set_option maxHeartbeats 64000000 in
set_option maxRecDepth 100000 in
theorem dom_bare.core (a0_0 : Int) (a0_1 : ByteArray) (A0_2 : Option Addr) (c0_2 : Nat) (l0_2 : List (S122)) (a0_3 : ByteArray) (a0_4 : Int) (A0_5 : Option Addr) (c0_5 : Nat) (l0_5 : List Int) (b2 b3 b4 b5 bn ba bt bc pv : Bool) (w : World)
 (h2 : (a0_0 == 2) = b2) (h3 : (a0_0 == 3) = b3) (h4 : (a0_0 == 4) = b4) (h5 : (a0_0 == 5) = b5) (hn : (a0_1.toList == ([] : List UInt8)) = bn) (ha : ((l0_2.length : Int) == 0) = ba) (ht : (a0_3.toList == ([] : List UInt8)) = bt) (hc : ((l0_5.length : Int) == 0) = bc) (hp : dom_parent.f a0_0 = some pv)
 (hk : (b2 = true ∧ b3 = false ∧ b4 = false ∧ b5 = false) ∨ (b2 = false ∧ b3 = true ∧ b4 = false ∧ b5 = false) ∨ (b2 = false ∧ b3 = false ∧ b4 = true ∧ b5 = false) ∨ (b2 = false ∧ b3 = false ∧ b4 = false ∧ b5 = true) ∨ (b2 = false ∧ b3 = false ∧ b4 = false ∧ b5 = false)) :
 Calls Tryd.prog 135 #[.agg #[.int .i64 a0_0, .string a0_1, .slice A0_2 l0_2.length c0_2, .string a0_3, .int .i64 a0_4, .slice A0_5 l0_5.length c0_5]] w fun e w' => e = .returned (.bool ((b2 || b5 || bn) && (b2 || ba) && (b3 || b4 || bt) && (pv || bc))) ∧ Below w.heap.size w w' := by
 have hu43 := Tryd.underlying43
 have HB := aS (Below.refl w.heap.size w)
 rcases hk with ⟨rfl, rfl, rfl, rfl⟩ | ⟨rfl, rfl, rfl, rfl⟩ | ⟨rfl, rfl, rfl, rfl⟩ | ⟨rfl, rfl, rfl, rfl⟩ | ⟨rfl, rfl, rfl, rfl⟩
 ·cases bt
  case' true => (cases pv; case' false => cases bc)
  all_goals (go_enter Tryd.func135, Tryd.ntmps135; go_wp2_with (first | ((with_reducible refine q07 (N := 1) rfl ?_); refine q0t ?hg (N := 1) ?hd (cs := #[.int .i64 a0_0, .string a0_1, .slice A0_2 l0_2.length c0_2, .string a0_3, .int .i64 a0_4, .slice A0_5 l0_5.length c0_5]) (t := 43) ?hr ?_; (case hd => rfl); (case hg => rfl); (case hr => first | (go_simp; done) | (go_simp; rfl)); intro gb hg wb hbox hb; have n0_ := aS (q01 (z8 HB.out) hb); have BK := aS hbox; have hz0 : wb.cell? ⟨gb, 0, none⟩ = some (.int .i64 a0_0) := (q09 BK.out 0).trans rfl; have hz1 : wb.cell? ⟨gb, 1, none⟩ = some (.string a0_1) := (q09 BK.out 1).trans rfl; have hz2 : wb.cell? ⟨gb, 2, none⟩ = some (.slice A0_2 l0_2.length c0_2) := (q09 BK.out 2).trans rfl; have hz3 : wb.cell? ⟨gb, 3, none⟩ = some (.string a0_3) := (q09 BK.out 3).trans rfl; have hz4 : wb.cell? ⟨gb, 4, none⟩ = some (.int .i64 a0_4) := (q09 BK.out 4).trans rfl; have hz5 : wb.cell? ⟨gb, 5, none⟩ = some (.slice A0_5 l0_5.length c0_5) := (q09 BK.out 5).trans rfl; clear HB; have HB := n0_; clear n0_ hg hbox hb) | (go_at_call 158; (with_reducible refine (dom_parent.calls a0_0 _ _ hp).mono ?_); rintro e w' ⟨rfl, ⟨nd, rfl⟩⟩)); repeat (go_quiet ((go_at_call 158; (with_reducible refine (dom_parent.calls a0_0 _ _ hp).mono ?_); rintro e w' ⟨rfl, ⟨nd, rfl⟩⟩; (try first | exact ⟨rfl, _, World.drewN_drewN _ _ _⟩ | exact ⟨rfl, _, Eq.trans (World.drewN_drewN _ _ _) (congrArg (World.drewN _) (Nat.add_assoc _ _ _))⟩))); try go_wp2_with (first | (go_at_call 158; (with_reducible refine (dom_parent.calls a0_0 _ _ hp).mono ?_); rintro e w' ⟨rfl, ⟨nd, rfl⟩⟩))); go_ret; exact ⟨rfl, (z8 HB.out)⟩)
 ·cases bn
  case' true => (cases ba; case' true => (cases pv; case' false => cases bc))
  all_goals (go_enter Tryd.func135, Tryd.ntmps135; go_wp2_with (first | ((with_reducible refine q07 (N := 1) rfl ?_); refine q0t ?hg (N := 1) ?hd (cs := #[.int .i64 a0_0, .string a0_1, .slice A0_2 l0_2.length c0_2, .string a0_3, .int .i64 a0_4, .slice A0_5 l0_5.length c0_5]) (t := 43) ?hr ?_; (case hd => rfl); (case hg => rfl); (case hr => first | (go_simp; done) | (go_simp; rfl)); intro gb hg wb hbox hb; have n0_ := aS (q01 (z8 HB.out) hb); have BK := aS hbox; have hz0 : wb.cell? ⟨gb, 0, none⟩ = some (.int .i64 a0_0) := (q09 BK.out 0).trans rfl; have hz1 : wb.cell? ⟨gb, 1, none⟩ = some (.string a0_1) := (q09 BK.out 1).trans rfl; have hz2 : wb.cell? ⟨gb, 2, none⟩ = some (.slice A0_2 l0_2.length c0_2) := (q09 BK.out 2).trans rfl; have hz3 : wb.cell? ⟨gb, 3, none⟩ = some (.string a0_3) := (q09 BK.out 3).trans rfl; have hz4 : wb.cell? ⟨gb, 4, none⟩ = some (.int .i64 a0_4) := (q09 BK.out 4).trans rfl; have hz5 : wb.cell? ⟨gb, 5, none⟩ = some (.slice A0_5 l0_5.length c0_5) := (q09 BK.out 5).trans rfl; clear HB; have HB := n0_; clear n0_ hg hbox hb) | (go_at_call 158; (with_reducible refine (dom_parent.calls a0_0 _ _ hp).mono ?_); rintro e w' ⟨rfl, ⟨nd, rfl⟩⟩)); repeat (go_quiet ((go_at_call 158; (with_reducible refine (dom_parent.calls a0_0 _ _ hp).mono ?_); rintro e w' ⟨rfl, ⟨nd, rfl⟩⟩; (try first | exact ⟨rfl, _, World.drewN_drewN _ _ _⟩ | exact ⟨rfl, _, Eq.trans (World.drewN_drewN _ _ _) (congrArg (World.drewN _) (Nat.add_assoc _ _ _))⟩))); try go_wp2_with (first | (go_at_call 158; (with_reducible refine (dom_parent.calls a0_0 _ _ hp).mono ?_); rintro e w' ⟨rfl, ⟨nd, rfl⟩⟩))); go_ret; exact ⟨rfl, (z8 HB.out)⟩)
 ·cases bn
  case' true => (cases ba; case' true => (cases pv; case' false => cases bc))
  all_goals (go_enter Tryd.func135, Tryd.ntmps135; go_wp2_with (first | ((with_reducible refine q07 (N := 1) rfl ?_); refine q0t ?hg (N := 1) ?hd (cs := #[.int .i64 a0_0, .string a0_1, .slice A0_2 l0_2.length c0_2, .string a0_3, .int .i64 a0_4, .slice A0_5 l0_5.length c0_5]) (t := 43) ?hr ?_; (case hd => rfl); (case hg => rfl); (case hr => first | (go_simp; done) | (go_simp; rfl)); intro gb hg wb hbox hb; have n0_ := aS (q01 (z8 HB.out) hb); have BK := aS hbox; have hz0 : wb.cell? ⟨gb, 0, none⟩ = some (.int .i64 a0_0) := (q09 BK.out 0).trans rfl; have hz1 : wb.cell? ⟨gb, 1, none⟩ = some (.string a0_1) := (q09 BK.out 1).trans rfl; have hz2 : wb.cell? ⟨gb, 2, none⟩ = some (.slice A0_2 l0_2.length c0_2) := (q09 BK.out 2).trans rfl; have hz3 : wb.cell? ⟨gb, 3, none⟩ = some (.string a0_3) := (q09 BK.out 3).trans rfl; have hz4 : wb.cell? ⟨gb, 4, none⟩ = some (.int .i64 a0_4) := (q09 BK.out 4).trans rfl; have hz5 : wb.cell? ⟨gb, 5, none⟩ = some (.slice A0_5 l0_5.length c0_5) := (q09 BK.out 5).trans rfl; clear HB; have HB := n0_; clear n0_ hg hbox hb) | (go_at_call 158; (with_reducible refine (dom_parent.calls a0_0 _ _ hp).mono ?_); rintro e w' ⟨rfl, ⟨nd, rfl⟩⟩)); repeat (go_quiet ((go_at_call 158; (with_reducible refine (dom_parent.calls a0_0 _ _ hp).mono ?_); rintro e w' ⟨rfl, ⟨nd, rfl⟩⟩; (try first | exact ⟨rfl, _, World.drewN_drewN _ _ _⟩ | exact ⟨rfl, _, Eq.trans (World.drewN_drewN _ _ _) (congrArg (World.drewN _) (Nat.add_assoc _ _ _))⟩))); try go_wp2_with (first | (go_at_call 158; (with_reducible refine (dom_parent.calls a0_0 _ _ hp).mono ?_); rintro e w' ⟨rfl, ⟨nd, rfl⟩⟩))); go_ret; exact ⟨rfl, (z8 HB.out)⟩)
 ·cases ba
  case' true => (cases bt; case' true => (cases pv; case' false => cases bc))
  all_goals (go_enter Tryd.func135, Tryd.ntmps135; go_wp2_with (first | ((with_reducible refine q07 (N := 1) rfl ?_); refine q0t ?hg (N := 1) ?hd (cs := #[.int .i64 a0_0, .string a0_1, .slice A0_2 l0_2.length c0_2, .string a0_3, .int .i64 a0_4, .slice A0_5 l0_5.length c0_5]) (t := 43) ?hr ?_; (case hd => rfl); (case hg => rfl); (case hr => first | (go_simp; done) | (go_simp; rfl)); intro gb hg wb hbox hb; have n0_ := aS (q01 (z8 HB.out) hb); have BK := aS hbox; have hz0 : wb.cell? ⟨gb, 0, none⟩ = some (.int .i64 a0_0) := (q09 BK.out 0).trans rfl; have hz1 : wb.cell? ⟨gb, 1, none⟩ = some (.string a0_1) := (q09 BK.out 1).trans rfl; have hz2 : wb.cell? ⟨gb, 2, none⟩ = some (.slice A0_2 l0_2.length c0_2) := (q09 BK.out 2).trans rfl; have hz3 : wb.cell? ⟨gb, 3, none⟩ = some (.string a0_3) := (q09 BK.out 3).trans rfl; have hz4 : wb.cell? ⟨gb, 4, none⟩ = some (.int .i64 a0_4) := (q09 BK.out 4).trans rfl; have hz5 : wb.cell? ⟨gb, 5, none⟩ = some (.slice A0_5 l0_5.length c0_5) := (q09 BK.out 5).trans rfl; clear HB; have HB := n0_; clear n0_ hg hbox hb) | (go_at_call 158; (with_reducible refine (dom_parent.calls a0_0 _ _ hp).mono ?_); rintro e w' ⟨rfl, ⟨nd, rfl⟩⟩)); repeat (go_quiet ((go_at_call 158; (with_reducible refine (dom_parent.calls a0_0 _ _ hp).mono ?_); rintro e w' ⟨rfl, ⟨nd, rfl⟩⟩; (try first | exact ⟨rfl, _, World.drewN_drewN _ _ _⟩ | exact ⟨rfl, _, Eq.trans (World.drewN_drewN _ _ _) (congrArg (World.drewN _) (Nat.add_assoc _ _ _))⟩))); try go_wp2_with (first | (go_at_call 158; (with_reducible refine (dom_parent.calls a0_0 _ _ hp).mono ?_); rintro e w' ⟨rfl, ⟨nd, rfl⟩⟩))); go_ret; exact ⟨rfl, (z8 HB.out)⟩)
 ·cases bn
  case' true => (cases ba; case' true => (cases bt; case' true => (cases pv; case' false => cases bc)))
  all_goals (go_enter Tryd.func135, Tryd.ntmps135; go_wp2_with (first | ((with_reducible refine q07 (N := 1) rfl ?_); refine q0t ?hg (N := 1) ?hd (cs := #[.int .i64 a0_0, .string a0_1, .slice A0_2 l0_2.length c0_2, .string a0_3, .int .i64 a0_4, .slice A0_5 l0_5.length c0_5]) (t := 43) ?hr ?_; (case hd => rfl); (case hg => rfl); (case hr => first | (go_simp; done) | (go_simp; rfl)); intro gb hg wb hbox hb; have n0_ := aS (q01 (z8 HB.out) hb); have BK := aS hbox; have hz0 : wb.cell? ⟨gb, 0, none⟩ = some (.int .i64 a0_0) := (q09 BK.out 0).trans rfl; have hz1 : wb.cell? ⟨gb, 1, none⟩ = some (.string a0_1) := (q09 BK.out 1).trans rfl; have hz2 : wb.cell? ⟨gb, 2, none⟩ = some (.slice A0_2 l0_2.length c0_2) := (q09 BK.out 2).trans rfl; have hz3 : wb.cell? ⟨gb, 3, none⟩ = some (.string a0_3) := (q09 BK.out 3).trans rfl; have hz4 : wb.cell? ⟨gb, 4, none⟩ = some (.int .i64 a0_4) := (q09 BK.out 4).trans rfl; have hz5 : wb.cell? ⟨gb, 5, none⟩ = some (.slice A0_5 l0_5.length c0_5) := (q09 BK.out 5).trans rfl; clear HB; have HB := n0_; clear n0_ hg hbox hb) | (go_at_call 158; (with_reducible refine (dom_parent.calls a0_0 _ _ hp).mono ?_); rintro e w' ⟨rfl, ⟨nd, rfl⟩⟩)); repeat (go_quiet ((go_at_call 158; (with_reducible refine (dom_parent.calls a0_0 _ _ hp).mono ?_); rintro e w' ⟨rfl, ⟨nd, rfl⟩⟩; (try first | exact ⟨rfl, _, World.drewN_drewN _ _ _⟩ | exact ⟨rfl, _, Eq.trans (World.drewN_drewN _ _ _) (congrArg (World.drewN _) (Nat.add_assoc _ _ _))⟩))); try go_wp2_with (first | (go_at_call 158; (with_reducible refine (dom_parent.calls a0_0 _ _ hp).mono ?_); rintro e w' ⟨rfl, ⟨nd, rfl⟩⟩))); go_ret; exact ⟨rfl, (z8 HB.out)⟩)
set_option maxHeartbeats 8000000 in
theorem dom_bare.calls (a0_0 : Int) (a0_1 : ByteArray) (A0_2 : Option Addr) (c0_2 : Nat) (l0_2 : List (S122)) (a0_3 : ByteArray) (a0_4 : Int) (A0_5 : Option Addr) (c0_5 : Nat) (l0_5 : List Int) (r : Bool) (w : World) (hr0_2 : Kd.C k122 w A0_2 l0_2.length l0_2) (hc0_2 : l0_2.length ≤ c0_2) (hr0_5 : Kd.C (Kd.int .i64) w A0_5 l0_5.length l0_5) (hc0_5 : l0_5.length ≤ c0_5) (h : dom_bare.f a0_0 a0_1 l0_2 a0_3 a0_4 l0_5 = some r) :
 Calls Tryd.prog 135 #[.agg #[.int .i64 a0_0, .string a0_1, .slice A0_2 l0_2.length c0_2, .string a0_3, .int .i64 a0_4, .slice A0_5 l0_5.length c0_5]] w fun e w' => e = .returned (.bool r) ∧ Below w.heap.size w w' := by
  obtain ⟨pv, hp⟩ : ∃ pv, dom_parent.f a0_0 = some pv := by unfold dom_parent.f; split <;> exact ⟨_, rfl⟩
  have hr : r = ((decide (a0_0 = 2) || decide (a0_0 = 5) || (a0_1.toList == ([] : List UInt8))) && (decide (a0_0 = 2) || ((l0_2.length : Int) == 0)) && (decide (a0_0 = 3) || decide (a0_0 = 4) || (a0_3.toList == ([] : List UInt8))) && (pv || ((l0_5.length : Int) == 0))) := by
   unfold dom_bare.f at h
   rw [hp] at h
   simp only [Option.bind_some] at h
   clear hp
   generalize ((l0_5.length : Int) == 0) = bc at h ⊢
   have bs : ∀ s : ByteArray, (s.toList == ([] : List UInt8)) = decide (s.toList = []) := fun s => by by_cases c : s.toList = [] <;> simp [c]
   have bl : ((l0_2.length : Int) == 0) = decide ((l0_2.length : Int) = 0) := rfl
   rw [bs, bs, bl]
   generalize (l0_2.length : Int) = L at h ⊢
   generalize a0_1.toList = X at h ⊢
   generalize a0_3.toList = Y at h ⊢
   by_cases k2 : a0_0 = 2
   ·subst k2; by_cases x : Y = [] <;> cases pv <;> simp [x] at h ⊢ <;> first | exact h.symm | exact h
   by_cases k3 : a0_0 = 3
   ·subst k3; by_cases x : X = [] <;> by_cases y : L = 0 <;> cases pv <;> simp [x, y] at h ⊢ <;> first | exact h.symm | exact h
   by_cases k4 : a0_0 = 4
   ·subst k4; by_cases x : X = [] <;> by_cases y : L = 0 <;> cases pv <;> simp [x, y] at h ⊢ <;> first | exact h.symm | exact h
   by_cases k5 : a0_0 = 5
   ·subst k5; by_cases x : Y = [] <;> by_cases y : L = 0 <;> cases pv <;> simp [x, y] at h ⊢ <;> first | exact h.symm | exact h
   by_cases x : X = [] <;> by_cases y : L = 0 <;> by_cases z : Y = [] <;> cases pv <;> simp [k2, k3, k4, k5, x, y, z] at h ⊢ <;> first | exact h.symm | exact h
  subst hr
  refine dom_bare.core a0_0 a0_1 A0_2 c0_2 l0_2 a0_3 a0_4 A0_5 c0_5 l0_5 _ _ _ _ _ _ _ _ pv w rfl rfl rfl rfl rfl rfl rfl rfl hp ?_
  by_cases k2 : a0_0 = 2
  ·subst k2; simp
  by_cases k3 : a0_0 = 3
  ·subst k3; simp
  by_cases k4 : a0_0 = 4
  ·subst k4; simp
  by_cases k5 : a0_0 = 5
  ·subst k5; simp
  simp [k2, k3, k4, k5]
def strings_IndexByte.f (a0 : ByteArray) (a1 : Int) : Option Int := some (Lib.indexByte a0.data.toList (UInt8.ofNat a1.toNat))
theorem strings_IndexByte.calls (a0 : ByteArray) (a1 : Int) (r : Int) (w : World) (h : strings_IndexByte.f a0 a1 = some r) :
 Calls Tryd.prog 154 #[.string a0, .int .u8 a1] w fun e w' => e = .returned (.int .i64 r) ∧ Drawn0 w w' := by
 obtain rfl := Option.some.inj h
 exact (Tryd.strings_IndexByte a0 a1 w).mono fun e w' ⟨he, hw⟩ => ⟨he, hw ▸ Drawn0.refl _⟩
def strings_Trim.f (a0 a1 : ByteArray) : Option ByteArray := if a0.size ≤ 140737488355328 ∧ a1.size ≤ 1000 ∧ a1.data.toList.all (fun b => decide (b.toNat < 128)) = true then some ⟨(Lib.trimS a0.data.toList a1.data.toList).toArray⟩ else none
theorem strings_Trim.calls (a0 a1 : ByteArray) (r : ByteArray) (w : World) (h : strings_Trim.f a0 a1 = some r) :
 Calls Tryd.prog 177 #[.string a0, .string a1] w fun e w' => e = .returned (.string r) ∧ Below w.heap.size w w' := by
 unfold strings_Trim.f at h
 split at h
 ·rename_i hs
  obtain rfl := Option.some.inj h
  exact Tryd.strings_Trim a0 a1 w (by omega) (by omega) (ascii_of_all hs.2.2)
 ·cases h
def dom_named.f (a0 : ByteArray) (a1 : ByteArray) : Option (Bool) := if a0.toList = ([] : List UInt8) then (some false) else (if (a0.size : Int) ≤ 40 then (if 0 < (a0.size : Int) then ((strings_IndexByte.f a1 (bt a0 0)).bind fun t150 => (if t150 ≥ 0 then ((strings_Trim.f a0 (⟨#[97, 98, 99, 100, 101, 102, 103, 104, 105, 106, 107, 108, 109, 110, 111, 112, 113, 114, 115, 116, 117, 118, 119, 120, 121, 122, 48, 49, 50, 51, 52, 53, 54, 55, 56, 57, 45, 95, 58]⟩ : ByteArray)).bind fun t151 => (some (t151.toList == ([] : List UInt8)))) else (some false))) else (none)) else (some false))
set_option maxHeartbeats 8000000 in
set_option maxRecDepth 100000 in
theorem dom_named.calls (a0 : ByteArray) (a1 : ByteArray) (r : Bool) (w : World) (h : dom_named.f a0 a1 = some r) :
 Calls Tryd.prog 159 #[.string a0, .string a1] w fun e w' => e = .returned (.bool r) ∧ Below w.heap.size w w' := by
 have HB := aS (Below.refl w.heap.size w)
 have H := h; clear h; unfold dom_named.f at H
 refine iE H ?p3 ?n3 <;> clear H
 case' p3 => intro c3b0 c3b1 H
 case' n3 => intro c3 c3b0 c3b1 H; refine iLN (m := a0.size) (n := 40) H rfl rfl ?p4 ?n4 <;> clear H
 case' p4 => intro c4b0 c4b1 H; refine iTNp (m := 0) (n := a0.size) H rfl rfl ?_; clear H; intro c5b0 c5b1 H; replace H := iB H; obtain ⟨t150, A7, H⟩ := H; refine iL H ?p8 ?n8 <;> clear H
 case' p8 => intro c8b0 H
 case' n8 => intro c8b0 H
 case' n4 => intro c4b0 c4b1 H
 case p3|n4 =>
  obtain rfl := Option.some.inj H
  go_enter Tryd.func159, Tryd.ntmps159
  go_wp2
  go_ret
  exact ⟨by first | rfl | (simp [q05, q04] <;> rfl) | (simp [*, q05, q04] <;> rfl), by repeat (first | (with_reducible first | exact HB.out | apply bA | apply bN | apply bD) | exact HB.out)⟩
 case p8 =>
  replace H := iB H
  obtain ⟨t151, A9, H⟩ := H
  obtain rfl := Option.some.inj H
  have p6 : 0 ≤ (0 : Int) := (by omega)
  have q6 : 0 < a0.size := (by have : (0 : Int) < (a0.size : Int) := od zb; omega)
  have hx6 : ∀ h : 0 < a0.size, ((a0[0]'h).toNat : Int) = bt a0 0 := bt_at a0 0
  clear p6
  have qi6 : (0 < (a0.size : Int)) = True := eq_true (od zb)
  replace q6 := eq_true q6
  go_enter Tryd.func159, Tryd.ntmps159
  go_wp2_with (first | (go_at_call 154; (with_reducible refine (strings_IndexByte.calls a1 (bt a0 0) t150 _ A7.out).mono ?_); rintro e w' ⟨rfl, ⟨nd, rfl⟩⟩) | (go_at_call 177; (with_reducible refine (strings_Trim.calls a0 (⟨#[97, 98, 99, 100, 101, 102, 103, 104, 105, 106, 107, 108, 109, 110, 111, 112, 113, 114, 115, 116, 117, 118, 119, 120, 121, 122, 48, 49, 50, 51, 52, 53, 54, 55, 56, 57, 45, 95, 58]⟩ : ByteArray) t151 _ A9.out).mono ?_); rintro e w10 ⟨rfl, hb⟩; replace HB := aS (q01 (z7 HB.out) hb); (try clear hb); (try clear hb2); (try clear hk); (try clear hi)))
  go_ret
  exact ⟨by first | rfl | (simp [q05, q04] <;> rfl) | (simp [*, q05, q04] <;> rfl), by repeat (first | (with_reducible first | exact HB.out | apply bA | apply bN | apply bD) | exact HB.out)⟩
 case n8 =>
  obtain rfl := Option.some.inj H
  have p6 : 0 ≤ (0 : Int) := (by omega)
  have q6 : 0 < a0.size := (by have : (0 : Int) < (a0.size : Int) := od zb; omega)
  have hx6 : ∀ h : 0 < a0.size, ((a0[0]'h).toNat : Int) = bt a0 0 := bt_at a0 0
  clear p6
  have qi6 : (0 < (a0.size : Int)) = True := eq_true (od zb)
  replace q6 := eq_true q6
  go_enter Tryd.func159, Tryd.ntmps159
  go_wp2_with (first | (go_at_call 154; (with_reducible refine (strings_IndexByte.calls a1 (bt a0 0) t150 _ A7.out).mono ?_); rintro e w' ⟨rfl, ⟨nd, rfl⟩⟩))
  go_ret
  exact ⟨by first | rfl | (simp [q05, q04] <;> rfl) | (simp [*, q05, q04] <;> rfl), by repeat (first | (with_reducible first | exact HB.out | apply bA | apply bN | apply bD) | exact HB.out)⟩
def dom_Name.f (a0 : ByteArray) : Option (Bool) := if 0 ≤ 26 then (if 26 ≤ 39 then ((dom_named.f a0 ((⟨#[97, 98, 99, 100, 101, 102, 103, 104, 105, 106, 107, 108, 109, 110, 111, 112, 113, 114, 115, 116, 117, 118, 119, 120, 121, 122, 48, 49, 50, 51, 52, 53, 54, 55, 56, 57, 45, 95, 58]⟩ : ByteArray).extract 0 26)).bind fun t152 => (some t152)) else (none)) else (none)
set_option maxHeartbeats 8000000 in
set_option maxRecDepth 100000 in
theorem dom_Name.calls (a0 : ByteArray) (r : Bool) (w : World) (h : dom_Name.f a0 = some r) :
 Calls Tryd.prog 136 #[.string a0] w fun e w' => e = .returned (.bool r) ∧ Below w.heap.size w w' := by
 have HB := aS (Below.refl w.heap.size w)
 have H := h; clear h; unfold dom_Name.f at H
 refine iGp H ?_; clear H; intro c2 H
 have c2b0 := eq_true c2
 have c2b1 : decide (0 ≤ 26) = true := decide_eq_true c2
 clear c2
 refine iGp H ?_; clear H; intro c3 H
 have c3b0 := eq_true c3
 have c3b1 : decide (26 ≤ 39) = true := decide_eq_true c3
 clear c3
 replace H := iB H
 obtain ⟨t152, A4, H⟩ := H
 obtain rfl := Option.some.inj H
 go_enter Tryd.func136, Tryd.ntmps136
 go_wp2_with (first | ((with_reducible refine q0j (f := 159) rfl ?_); refine q1d (some 5) rfl rfl Tryd.func159 (by kernel_rfl) rfl #[.string a0, .string ((⟨#[97, 98, 99, 100, 101, 102, 103, 104, 105, 106, 107, 108, 109, 110, 111, 112, 113, 114, 115, 116, 117, 118, 119, 120, 121, 122, 48, 49, 50, 51, 52, 53, 54, 55, 56, 57, 45, 95, 58]⟩ : ByteArray).extract 0 26)] rfl zc ?_; (with_reducible refine (dom_named.calls a0 ((⟨#[97, 98, 99, 100, 101, 102, 103, 104, 105, 106, 107, 108, 109, 110, 111, 112, 113, 114, 115, 116, 117, 118, 119, 120, 121, 122, 48, 49, 50, 51, 52, 53, 54, 55, 56, 57, 45, 95, 58]⟩ : ByteArray).extract 0 26) t152 _ A4.out).mono ?_); rintro e w5 ⟨rfl, hb⟩; refine ⟨_, rfl, ?_⟩; replace HB := aS (q01 (z7 HB.out) hb); (try clear hb); (try clear hb2); (try clear hk); (try clear hi)))
 go_ret
 exact ⟨by first | rfl | (simp [q05, q04] <;> rfl) | (simp [*, q05, q04] <;> rfl), by repeat (first | (with_reducible first | exact HB.out | apply bA | apply bN | apply bD) | exact HB.out)⟩
set_option maxHeartbeats 2000000 in
theorem api_Attr_141.idx (A0 : Option Addr) (c0 : Nat) (l0 : List S122) (p : S122 → Bool) (g : Nat) (lb : Array Value) (eg : ∀ args w, (callFunc g args).run Tryd.prog w = .ok (.enter g args) w) (w : World) (hr0 : Kd.C k122 w A0 l0.length l0) (hn : l0.length ≤ 9223372036854775807)
 (hp : ∀ W x cs, x ∈ l0 → Below w.heap.size w W → (k122).K W x cs → Calls Tryd.prog g (#[.agg cs.toArray] ++ lb) W fun e w' => e = .returned (.bool (p x)) ∧ Below W.heap.size W w') :
 Calls Tryd.prog 141 #[.slice A0 l0.length c0, .func (.func g) #[] lb] w fun e w' => e = .returned (.int .i64 (Cl.idxOf p l0)) ∧ Below w.heap.size w w' := by
 have hC := aS hr0
 have HP := aS hp
 have HN := aS hn
 clear hr0 hp
 go_enter Tryd.func141, Tryd.ntmps141
 go_wp2
 go_loopg [5, 8] l0.length (fun gg _ s8 wr => ∃ kk : Nat, kk ≤ l0.length ∧ l0.length - kk ≤ gg ∧ s8 = .int .i64 kk ∧ Aside0 (Below w.heap.size w wr) ∧ Aside0 (∀ j, j < kk → p (l0.getD j z122) = false))
 case atStart => exact ⟨0, Nat.zero_le _, by omega, rfl, ⟨Below.refl _ w⟩, ⟨fun j hj => absurd hj (Nat.not_lt_zero _)⟩⟩
 case round =>
  obtain ⟨kk, hkk, hg, rfl, BW, HA⟩ := hrel
  by_cases hlt : kk < l0.length
  ·have hltz : (kk : Int) < (l0.length : Int) := by omega
   obtain ⟨ad, cs, rfl, hcl, hK, hcc⟩ := Cl.getC (Kd.C_below hC.out BW.out) z122 kk hlt
   have hcall := HP.out wr (l0.getD kk z122) cs (Cl.mem_getD l0 kk z122 hlt) BW.out hK
   have hcl' : cs.length = 2 := hcl
   have hcc' : ∀ j u, cs[j]? = some u → wr.cell? (ad.add (kk * 2 + j)) = some u := hcc
   obtain ⟨u0_, u1_, rfl⟩ : ∃ u0_ u1_, cs = [u0_, u1_] := by
    match cs, hcl' with
    | [u0_, u1_], _ => exact ⟨u0_, u1_, rfl⟩
   have hz0 : wr.cell? (ad.add (kk * 2)) = some u0_ := hcc' 0 _ rfl
   have hz1 : wr.cell? ⟨(ad.add (kk * 2)).block, (ad.add (kk * 2)).off + 1, none⟩ = some u1_ := by rw [← q0z _ _ 1 (by omega)]; exact hcc' 1 _ rfl
   replace hcall : Calls Tryd.prog g (#[.agg #[u0_, u1_]] ++ lb) wr _ := hcall
   clear hcl hcc hK hcc'
   obtain ⟨x, hx⟩ : ∃ x, l0.getD kk z122 = x := ⟨_, rfl⟩
   rw [hx] at hcall
   have HX := aS hx
   clear hx
   cases hq : p x with
   | true =>
    rw [hq] at hcall
    have HQ := aS hq
    clear hq
    go_wp2_with (go_at_fn g; refine hcall.mono ?_; rintro e w' ⟨rfl, hb'⟩)
    go_ret
    refine ⟨?_, BW.out.trans (hb'.mono BW.out.size)⟩
    rw [Cl.idxOf_hit p z122 l0 kk hlt (by rw [HX.out]; exact HQ.out) HA.out]
    rfl
   | false =>
    rw [hq] at hcall
    have HQ := aS hq
    clear hq
    go_wp2_with (go_at_fn g; refine hcall.mono ?_; rintro e w' ⟨rfl, hb'⟩)
    go_roundg (l0.length - (kk + 1))
    case measure => omega
    case rel =>
     refine ⟨kk + 1, by omega, by omega, by go_num, ⟨BW.out.trans (hb'.mono BW.out.size)⟩, ⟨fun j hj => ?_⟩⟩
     by_cases e : j = kk
     ·subst e
      rw [HX.out]; exact HQ.out
     ·exact HA.out j (by omega)
  ·have hltz : ¬ (kk : Int) < (l0.length : Int) := by omega
   have : kk = l0.length := by omega
   subst this
   go_wp2
   go_ret
   refine ⟨?_, BW.out⟩
   rw [Cl.idxOf_miss p z122 l0 HA.out]
   rfl
def dom_find.f (l0 : List S122) (a1 : ByteArray) : Option Int := if l0.length * 32 ≤ 140737488355328 then some (Cl.idxOf (fun x => x.f0.toList == a1.toList) l0) else none
theorem dom_find.calls (A0 : Option Addr) (c0 : Nat) (l0 : List S122) (a1 : ByteArray) (r : Int) (w : World) (hr0 : Kd.C k122 w A0 l0.length l0) (hc0 : l0.length ≤ c0) (h : dom_find.f l0 a1 = some r) :
 Calls Tryd.prog 112 #[.slice A0 l0.length c0, .string a1] w fun e w' => e = .returned (.int .i64 r) ∧ Below w.heap.size w w' := by
 unfold dom_find.f at h
 split at h
 ·rename_i hs0
  have hr := Option.some.inj h
  clear h
  have eg : ∀ args w, (callFunc 142 args).run Tryd.prog w = .ok (.enter 142 args) w := enters_of Tryd.func142 (by kernel_rfl) rfl
  have hb0 : Below w.heap.size w (w.alloc (.cells #[.string a1] 9)) := (Below.refl _ w).alloc (Nat.le_refl _) _
  have hH := api_Attr_141.idx A0 c0 l0 (fun x => x.f0.toList == a1.toList) 142 #[.pointer (some ⟨w.heap.size, 0, none⟩)] eg _ (Kd.C_below hr0 hb0) (by omega) (fun W x cs hx hb hK => by
   obtain rfl := k122_open hK
   have hcell : W.cell? ⟨w.heap.size, 0, none⟩ = some (.string a1) := (hb.cell (p := ⟨w.heap.size, 0, none⟩) (by simp)).trans (by simp)
   have hlt : w.heap.size < W.heap.size := Nat.lt_of_lt_of_le (by simp) hb.size
   show Calls Tryd.prog 142 #[.agg #[.string x.f0, .string x.f1], .pointer (some ⟨w.heap.size, 0, none⟩)] W _
   have hne : w.heap.size ≠ W.heap.size := by omega
   clear hb hr hr0 hb0 hx hK
   go_enter Tryd.func142, Tryd.ntmps142
   go_wp2
   go_ret
   exact ⟨by first | rfl | simp, (Below.refl _ W).alloc (Nat.le_refl _) _⟩)
  rw [hr] at hH
  clear hr hr0
  go_enter Tryd.func112, Tryd.ntmps112
  go_wp2_with (go_at_call 141; refine hH.mono ?_; rintro e w' ⟨rfl, hb'⟩)
  go_ret
  exact ⟨rfl, ((Below.refl _ w).alloc (Nat.le_refl _) _).trans (hb'.mono (by simp))⟩
 ·cases h
def dom_attrName.f (a0 : ByteArray) : Option (Bool) := if 0 ≤ 26 then (if 26 ≤ 39 then (if ((⟨#[97, 98, 99, 100, 101, 102, 103, 104, 105, 106, 107, 108, 109, 110, 111, 112, 113, 114, 115, 116, 117, 118, 119, 120, 121, 122, 48, 49, 50, 51, 52, 53, 54, 55, 56, 57, 45, 95, 58]⟩ : ByteArray).extract 0 26).size + 2 ≤ 9223372036854775807 then ((dom_named.f a0 (((⟨#[97, 98, 99, 100, 101, 102, 103, 104, 105, 106, 107, 108, 109, 110, 111, 112, 113, 114, 115, 116, 117, 118, 119, 120, 121, 122, 48, 49, 50, 51, 52, 53, 54, 55, 56, 57, 45, 95, 58]⟩ : ByteArray).extract 0 26) ++ (⟨#[45, 95]⟩ : ByteArray))).bind fun t153 => (some t153)) else (none)) else (none)) else (none)
set_option maxHeartbeats 8000000 in
set_option maxRecDepth 100000 in
theorem dom_attrName.calls (a0 : ByteArray) (r : Bool) (w : World) (h : dom_attrName.f a0 = some r) :
 Calls Tryd.prog 160 #[.string a0] w fun e w' => e = .returned (.bool r) ∧ Below w.heap.size w w' := by
 have HB := aS (Below.refl w.heap.size w)
 have H := h; clear h; unfold dom_attrName.f at H
 refine iGp H ?_; clear H; intro c2 H
 have c2b0 := eq_true c2
 have c2b1 : decide (0 ≤ 26) = true := decide_eq_true c2
 clear c2
 refine iGp H ?_; clear H; intro c3 H
 have c3b0 := eq_true c3
 have c3b1 : decide (26 ≤ 39) = true := decide_eq_true c3
 clear c3
 refine iGp H ?_; clear H; intro c4 H
 have c4b0 := eq_true c4
 have c4b1 : decide (((⟨#[97, 98, 99, 100, 101, 102, 103, 104, 105, 106, 107, 108, 109, 110, 111, 112, 113, 114, 115, 116, 117, 118, 119, 120, 121, 122, 48, 49, 50, 51, 52, 53, 54, 55, 56, 57, 45, 95, 58]⟩ : ByteArray).extract 0 26).size + 2 ≤ 9223372036854775807) = true := decide_eq_true c4
 try have c4b2 : (9223372036854775807 < ((⟨#[97, 98, 99, 100, 101, 102, 103, 104, 105, 106, 107, 108, 109, 110, 111, 112, 113, 114, 115, 116, 117, 118, 119, 120, 121, 122, 48, 49, 50, 51, 52, 53, 54, 55, 56, 57, 45, 95, 58]⟩ : ByteArray).extract 0 26).size + 2) = False := eq_false (Nat.not_lt.2 c4)
 replace H := iB H
 obtain ⟨t153, A5, H⟩ := H
 obtain rfl := Option.some.inj H
 go_enter Tryd.func160, Tryd.ntmps160
 go_wp2_with (first | ((with_reducible refine q0j (f := 159) rfl ?_); refine q1d (some 6) rfl rfl Tryd.func159 (by kernel_rfl) rfl #[.string a0, .string (((⟨#[97, 98, 99, 100, 101, 102, 103, 104, 105, 106, 107, 108, 109, 110, 111, 112, 113, 114, 115, 116, 117, 118, 119, 120, 121, 122, 48, 49, 50, 51, 52, 53, 54, 55, 56, 57, 45, 95, 58]⟩ : ByteArray).extract 0 26) ++ (⟨#[45, 95]⟩ : ByteArray))] rfl zc ?_; (with_reducible refine (dom_named.calls a0 (((⟨#[97, 98, 99, 100, 101, 102, 103, 104, 105, 106, 107, 108, 109, 110, 111, 112, 113, 114, 115, 116, 117, 118, 119, 120, 121, 122, 48, 49, 50, 51, 52, 53, 54, 55, 56, 57, 45, 95, 58]⟩ : ByteArray).extract 0 26) ++ (⟨#[45, 95]⟩ : ByteArray)) t153 _ A5.out).mono ?_); rintro e w6 ⟨rfl, hb⟩; refine ⟨_, rfl, ?_⟩; replace HB := aS (q01 (z7 HB.out) hb); (try clear hb); (try clear hb2); (try clear hk); (try clear hi)))
 go_ret
 exact ⟨by first | rfl | (simp [q05, q04] <;> rfl) | (simp [*, q05, q04] <;> rfl), by repeat (first | (with_reducible first | exact HB.out | apply bA | apply bN | apply bD) | exact HB.out)⟩
end Go.Proofs.YthjnallbbhnndaaDoor.XDe
namespace Go.Proofs.YthjnallbbhnndaaDoor.XDe
open Go.Proofs.YthjnallbbhnndaaDoor.Short Go.RowKit Go.Proofs.YthjnallbbhnndaaDoorW.PrintWords Go.Proofs.YthjnallbbhnndaaDoorW.PrintLast Go.Proofs.YthjnallbbhnndaaDoorW.PrintMore
attribute [local go_sem] q16 q14 q1g q1f q0s q0r q15 q13   -- for this text's walks alone
set_option linter.unusedVariables false
set_option linter.unusedSimpArgs false
def dom_attrs.l0 : Nat → List (S122) → List (S122) → Int → Int → Option (Int)
 | 0, _, _, _, _ => none
 | k + 1, x0, x8, x9, x10 => if x10 < x9 then (if 0 ≤ x10 then (if x10 < (x8.length : Int) then ((dom_attrName.f ((q03 x8 x10).f0)).bind fun t156 => (if t156 = true then (if (((q03 x8 x10).f1).size : Int) > 400 then (some 2) else (if x10 ≤ (x0.length : Int) then ((dom_find.f (x0.take (x10 : Int).toNat) ((q03 x8 x10).f0)).bind fun t161 => (if t161 ≥ 0 then (some 3) else (dom_attrs.l0 k x0 x8 x9 (wrap64 (x10 + 1))))) else (none))) else (some 3))) else (none)) else (none)) else (some 0)
def dom_attrs.f (k : Nat) (l0 : List (S122)) : Option (Int) := if (l0.length : Int) > 12 then (some 2) else (dom_attrs.l0 k l0 l0 (l0.length : Int) 0)
theorem dom_attrs.mono_l : ∀ k, (∀ y0 y1 y2 y3, LeO (dom_attrs.l0 k y0 y1 y2 y3) (dom_attrs.l0 (k + 1) y0 y1 y2 y3))
 | 0 => fun _ _ _ _ r h => by simp [dom_attrs.l0] at h
 | k + 1 => by
  have ih0 := dom_attrs.mono_l k
  ·intro y0 y1 y2 y3
   unfold dom_attrs.l0
   repeat' first | with_reducible first | apply ih0 | exact LeO.refl _ | exact LeO.none _ | refine LeO.ite ?_ ?_ | refine LeO.bind ?_ (fun _ => ?_) | (first | apply ih0 | exact LeO.none _ | refine LeO.ite ?_ ?_ | refine LeO.bind ?_ (fun _ => ?_))
theorem dom_attrs.mono : ∀ a0 k, LeO (dom_attrs.f k a0) (dom_attrs.f (k + 1) a0) := by
 intro a0 k
 have ih0 := dom_attrs.mono_l k
 unfold dom_attrs.f
 repeat' first | with_reducible first | apply ih0 | exact LeO.refl _ | exact LeO.none _ | refine LeO.ite ?_ ?_ | refine LeO.bind ?_ (fun _ => ?_) | (first | apply ih0 | exact LeO.none _ | refine LeO.ite ?_ ?_ | refine LeO.bind ?_ (fun _ => ?_))
def dom_attrs.T10 : Bool × List (List Nat × List Nat) := (true, [([], []), ([], []), ([0, 1], [0, 1]), ([], []), ([3], [3]), ([2, 4], [2, 4]), ([5], [5]), ([6, 5], [6])])
def dom_attrs.B10 : List Nat := [0, 0, 3, 0, 8, 31, 63, 127]
theorem dom_attrs.tab10 : rtab .any (opsOf Tryd.f137 10) = dom_attrs.T10 := by kernel_rfl
theorem dom_attrs.bits10 : waitsOk dom_attrs.T10.2 dom_attrs.B10 = true := by kernel_rfl
set_option maxHeartbeats 8000000 in
set_option maxRecDepth 100000 in
theorem dom_attrs.calls (k : Nat) (A0 : Option Addr) (c0 : Nat) (l0 : List (S122)) (r : Int) (w : World) (hr0 : Kd.C k122 w A0 l0.length l0) (hc0 : l0.length ≤ c0) (h : dom_attrs.f k l0 = some r) :
 Calls Tryd.prog 137 #[.slice A0 l0.length c0] w fun e w' => e = .returned (.int .i64 r) ∧ Below w.heap.size w w' := by
 have hu122 := Tryd.underlying122
 have HR0 := aS hr0
 have HC0 := aS hc0
 clear hr0 hc0
 have HB := aS (Below.refl w.heap.size w)
 have H := h; clear h; unfold dom_attrs.f at H
 refine iTN (m := 12) (n := l0.length) H rfl rfl ?p2 ?n2 <;> clear H
 case' p2 => intro c2b0 c2b1 H
 case' n2 => intro c2b0 c2b1 H
 case p2 =>
  obtain rfl := Option.some.inj H
  go_enter Tryd.func137, Tryd.ntmps137
  go_wp2
  go_ret
  exact ⟨by first | rfl | (simp [q05, q04] <;> rfl) | (simp [*, q05, q04] <;> rfl), by repeat (first | (with_reducible first | exact HB.out | apply bA | apply bN | apply bD) | exact HB.out)⟩
 case n2 =>
  have H' := aS H
  clear H
  go_enter Tryd.func137, Tryd.ntmps137
  go_wp2
  go_loopg [10] k (fun kq v10 w' => ∃ (x10_1 : Int), v10 = .int .i64 x10_1 ∧ Aside0 (dom_attrs.l0 kq l0 l0 (l0.length : Int) x10_1 = some r) ∧ Aside0 (kq ≤ k) ∧ Aside0 (Below w.heap.size w w'))
  case atStart => exact ⟨(0), zi, H', ⟨Nat.le_refl _⟩, ⟨by repeat (first | (with_reducible first | exact HB.out | apply bA | apply bN | apply bD) | exact HB.out)⟩⟩
  case round =>
   clear H'
   obtain ⟨x10_1, rfl, HA, HK1, HB⟩ := hrel
   cases gk with
   | zero => exact absurd HA.out (by simp [dom_attrs.l0])
   | succ k1 =>
    have H := HA.out
    clear HA
    simp only [dom_attrs.l0] at H
    refine iT H ?p3 ?n3 <;> clear H
    case' p3 => intro c3b0 H; refine iLp H ?_; clear H; intro c4b0 H; refine iTp H ?_; clear H; intro c5b0 H; replace H := iB H; obtain ⟨t156, A6, H⟩ := H; refine iV H ?p7 ?n7 <;> clear H
    case' p7 => intro c7 H; subst c7; refine iTN (m := 400) (n := ((q03 l0 x10_1).f1).size) H rfl rfl ?p8 ?n8 <;> clear H
    case' p8 => intro c8b0 c8b1 H
    case' n8 =>
     intro c8b0 c8b1 H
     have c13b0 := eq_true (od zb : 0 ≤ x10_1)
     refine iGp H ?_; clear H; intro c14 H
     have c14b0 := eq_true c14
     have c14b1 : decide (x10_1 ≤ (l0.length : Int)) = true := decide_eq_true c14
     clear c14
     obtain ⟨y157, hy157⟩ : ∃ y_ : List (S122), y_ = (l0.take (x10_1 : Int).toNat) := ⟨_, rfl⟩
     replace H : ((dom_find.f y157 ((q03 l0 x10_1).f0)).bind fun t161 => (if t161 ≥ 0 then (some 3) else (dom_attrs.l0 k1 l0 l0 (l0.length : Int) (wrap64 (x10_1 + 1))))) = some r := by first | (rw [hy157]; with_reducible exact H) | (have H2_ := (Option.bind_some _ _).symm.trans H; rw [hy157]; with_reducible exact H2_) | (have H2_ := (Option.bind_some _ _).symm.trans H; with_reducible exact H2_) | with_reducible exact H | (rw [hy157]; exact H) | exact H
     have Ny157 := aS hy157
     clear hy157
     replace H := iB H
     obtain ⟨t161, A15, H⟩ := H
     obtain ⟨ad154, e154, hx154_0, hx154_1, p154, q154⟩ := q19 HB.out HR0.out x10_1 zb zb
     cases e154
     refine iL H ?p16 ?n16 <;> clear H
    case' p16 => intro c16b0 H
    case' n16 => intro c16b0 H
    case' n7 => intro c7 H; subst c7
    case' n3 => intro c3b0 H
    case p8 =>
     obtain rfl := Option.some.inj H
     obtain ⟨ad154, e154, hx154_0, hx154_1, p154, q154⟩ := q19 HB.out HR0.out x10_1 zb zb
     cases e154
     go_wp2_with (first | ((with_reducible refine q07 (N := 4) rfl ?_); refine box0 rfl (N := 4) rfl (cs := #[.string (⟨#[]⟩ : ByteArray), .string (⟨#[]⟩ : ByteArray)]) (t := 122) zh (z7 HB.out) ?_; clear HB; intro gb155 w9 BK155 GW155 HB; have GE155 := GW155; obtain ⟨hczL_0, hczL_1, hfzL_0, hfzL_1⟩ := bk2 BK155.out) | ((with_reducible refine q0j (f := 160) rfl ?_); refine q1d (some 18) rfl rfl Tryd.func160 (by kernel_rfl) rfl #[.string ((q03 l0 x10_1).f0)] rfl zc ?_; (with_reducible refine (dom_attrName.calls ((q03 l0 x10_1).f0) true _ A6.out).mono ?_); rintro e w11 ⟨rfl, hb⟩; refine ⟨_, rfl, ?_⟩; replace BK155 := aS (q02 (g := gb155) (o := .cells #[.string ((q03 l0 x10_1).f0), .string ((q03 l0 x10_1).f1)] 122 (0, 0)) (by (with_reducible repeat (first | refine kN ?_ _ | refine kD ?_ | refine kA ?_ _)); refine q0o (cs := #[.string ((q03 l0 x10_1).f0), .string (⟨#[]⟩ : ByteArray)]) ?_ 1 _ rfl; (with_reducible repeat (first | refine kN ?_ _ | refine kD ?_ | refine kA ?_ _)); refine q0o (cs := #[.string (⟨#[]⟩ : ByteArray), .string (⟨#[]⟩ : ByteArray)]) ?_ 0 _ rfl; (with_reducible repeat (first | refine kN ?_ _ | refine kD ?_ | refine kA ?_ _)); exact BK155.out) hb); replace HB := aS (q01 (z6 HB.out GE155.out) hb); (try clear hb); (try clear hb2); (try clear hk); (try clear hi); obtain ⟨hczL_0, hczL_1, hfzL_0, hfzL_1⟩ := bk2 BK155.out))
     go_ret
     exact ⟨by first | rfl | (simp [q05, q04] <;> rfl) | (simp [*, q05, q04] <;> rfl), by repeat (first | (with_reducible first | exact HB.out | apply bA | apply bN | apply bD | refine bS ?_ GE155.out) | exact HB.out)⟩
    case p16 =>
     obtain rfl := Option.some.inj H
     try go_wp2_with (first | ((with_reducible refine q07 (N := 4) rfl ?_); refine box0 rfl (N := 4) rfl (cs := #[.string (⟨#[]⟩ : ByteArray), .string (⟨#[]⟩ : ByteArray)]) (t := 122) zh (z7 HB.out) ?_; clear HB; intro gb155 w17 BK155 GW155 HB; have GE155 := GW155; obtain ⟨hczL_0, hczL_1, hfzL_0, hfzL_1⟩ := bk2 BK155.out) | ((with_reducible refine q0j (f := 160) rfl ?_); refine q1d (some 18) rfl rfl Tryd.func160 (by kernel_rfl) rfl #[.string ((q03 l0 x10_1).f0)] rfl zc ?_; (with_reducible refine (dom_attrName.calls ((q03 l0 x10_1).f0) true _ A6.out).mono ?_); rintro e w19 ⟨rfl, hb⟩; refine ⟨_, rfl, ?_⟩; replace BK155 := aS (q02 (g := gb155) (o := .cells #[.string ((q03 l0 x10_1).f0), .string ((q03 l0 x10_1).f1)] 122 (0, 0)) (by (with_reducible repeat (first | refine kN ?_ _ | refine kD ?_ | refine kA ?_ _)); refine q0o (cs := #[.string ((q03 l0 x10_1).f0), .string (⟨#[]⟩ : ByteArray)]) ?_ 1 _ rfl; (with_reducible repeat (first | refine kN ?_ _ | refine kD ?_ | refine kA ?_ _)); refine q0o (cs := #[.string (⟨#[]⟩ : ByteArray), .string (⟨#[]⟩ : ByteArray)]) ?_ 0 _ rfl; (with_reducible repeat (first | refine kN ?_ _ | refine kD ?_ | refine kA ?_ _)); exact BK155.out) hb); replace HB := aS (q01 (z6 HB.out GE155.out) hb); (try clear hb); (try clear hb2); (try clear hk); (try clear hi); obtain ⟨hczL_0, hczL_1, hfzL_0, hfzL_1⟩ := bk2 BK155.out))
     have n0_ := aS (q2c BK155.out)
     have n1_ := aS (below_drew1 HB.out)
     clear BK155
     clear HB
     have BK155 := n0_
     have HB := n1_
     clear n0_ n1_
     have q22 : (x10_1 : Int) ≤ ((l0.length : Int) : Int) := od zb
     obtain ⟨i022, hi022, _, hsz22, _⟩ := info_parts q1u
     have hroom22 : l0.length ≤ c0 := HC0.out
     have hC22 : Kd.C k122 _ (some ad154) l0.length l0 := HR0.out
     have hcut22 := cut_to (P := Tryd.prog) 41 122 .i64 Tryd.underlying41 hi022 (some ad154) l0.length c0 x10_1 (od zb) q22 hroom22
     have hr22 := Kd.C_take (m := (x10_1 : Int).toNat) hC22 (by omega)
     have hy22 : y157.length = (x10_1 : Int).toNat := (by rw [Ny157.out, List.length_take]; omega)
     rw [← Ny157.out] at hr22
     rw [← hy22] at hcut22
     have HR160 := aS hr22
     have HC160 := aS (show y157.length ≤ c0 from by omega)
     clear hr22 hC22 hroom22 hi022 hsz22
     have KY22 := aS hy22
     clear hy22
     replace q22 := eq_true q22
     refine start_ (n := 8) (S := fun w' => w'.cell? ⟨gb155, 0, none⟩ = some (.string ((q03 l0 x10_1).f0)) ∧ w'.cell? ⟨gb155, 1, none⟩ = some (.string ((q03 l0 x10_1).f1))) (ds := []) #[false, false, false, false, false, false, false, false] (by kernel_rfl) rfl rfl ⟨(q09 BK155.out 0).trans rfl, (q09 BK155.out 1).trans rfl⟩ (fun hHeld => ?_); refine with_tabW dom_attrs.tab10 dom_attrs.bits10 (fun HT_ HW_ => ?_)
     generalize w19.drew = w21 at BK155 HB HR160 hHeld ⊢
     refine q0n (i := 0) (N := some 26) (v := ?_) (a' := ?_) #[true, false, false, false, false, false, false, false] rfl rfl (q24 HT_.out (by kernel_rfl)) (fun _ _ _ h => h) (Or.inl ⟨by rfl, ?_⟩) ?_ ?_
     rotate_left
     ·intro w'
      go_simp
      with_reducible rfl
     rotate_left
     ·simp only [Act.put, s1, s2, s3, q0d, q0e]
      rfl
     refine q0n (i := 1) (N := some 27) (v := ?_) (a' := ?_) #[true, true, false, false, false, false, false, false] rfl rfl (q24 HT_.out (by kernel_rfl)) (fun _ _ _ h => h) (Or.inl ⟨by rfl, ?_⟩) ?_ ?_
     rotate_left
     ·intro w'
      go_simp
      with_reducible rfl
     rotate_left
     ·simp only [Act.put, s1, s2, s3, q0d, q0e]
      rfl
     refine q0n (i := 2) (N := some 28) (v := ?_) (a' := ?_) #[true, true, true, false, false, false, false, false] rfl rfl (q24 HT_.out (by kernel_rfl)) (fun _ _ _ h => h) (Or.inl ⟨by rfl, ?_⟩) ?_ ?_
     rotate_left
     ·intro w'
      go_simp
      with_reducible rfl
     rotate_left
     ·simp only [Act.put, s1, s2, s3, q0d, q0e]
      rfl
     refine q0n (i := 3) (N := some 29) (v := ?_) (a' := ?_) #[true, true, true, true, false, false, false, false] rfl rfl (q24 HT_.out (by kernel_rfl)) (fun _ _ _ h => h) (Or.inl ⟨by rfl, ?_⟩) ?_ ?_
     rotate_left
     ·intro w'
      go_simp
      with_reducible rfl
     rotate_left
     ·simp only [Act.put, s1, s2, s3, q0d, q0e]
      rfl
     refine take_ (i := 4) (N := some 30) (v := ?_) (a' := ?_) #[true, true, true, true, true, false, false, false] rfl rfl (take_ofW HT_.out HW_.out (by kernel_rfl)) (fun _ _ _ h => h) (Or.inl ⟨by rfl, ?_⟩) hHeld ?_ ?_
     rotate_left
     ·rintro w' ⟨s0, s1⟩
      go_simp
      with_reducible rfl
     rotate_left
     ·simp only [Act.put, s1, s2, s3, q0d, q0e]
      rfl
     refine one_ (i := 5) (N := some 31) #[true, true, true, true, true, true, false, false] rfl rfl (one_of HT_.out (by kernel_rfl)) (by decide) (fun K hK => ?_)
     refine goes_ Tryd.func112 (by kernel_rfl) rfl #[.slice (some ad154) y157.length c0, .string ((q03 l0 x10_1).f0)] (by rfl) rfl rfl zc ?_
     with_reducible refine (dom_find.calls _ _ y157 ((q03 l0 x10_1).f0) t161 _ ?side1 ?side2 A15.out).mono ?_
     (case side1 => repeat (first | exact (Kd.C_below HR160.out HB.out) | (with_reducible refine cA ?_ _) | (with_reducible refine cN ?_ _) | (with_reducible refine cD ?_)))
     (case side2 => exact HC160.out)
     rintro e w23 ⟨rfl, hb⟩
     refine ⟨_, rfl, ?_⟩
     have n0_ := aS (q02 (g := gb155) (o := .cells #[.string ((q03 l0 x10_1).f0), .string ((q03 l0 x10_1).f1)] 122 (0, 0)) (za BK155.out) hb)
     have n1_ := aS (q01 (z6 HB.out GE155.out) hb)
     clear BK155
     clear HB
     have BK155 := n0_
     have HB := n1_
     clear n0_ n1_
     (try clear hb)
     (try clear hb2)
     (try clear hk)
     (try clear hi)
     refine hK.out _ _ ⟨(q09 BK155.out 0).trans rfl, (q09 BK155.out 1).trans rfl⟩ (fun hHeld => ?_)
     clear hK K
     refine q1n (a' := ?_) ?_ ?_
     rotate_left
     ·show Act.put _ (some 31) _ = _
      simp only [Act.put, s1, s2, s3, q0d, q0e]
      rfl
     refine q0n (i := 6) (N := some 32) (v := ?_) (a' := ?_) #[true, true, true, true, true, true, true, false] rfl rfl (q24 HT_.out (by kernel_rfl)) (fun _ _ _ h => h) (Or.inl ⟨by rfl, ?_⟩) ?_ ?_
     rotate_left
     ·intro w'
      go_simp
      with_reducible rfl
     rotate_left
     ·simp only [Act.put, s1, s2, s3, q0d, q0e]
      rfl
     refine q0n (i := 7) (N := some 25) (v := ?_) (a' := ?_) #[true, true, true, true, true, true, true, true] rfl rfl (q24 HT_.out (by kernel_rfl)) (fun _ _ _ h => h) (Or.inl ⟨by rfl, ?_⟩) ?_ ?_
     rotate_left
     ·intro w'
      go_simp
      with_reducible rfl
     rotate_left
     ·simp only [Act.put, s1, s2, s3, q0d, q0e]
      rfl
     refine done_ (done_of HT_.out (by kernel_rfl)) ?_
     try go_wp2
     go_ret
     exact ⟨by first | rfl | (simp [q05, q04] <;> rfl) | (simp [*, q05, q04] <;> rfl), by repeat (first | (with_reducible first | exact HB.out | apply bA | apply bN | apply bD | refine bS ?_ GE155.out) | exact HB.out)⟩
    case n16 =>
     have H' := aS H
     clear H
     try go_wp2_with (first | ((with_reducible refine q07 (N := 4) rfl ?_); refine box0 rfl (N := 4) rfl (cs := #[.string (⟨#[]⟩ : ByteArray), .string (⟨#[]⟩ : ByteArray)]) (t := 122) zh (z7 HB.out) ?_; clear HB; intro gb155 w24 BK155 GW155 HB; have GE155 := GW155; obtain ⟨hczL_0, hczL_1, hfzL_0, hfzL_1⟩ := bk2 BK155.out) | ((with_reducible refine q0j (f := 160) rfl ?_); refine q1d (some 18) rfl rfl Tryd.func160 (by kernel_rfl) rfl #[.string ((q03 l0 x10_1).f0)] rfl zc ?_; (with_reducible refine (dom_attrName.calls ((q03 l0 x10_1).f0) true _ A6.out).mono ?_); rintro e w26 ⟨rfl, hb⟩; refine ⟨_, rfl, ?_⟩; replace BK155 := aS (q02 (g := gb155) (o := .cells #[.string ((q03 l0 x10_1).f0), .string ((q03 l0 x10_1).f1)] 122 (0, 0)) (by (with_reducible repeat (first | refine kN ?_ _ | refine kD ?_ | refine kA ?_ _)); refine q0o (cs := #[.string ((q03 l0 x10_1).f0), .string (⟨#[]⟩ : ByteArray)]) ?_ 1 _ rfl; (with_reducible repeat (first | refine kN ?_ _ | refine kD ?_ | refine kA ?_ _)); refine q0o (cs := #[.string (⟨#[]⟩ : ByteArray), .string (⟨#[]⟩ : ByteArray)]) ?_ 0 _ rfl; (with_reducible repeat (first | refine kN ?_ _ | refine kD ?_ | refine kA ?_ _)); exact BK155.out) hb); replace HB := aS (q01 (z6 HB.out GE155.out) hb); (try clear hb); (try clear hb2); (try clear hk); (try clear hi); obtain ⟨hczL_0, hczL_1, hfzL_0, hfzL_1⟩ := bk2 BK155.out))
     have n0_ := aS (q2c BK155.out)
     have n1_ := aS (below_drew1 HB.out)
     clear BK155
     clear HB
     have BK155 := n0_
     have HB := n1_
     clear n0_ n1_
     have q29 : (x10_1 : Int) ≤ ((l0.length : Int) : Int) := od zb
     obtain ⟨i029, hi029, _, hsz29, _⟩ := info_parts q1u
     have hroom29 : l0.length ≤ c0 := HC0.out
     have hC29 : Kd.C k122 _ (some ad154) l0.length l0 := HR0.out
     have hcut29 := cut_to (P := Tryd.prog) 41 122 .i64 Tryd.underlying41 hi029 (some ad154) l0.length c0 x10_1 (od zb) q29 hroom29
     have hr29 := Kd.C_take (m := (x10_1 : Int).toNat) hC29 (by omega)
     have hy29 : y157.length = (x10_1 : Int).toNat := (by rw [Ny157.out, List.length_take]; omega)
     rw [← Ny157.out] at hr29
     rw [← hy29] at hcut29
     have HR160 := aS hr29
     have HC160 := aS (show y157.length ≤ c0 from by omega)
     clear hr29 hC29 hroom29 hi029 hsz29
     have KY29 := aS hy29
     clear hy29
     replace q29 := eq_true q29
     refine start_ (n := 8) (S := fun w' => w'.cell? ⟨gb155, 0, none⟩ = some (.string ((q03 l0 x10_1).f0)) ∧ w'.cell? ⟨gb155, 1, none⟩ = some (.string ((q03 l0 x10_1).f1))) (ds := []) #[false, false, false, false, false, false, false, false] (by kernel_rfl) rfl rfl ⟨(q09 BK155.out 0).trans rfl, (q09 BK155.out 1).trans rfl⟩ (fun hHeld => ?_); refine with_tabW dom_attrs.tab10 dom_attrs.bits10 (fun HT_ HW_ => ?_)
     generalize w26.drew = w28 at BK155 HB HR160 hHeld ⊢
     refine q0n (i := 0) (N := some 26) (v := ?_) (a' := ?_) #[true, false, false, false, false, false, false, false] rfl rfl (q24 HT_.out (by kernel_rfl)) (fun _ _ _ h => h) (Or.inl ⟨by rfl, ?_⟩) ?_ ?_
     rotate_left
     ·intro w'
      go_simp
      with_reducible rfl
     rotate_left
     ·simp only [Act.put, s1, s2, s3, q0d, q0e]
      rfl
     refine q0n (i := 1) (N := some 27) (v := ?_) (a' := ?_) #[true, true, false, false, false, false, false, false] rfl rfl (q24 HT_.out (by kernel_rfl)) (fun _ _ _ h => h) (Or.inl ⟨by rfl, ?_⟩) ?_ ?_
     rotate_left
     ·intro w'
      go_simp
      with_reducible rfl
     rotate_left
     ·simp only [Act.put, s1, s2, s3, q0d, q0e]
      rfl
     refine q0n (i := 2) (N := some 28) (v := ?_) (a' := ?_) #[true, true, true, false, false, false, false, false] rfl rfl (q24 HT_.out (by kernel_rfl)) (fun _ _ _ h => h) (Or.inl ⟨by rfl, ?_⟩) ?_ ?_
     rotate_left
     ·intro w'
      go_simp
      with_reducible rfl
     rotate_left
     ·simp only [Act.put, s1, s2, s3, q0d, q0e]
      rfl
     refine q0n (i := 3) (N := some 29) (v := ?_) (a' := ?_) #[true, true, true, true, false, false, false, false] rfl rfl (q24 HT_.out (by kernel_rfl)) (fun _ _ _ h => h) (Or.inl ⟨by rfl, ?_⟩) ?_ ?_
     rotate_left
     ·intro w'
      go_simp
      with_reducible rfl
     rotate_left
     ·simp only [Act.put, s1, s2, s3, q0d, q0e]
      rfl
     refine take_ (i := 4) (N := some 30) (v := ?_) (a' := ?_) #[true, true, true, true, true, false, false, false] rfl rfl (take_ofW HT_.out HW_.out (by kernel_rfl)) (fun _ _ _ h => h) (Or.inl ⟨by rfl, ?_⟩) hHeld ?_ ?_
     rotate_left
     ·rintro w' ⟨s0, s1⟩
      go_simp
      with_reducible rfl
     rotate_left
     ·simp only [Act.put, s1, s2, s3, q0d, q0e]
      rfl
     refine one_ (i := 5) (N := some 31) #[true, true, true, true, true, true, false, false] rfl rfl (one_of HT_.out (by kernel_rfl)) (by decide) (fun K hK => ?_)
     refine goes_ Tryd.func112 (by kernel_rfl) rfl #[.slice (some ad154) y157.length c0, .string ((q03 l0 x10_1).f0)] (by rfl) rfl rfl zc ?_
     with_reducible refine (dom_find.calls _ _ y157 ((q03 l0 x10_1).f0) t161 _ ?side1 ?side2 A15.out).mono ?_
     (case side1 => repeat (first | exact (Kd.C_below HR160.out HB.out) | (with_reducible refine cA ?_ _) | (with_reducible refine cN ?_ _) | (with_reducible refine cD ?_)))
     (case side2 => exact HC160.out)
     rintro e w30 ⟨rfl, hb⟩
     refine ⟨_, rfl, ?_⟩
     have n0_ := aS (q02 (g := gb155) (o := .cells #[.string ((q03 l0 x10_1).f0), .string ((q03 l0 x10_1).f1)] 122 (0, 0)) (za BK155.out) hb)
     have n1_ := aS (q01 (z6 HB.out GE155.out) hb)
     clear BK155
     clear HB
     have BK155 := n0_
     have HB := n1_
     clear n0_ n1_
     (try clear hb)
     (try clear hb2)
     (try clear hk)
     (try clear hi)
     refine hK.out _ _ ⟨(q09 BK155.out 0).trans rfl, (q09 BK155.out 1).trans rfl⟩ (fun hHeld => ?_)
     clear hK K
     refine q1n (a' := ?_) ?_ ?_
     rotate_left
     ·show Act.put _ (some 31) _ = _
      simp only [Act.put, s1, s2, s3, q0d, q0e]
      rfl
     refine q0n (i := 6) (N := some 32) (v := ?_) (a' := ?_) #[true, true, true, true, true, true, true, false] rfl rfl (q24 HT_.out (by kernel_rfl)) (fun _ _ _ h => h) (Or.inl ⟨by rfl, ?_⟩) ?_ ?_
     rotate_left
     ·intro w'
      go_simp
      with_reducible rfl
     rotate_left
     ·simp only [Act.put, s1, s2, s3, q0d, q0e]
      rfl
     refine q0n (i := 7) (N := some 25) (v := ?_) (a' := ?_) #[true, true, true, true, true, true, true, true] rfl rfl (q24 HT_.out (by kernel_rfl)) (fun _ _ _ h => h) (Or.inl ⟨by rfl, ?_⟩) ?_ ?_
     rotate_left
     ·intro w'
      go_simp
      with_reducible rfl
     rotate_left
     ·simp only [Act.put, s1, s2, s3, q0d, q0e]
      rfl
     refine done_ (done_of HT_.out (by kernel_rfl)) ?_
     try go_wp2
     go_roundg k1
     case measure => have := HK1.out; omega
     case rel => exact ⟨(wrap64 (x10_1 + 1)), zi, H', ⟨by have := HK1.out; omega⟩, ⟨by repeat (first | (with_reducible first | exact HB.out | apply bA | apply bN | apply bD | refine bS ?_ GE155.out) | exact HB.out)⟩⟩
    case n7 =>
     obtain rfl := Option.some.inj H
     obtain ⟨ad154, e154, hx154_0, hx154_1, p154, q154⟩ := q19 HB.out HR0.out x10_1 zb zb
     cases e154
     go_wp2_with (first | ((with_reducible refine q07 (N := 4) rfl ?_); refine box0 rfl (N := 4) rfl (cs := #[.string (⟨#[]⟩ : ByteArray), .string (⟨#[]⟩ : ByteArray)]) (t := 122) zh (z7 HB.out) ?_; clear HB; intro gb155 w31 BK155 GW155 HB; have GE155 := GW155; obtain ⟨hczL_0, hczL_1, hfzL_0, hfzL_1⟩ := bk2 BK155.out) | ((with_reducible refine q0j (f := 160) rfl ?_); refine q1d (some 18) rfl rfl Tryd.func160 (by kernel_rfl) rfl #[.string ((q03 l0 x10_1).f0)] rfl zc ?_; (with_reducible refine (dom_attrName.calls ((q03 l0 x10_1).f0) false _ A6.out).mono ?_); rintro e w33 ⟨rfl, hb⟩; refine ⟨_, rfl, ?_⟩; replace BK155 := aS (q02 (g := gb155) (o := .cells #[.string ((q03 l0 x10_1).f0), .string ((q03 l0 x10_1).f1)] 122 (0, 0)) (by (with_reducible repeat (first | refine kN ?_ _ | refine kD ?_ | refine kA ?_ _)); refine q0o (cs := #[.string ((q03 l0 x10_1).f0), .string (⟨#[]⟩ : ByteArray)]) ?_ 1 _ rfl; (with_reducible repeat (first | refine kN ?_ _ | refine kD ?_ | refine kA ?_ _)); refine q0o (cs := #[.string (⟨#[]⟩ : ByteArray), .string (⟨#[]⟩ : ByteArray)]) ?_ 0 _ rfl; (with_reducible repeat (first | refine kN ?_ _ | refine kD ?_ | refine kA ?_ _)); exact BK155.out) hb); replace HB := aS (q01 (z6 HB.out GE155.out) hb); (try clear hb); (try clear hb2); (try clear hk); (try clear hi)))
     go_ret
     exact ⟨by first | rfl | (simp [q05, q04] <;> rfl) | (simp [*, q05, q04] <;> rfl), by repeat (first | (with_reducible first | exact HB.out | apply bA | apply bN | apply bD | refine bS ?_ GE155.out) | exact HB.out)⟩
    case n3 =>
     obtain rfl := Option.some.inj H
     go_wp2
     go_ret
     exact ⟨by first | rfl | (simp [q05, q04] <;> rfl) | (simp [*, q05, q04] <;> rfl), by repeat (first | (with_reducible first | exact HB.out | apply bA | apply bN | apply bD) | exact HB.out)⟩
end Go.Proofs.YthjnallbbhnndaaDoor.XDe
namespace Go.Proofs.YthjnallbbhnndaaDoor.XDe
open Go.Proofs.YthjnallbbhnndaaDoor.Short Go.RowKit Go.Proofs.YthjnallbbhnndaaDoorW.PrintWords Go.Proofs.YthjnallbbhnndaaDoorW.PrintLast Go.Proofs.YthjnallbbhnndaaDoorW.PrintMore
attribute [local go_sem] q16 q14 q1g q1f q0s q0r q15 q13   -- for this text's walks alone
set_option linter.unusedVariables false
set_option linter.unusedSimpArgs false
mutual
def dom_one.j1 : Nat → Int → ByteArray → List (S122) → ByteArray → Int → List Int → Option (Int)
 | 0, _, _, _, _, _, _ => none
 | k + 1, x163000, x163001, x163002, x163003, x163004, x163005 => (dom_attrs.f k x163002).bind fun t165 => (if t165 = 0 then (if (x163003.size : Int) > 400 then (some 2) else (if (x163001.size : Int) > 400 then (some 2) else (some 0))) else (some t165))
def dom_one.j0 : Nat → Bool → Int → ByteArray → List (S122) → ByteArray → Int → List Int → Option (Int)
 | 0, _, _, _, _, _, _, _ => none
 | k + 1, x4, x163000, x163001, x163002, x163003, x163004, x163005 => if x4 = true then (some 7) else (if x163000 = 2 then ((dom_Name.f x163001).bind fun t164 => (if t164 = true then (dom_one.j1 k x163000 x163001 x163002 x163003 x163004 x163005) else (some 3))) else (dom_one.j1 k x163000 x163001 x163002 x163003 x163004 x163005))
end
def dom_one.f (k : Nat) (a0_0 : Int) (a0_1 : ByteArray) (l0_2 : List (S122)) (a0_3 : ByteArray) (a0_4 : Int) (l0_5 : List Int) : Option (Int) := if a0_0 < 1 then (dom_one.j0 k true a0_0 a0_1 l0_2 a0_3 a0_4 l0_5) else (if a0_0 > 5 then (dom_one.j0 k true a0_0 a0_1 l0_2 a0_3 a0_4 l0_5) else ((dom_bare.f a0_0 a0_1 l0_2 a0_3 a0_4 l0_5).bind fun t163 => (dom_one.j0 k (!t163) a0_0 a0_1 l0_2 a0_3 a0_4 l0_5)))
theorem dom_one.mono_l : ∀ k, (∀ y0 y1 y2 y3 y4 y5, LeO (dom_one.j1 k y0 y1 y2 y3 y4 y5) (dom_one.j1 (k + 1) y0 y1 y2 y3 y4 y5)) ∧ (∀ y0 y1 y2 y3 y4 y5 y6, LeO (dom_one.j0 k y0 y1 y2 y3 y4 y5 y6) (dom_one.j0 (k + 1) y0 y1 y2 y3 y4 y5 y6))
 | 0 => ⟨fun _ _ _ _ _ _ r h => by simp [dom_one.j1] at h, fun _ _ _ _ _ _ _ r h => by simp [dom_one.j0] at h⟩
 | k + 1 => by
  obtain ⟨ih0, ih1⟩ := dom_one.mono_l k
  refine ⟨?_, ?_⟩
  all_goals intros
  all_goals (first | unfold dom_one.j1 | unfold dom_one.j0)
  all_goals (repeat' first | with_reducible first | apply ih0 | apply ih1 | apply dom_attrs.mono | exact LeO.refl _ | exact LeO.none _ | refine LeO.ite ?_ ?_ | refine LeO.bind ?_ (fun _ => ?_) | (first | apply ih0 | apply ih1 | apply dom_attrs.mono | exact LeO.none _ | refine LeO.ite ?_ ?_ | refine LeO.bind ?_ (fun _ => ?_)))
theorem dom_one.mono : ∀ a0 a1 a2 a3 a4 a5 k, LeO (dom_one.f k a0 a1 a2 a3 a4 a5) (dom_one.f (k + 1) a0 a1 a2 a3 a4 a5) := by
 intro a0 a1 a2 a3 a4 a5 k
 obtain ⟨ih0, ih1⟩ := dom_one.mono_l k
 unfold dom_one.f
 repeat' first | with_reducible first | apply ih0 | apply ih1 | apply dom_attrs.mono | exact LeO.refl _ | exact LeO.none _ | refine LeO.ite ?_ ?_ | refine LeO.bind ?_ (fun _ => ?_) | (first | apply ih0 | apply ih1 | apply dom_attrs.mono | exact LeO.none _ | refine LeO.ite ?_ ?_ | refine LeO.bind ?_ (fun _ => ?_))
set_option maxHeartbeats 8000000 in
set_option maxRecDepth 100000 in
theorem dom_one.calls (k : Nat) (a0_0 : Int) (a0_1 : ByteArray) (A0_2 : Option Addr) (c0_2 : Nat) (l0_2 : List (S122)) (a0_3 : ByteArray) (a0_4 : Int) (A0_5 : Option Addr) (c0_5 : Nat) (l0_5 : List Int) (r : Int) (w : World) (hr0_2 : Kd.C k122 w A0_2 l0_2.length l0_2) (hc0_2 : l0_2.length ≤ c0_2) (hr0_5 : Kd.C (Kd.int .i64) w A0_5 l0_5.length l0_5) (hc0_5 : l0_5.length ≤ c0_5) (h : dom_one.f k a0_0 a0_1 l0_2 a0_3 a0_4 l0_5 = some r) :
 Calls Tryd.prog 100 #[.agg #[.int .i64 a0_0, .string a0_1, .slice A0_2 l0_2.length c0_2, .string a0_3, .int .i64 a0_4, .slice A0_5 l0_5.length c0_5]] w fun e w' => e = .returned (.int .i64 r) ∧ Below w.heap.size w w' := by
 have hu43 := Tryd.underlying43
 have HR0_2 := aS hr0_2
 have HC0_2 := aS hc0_2
 clear hr0_2 hc0_2
 have HR0_5 := aS hr0_5
 have HC0_5 := aS hc0_5
 clear hr0_5 hc0_5
 have HB := aS (Below.refl w.heap.size w)
 have H := h; clear h; unfold dom_one.f at H
 have HC2 := aS H
 clear H
 go_enter Tryd.func100, Tryd.ntmps100
 go_upto_block 0 with (first | ((with_reducible refine q07 (N := 1) rfl ?_); (try (refine q12 (by rfl) ?_; dsimp only)); refine box0 rfl (N := 1) rfl (cs := #[.int .i64 a0_0, .string a0_1, .slice A0_2 l0_2.length c0_2, .string a0_3, .int .i64 a0_4, .slice A0_5 l0_5.length c0_5]) (t := 43) zh (z7 HB.out) ?_; clear HB; intro gb162 w3 BK162 GW162 HB; have GE162 := GW162))
 (try simp only [Act.put, s1, s2, s3])
 go_cut [] (fun wc => ∃ (kq : Nat), Aside0 (dom_one.j1 kq a0_0 a0_1 l0_2 a0_3 a0_4 l0_5 = some r) ∧ Aside0 (kq ≤ k) ∧ Aside0 (wc.heap[gb162]? = some (.cells #[.int .i64 a0_0, .string a0_1, (.slice A0_2 l0_2.length c0_2), .string a0_3, .int .i64 a0_4, (.slice A0_5 l0_5.length c0_5)] 43 (0, 0))) ∧ Aside0 (Below w.heap.size w wc))
 case first =>
  have H := HC2.out
  clear HC2
  have HC4 := aS H
  clear H
  go_upto_region 1 with (fail)
  go_cut [4] (fun v4 wc => ∃ (kq : Nat) (x4_3 : Bool), v4 = .bool x4_3 ∧ Aside0 (dom_one.j0 kq x4_3 a0_0 a0_1 l0_2 a0_3 a0_4 l0_5 = some r) ∧ Aside0 (kq ≤ k) ∧ Aside0 (wc.heap[gb162]? = some (.cells #[.int .i64 a0_0, .string a0_1, (.slice A0_2 l0_2.length c0_2), .string a0_3, .int .i64 a0_4, (.slice A0_5 l0_5.length c0_5)] 43 (0, 0))) ∧ Aside0 (Below w.heap.size w wc))
  case first =>
   have H := HC4.out
   clear HC4
   refine iT H ?p5 ?n5 <;> clear H
   case' p5 => intro c5b0 H
   case' n5 => intro c5b0 H; (first | rw [c5b0] | (simp only [q0d, q0e]; rw [c5b0]) | skip); refine iT H ?p7 ?n7 <;> clear H
   case' p7 => intro c7b0 H
   case' n7 => intro c7b0 H
   case p5 =>
    (first | rw [c5b0] | (simp only [q0d, q0e]; rw [c5b0]) | skip)
    have H' := aS H
    clear H
    obtain ⟨hczL_0, hczL_1, hczL_2, hczL_3, hczL_4, hczL_5, hfzL_0, hfzL_1, hfzL_2, hfzL_3, hfzL_4, hfzL_5⟩ := bk6 BK162.out
    go_wp2
    go_meet
    case rel => exact ⟨_, _, zi, H', ⟨by first | omega | exact Nat.le_refl _⟩, ⟨by (with_reducible repeat (first | refine kN ?_ _ | refine kD ?_ | refine kA ?_ _)); exact BK162.out⟩, ⟨by repeat (first | (with_reducible first | exact HB.out | apply bA | apply bN | apply bD | refine bS ?_ GE162.out) | exact HB.out)⟩⟩
   case p7 =>
    have H' := aS H
    clear H
    obtain ⟨hczL_0, hczL_1, hczL_2, hczL_3, hczL_4, hczL_5, hfzL_0, hfzL_1, hfzL_2, hfzL_3, hfzL_4, hfzL_5⟩ := bk6 BK162.out
    go_wp2
    go_meet
    case rel => exact ⟨_, _, zi, H', ⟨by first | omega | exact Nat.le_refl _⟩, ⟨by (with_reducible repeat (first | refine kN ?_ _ | refine kD ?_ | refine kA ?_ _)); exact BK162.out⟩, ⟨by repeat (first | (with_reducible first | exact HB.out | apply bA | apply bN | apply bD | refine bS ?_ GE162.out) | exact HB.out)⟩⟩
   case n7 =>
    replace H := iB H
    obtain ⟨t163, A9, H⟩ := H
    have H' := aS H
    clear H
    obtain ⟨hczL_0, hczL_1, hczL_2, hczL_3, hczL_4, hczL_5, hfzL_0, hfzL_1, hfzL_2, hfzL_3, hfzL_4, hfzL_5⟩ := bk6 BK162.out
    go_wp2_with (first | (go_at_call 135; (with_reducible refine (dom_bare.calls a0_0 a0_1 _ _ l0_2 a0_3 a0_4 _ _ l0_5 t163 _ ?side1 ?side2 ?side3 ?side4 A9.out).mono ?_); (case side1 => repeat (first | exact (Kd.C_below HR0_2.out HB.out) | (with_reducible refine cA ?_ _) | (with_reducible refine cN ?_ _) | (with_reducible refine cD ?_))); (case side2 => exact HC0_2.out); (case side3 => repeat (first | exact (Kd.C_below HR0_5.out HB.out) | (with_reducible refine cA ?_ _) | (with_reducible refine cN ?_ _) | (with_reducible refine cD ?_))); (case side4 => exact HC0_5.out); rintro e w11 ⟨rfl, hb⟩; replace BK162 := aS (q02 (g := gb162) (o := .cells #[.int .i64 a0_0, .string a0_1, .slice A0_2 l0_2.length c0_2, .string a0_3, .int .i64 a0_4, .slice A0_5 l0_5.length c0_5] 43 (0, 0)) (za BK162.out) hb); replace HB := aS (q01 (z6 HB.out GE162.out) hb); (try clear hb); (try clear hb2); (try clear hk); (try clear hi)))
    go_meet
    case rel => exact ⟨_, (!t163), zi, H', ⟨by first | omega | exact Nat.le_refl _⟩, ⟨by (with_reducible repeat (first | refine kN ?_ _ | refine kD ?_ | refine kA ?_ _)); exact BK162.out⟩, ⟨by repeat (first | (with_reducible first | exact HB.out | apply bA | apply bN | apply bD | refine bS ?_ GE162.out) | exact HB.out)⟩⟩
  case rest =>
   clear HC4
   obtain ⟨kq, x4_3, rfl, HA, HJ3, BK162, HB⟩ := hcut
   cases kq with
   | zero => exact absurd HA.out (by simp [dom_one.j0])
   | succ kj3 =>
    have H := HA.out
    clear HA
    simp only [dom_one.j0] at H
    refine iV H ?p12 ?n12 <;> clear H
    case' p12 => intro c12 H; subst c12
    case' n12 =>
     intro c12 H; subst c12
     obtain ⟨hczL_0, hczL_1, hczL_2, hczL_3, hczL_4, hczL_5, hfzL_0, hfzL_1, hfzL_2, hfzL_3, hfzL_4, hfzL_5⟩ := bk6 BK162.out
     refine iE H ?p13 ?n13 <;> clear H
    case' p13 => intro c13b0 c13b1 H; replace H := iB H; obtain ⟨t164, A14, H⟩ := H; refine iV H ?p15 ?n15 <;> clear H
    case' p15 => intro c15 H; subst c15
    case' n15 => intro c15 H; subst c15
    case' n13 => intro c13 c13b0 c13b1 H
    case p12 =>
     obtain rfl := Option.some.inj H
     go_wp2
     go_ret
     exact ⟨by first | rfl | (simp [q05, q04] <;> rfl) | (simp [*, q05, q04] <;> rfl), by repeat (first | (with_reducible first | exact HB.out | apply bA | apply bN | apply bD | refine bS ?_ GE162.out) | exact HB.out)⟩
    case p15 =>
     have H' := aS H
     clear H
     go_wp2_with (first | (go_at_call 136; (with_reducible refine (dom_Name.calls a0_1 true _ A14.out).mono ?_); rintro e w17 ⟨rfl, hb⟩; replace BK162 := aS (q02 (g := gb162) (o := .cells #[.int .i64 a0_0, .string a0_1, .slice A0_2 l0_2.length c0_2, .string a0_3, .int .i64 a0_4, .slice A0_5 l0_5.length c0_5] 43 (0, 0)) (za BK162.out) hb); replace HB := aS (q01 (z6 HB.out GE162.out) hb); (try clear hb); (try clear hb2); (try clear hk); (try clear hi)))
     go_meet
     case rel => exact ⟨_, H', ⟨by have := HJ3.out; first | omega | exact Nat.le_refl _⟩, ⟨by (with_reducible repeat (first | refine kN ?_ _ | refine kD ?_ | refine kA ?_ _)); exact BK162.out⟩, ⟨by repeat (first | (with_reducible first | exact HB.out | apply bA | apply bN | apply bD | refine bS ?_ GE162.out) | exact HB.out)⟩⟩
    case n15 =>
     obtain rfl := Option.some.inj H
     go_wp2_with (first | (go_at_call 136; (with_reducible refine (dom_Name.calls a0_1 false _ A14.out).mono ?_); rintro e w19 ⟨rfl, hb⟩; replace BK162 := aS (q02 (g := gb162) (o := .cells #[.int .i64 a0_0, .string a0_1, .slice A0_2 l0_2.length c0_2, .string a0_3, .int .i64 a0_4, .slice A0_5 l0_5.length c0_5] 43 (0, 0)) (za BK162.out) hb); replace HB := aS (q01 (z6 HB.out GE162.out) hb); (try clear hb); (try clear hb2); (try clear hk); (try clear hi)))
     go_ret
     exact ⟨by first | rfl | (simp [q05, q04] <;> rfl) | (simp [*, q05, q04] <;> rfl), by repeat (first | (with_reducible first | exact HB.out | apply bA | apply bN | apply bD | refine bS ?_ GE162.out) | exact HB.out)⟩
    case n13 =>
     have H' := aS H
     clear H
     go_wp2
     go_meet
     case rel => exact ⟨_, H', ⟨by have := HJ3.out; first | omega | exact Nat.le_refl _⟩, ⟨by (with_reducible repeat (first | refine kN ?_ _ | refine kD ?_ | refine kA ?_ _)); exact BK162.out⟩, ⟨by repeat (first | (with_reducible first | exact HB.out | apply bA | apply bN | apply bD | refine bS ?_ GE162.out) | exact HB.out)⟩⟩
 case rest =>
  clear HC2
  obtain ⟨kq, HA, HJ1, BK162, HB⟩ := hcut
  cases kq with
  | zero => exact absurd HA.out (by simp [dom_one.j1])
  | succ kj1 =>
   have H := HA.out
   clear HA
   simp only [dom_one.j1] at H
   replace H := iB H
   obtain ⟨t165, A21, H⟩ := H
   obtain ⟨hczL_0, hczL_1, hczL_2, hczL_3, hczL_4, hczL_5, hfzL_0, hfzL_1, hfzL_2, hfzL_3, hfzL_4, hfzL_5⟩ := bk6 BK162.out
   refine iE H ?p22 ?n22 <;> clear H
   case' p22 => intro c22b0 c22b1 H; refine iTN (m := 400) (n := a0_3.size) H rfl rfl ?p23 ?n23 <;> clear H
   case' p23 => intro c23b0 c23b1 H
   case' n23 => intro c23b0 c23b1 H; refine iTN (m := 400) (n := a0_1.size) H rfl rfl ?p27 ?n27 <;> clear H
   case' p27 => intro c27b0 c27b1 H
   case' n27 => intro c27b0 c27b1 H
   case' n22 => intro c22 c22b0 c22b1 H
   case p23 =>
    obtain rfl := Option.some.inj H
    go_wp2_with (first | ((with_reducible refine q0j (f := 137) rfl ?_); refine q1d (some 30) rfl rfl Tryd.func137 (by kernel_rfl) rfl #[.slice A0_2 l0_2.length c0_2] rfl zc ?_; (with_reducible refine (dom_attrs.calls kj1 _ _ l0_2 t165 _ ?side1 ?side2 A21.out).mono ?_); (case side1 => repeat (first | exact (Kd.C_below HR0_2.out HB.out) | (with_reducible refine cA ?_ _) | (with_reducible refine cN ?_ _) | (with_reducible refine cD ?_))); (case side2 => exact HC0_2.out); rintro e w25 ⟨rfl, hb⟩; refine ⟨_, rfl, ?_⟩; replace BK162 := aS (q02 (g := gb162) (o := .cells #[.int .i64 a0_0, .string a0_1, .slice A0_2 l0_2.length c0_2, .string a0_3, .int .i64 a0_4, .slice A0_5 l0_5.length c0_5] 43 (0, 0)) (za BK162.out) hb); replace HB := aS (q01 (z6 HB.out GE162.out) hb); (try clear hb); (try clear hb2); (try clear hk); (try clear hi); obtain ⟨hczL_0, hczL_1, hczL_2, hczL_3, hczL_4, hczL_5, hfzL_0, hfzL_1, hfzL_2, hfzL_3, hfzL_4, hfzL_5⟩ := bk6 BK162.out))
    go_ret
    exact ⟨by first | rfl | (simp [q05, q04] <;> rfl) | (simp [*, q05, q04] <;> rfl), by repeat (first | (with_reducible first | exact HB.out | apply bA | apply bN | apply bD | refine bS ?_ GE162.out) | exact HB.out)⟩
   case p27 =>
    obtain rfl := Option.some.inj H
    go_wp2_with (first | ((with_reducible refine q0j (f := 137) rfl ?_); refine q1d (some 30) rfl rfl Tryd.func137 (by kernel_rfl) rfl #[.slice A0_2 l0_2.length c0_2] rfl zc ?_; (with_reducible refine (dom_attrs.calls kj1 _ _ l0_2 t165 _ ?side1 ?side2 A21.out).mono ?_); (case side1 => repeat (first | exact (Kd.C_below HR0_2.out HB.out) | (with_reducible refine cA ?_ _) | (with_reducible refine cN ?_ _) | (with_reducible refine cD ?_))); (case side2 => exact HC0_2.out); rintro e w29 ⟨rfl, hb⟩; refine ⟨_, rfl, ?_⟩; replace BK162 := aS (q02 (g := gb162) (o := .cells #[.int .i64 a0_0, .string a0_1, .slice A0_2 l0_2.length c0_2, .string a0_3, .int .i64 a0_4, .slice A0_5 l0_5.length c0_5] 43 (0, 0)) (za BK162.out) hb); replace HB := aS (q01 (z6 HB.out GE162.out) hb); (try clear hb); (try clear hb2); (try clear hk); (try clear hi); obtain ⟨hczL_0, hczL_1, hczL_2, hczL_3, hczL_4, hczL_5, hfzL_0, hfzL_1, hfzL_2, hfzL_3, hfzL_4, hfzL_5⟩ := bk6 BK162.out))
    go_ret
    exact ⟨by first | rfl | (simp [q05, q04] <;> rfl) | (simp [*, q05, q04] <;> rfl), by repeat (first | (with_reducible first | exact HB.out | apply bA | apply bN | apply bD | refine bS ?_ GE162.out) | exact HB.out)⟩
   case n27 =>
    obtain rfl := Option.some.inj H
    go_wp2_with (first | ((with_reducible refine q0j (f := 137) rfl ?_); refine q1d (some 30) rfl rfl Tryd.func137 (by kernel_rfl) rfl #[.slice A0_2 l0_2.length c0_2] rfl zc ?_; (with_reducible refine (dom_attrs.calls kj1 _ _ l0_2 t165 _ ?side1 ?side2 A21.out).mono ?_); (case side1 => repeat (first | exact (Kd.C_below HR0_2.out HB.out) | (with_reducible refine cA ?_ _) | (with_reducible refine cN ?_ _) | (with_reducible refine cD ?_))); (case side2 => exact HC0_2.out); rintro e w32 ⟨rfl, hb⟩; refine ⟨_, rfl, ?_⟩; replace BK162 := aS (q02 (g := gb162) (o := .cells #[.int .i64 a0_0, .string a0_1, .slice A0_2 l0_2.length c0_2, .string a0_3, .int .i64 a0_4, .slice A0_5 l0_5.length c0_5] 43 (0, 0)) (za BK162.out) hb); replace HB := aS (q01 (z6 HB.out GE162.out) hb); (try clear hb); (try clear hb2); (try clear hk); (try clear hi); obtain ⟨hczL_0, hczL_1, hczL_2, hczL_3, hczL_4, hczL_5, hfzL_0, hfzL_1, hfzL_2, hfzL_3, hfzL_4, hfzL_5⟩ := bk6 BK162.out))
    go_ret
    exact ⟨by first | rfl | (simp [q05, q04] <;> rfl) | (simp [*, q05, q04] <;> rfl), by repeat (first | (with_reducible first | exact HB.out | apply bA | apply bN | apply bD | refine bS ?_ GE162.out) | exact HB.out)⟩
   case n22 =>
    obtain rfl := Option.some.inj H
    go_wp2_with (first | ((with_reducible refine q0j (f := 137) rfl ?_); refine q1d (some 30) rfl rfl Tryd.func137 (by kernel_rfl) rfl #[.slice A0_2 l0_2.length c0_2] rfl zc ?_; (with_reducible refine (dom_attrs.calls kj1 _ _ l0_2 t165 _ ?side1 ?side2 A21.out).mono ?_); (case side1 => repeat (first | exact (Kd.C_below HR0_2.out HB.out) | (with_reducible refine cA ?_ _) | (with_reducible refine cN ?_ _) | (with_reducible refine cD ?_))); (case side2 => exact HC0_2.out); rintro e w35 ⟨rfl, hb⟩; refine ⟨_, rfl, ?_⟩; replace BK162 := aS (q02 (g := gb162) (o := .cells #[.int .i64 a0_0, .string a0_1, .slice A0_2 l0_2.length c0_2, .string a0_3, .int .i64 a0_4, .slice A0_5 l0_5.length c0_5] 43 (0, 0)) (za BK162.out) hb); replace HB := aS (q01 (z6 HB.out GE162.out) hb); (try clear hb); (try clear hb2); (try clear hk); (try clear hi)))
    go_ret
    exact ⟨by first | rfl | (simp [q05, q04] <;> rfl) | (simp [*, q05, q04] <;> rfl), by repeat (first | (with_reducible first | exact HB.out | apply bA | apply bN | apply bD | refine bS ?_ GE162.out) | exact HB.out)⟩
end Go.Proofs.YthjnallbbhnndaaDoor.XDe
namespace Go.Proofs.YthjnallbbhnndaaDoor.XDe
open Go.Proofs.YthjnallbbhnndaaDoor.Short Go.RowKit Go.Proofs.YthjnallbbhnndaaDoorW.PrintWords Go.Proofs.YthjnallbbhnndaaDoorW.PrintLast Go.Proofs.YthjnallbbhnndaaDoorW.PrintMore
attribute [local go_sem] q16 q14 q1g q1f q0s q0r q15 q13   -- for this text's walks alone
set_option linter.unusedVariables false
set_option linter.unusedSimpArgs false
mutual
def dom_kids.l0 : Nat → List Bool → List (S43) → Int → Int → List (S43) → Bool → Option (Int)
 | 0, _, _, _, _, _, _ => none
 | k + 1, x3, x15, x16, x17, x167000, x167001 => if x17 < x16 then (if 0 ≤ x17 then (if x17 < (x15.length : Int) then (dom_kids.l1 k x3 x17 x15 x16 x17 ((q00 x15 x17).f5) (((q00 x15 x17).f5).length : Int) 0 x167000 x167001) else (none)) else (none)) else (dom_kids.l2 k x3 x167000 (x167000.length : Int) 0 x167000 x167001)
def dom_kids.l1 : Nat → List Bool → Int → List (S43) → Int → Int → List Int → Int → Int → List (S43) → Bool → Option (Int)
 | 0, _, _, _, _, _, _, _, _, _, _ => none
 | k + 1, x3, x4, x15, x16, x17, x23, x24, x25, x167000, x167001 => if x25 < x24 then (if 0 ≤ x25 then (if x25 < (x23.length : Int) then (if (rd x23 x25) < 0 then (dom_kids.j2 k x3 x4 (rd x23 x25) x15 x16 x17 x23 x24 x25 true x167000 x167001) else (if (rd x23 x25) ≥ (x3.length : Int) then (dom_kids.j2 k x3 x4 (rd x23 x25) x15 x16 x17 x23 x24 x25 true x167000 x167001) else (if 0 ≤ (rd x23 x25) then (if (rd x23 x25) < (x167000.length : Int) then (if ((q00 x167000 (rd x23 x25)).f4) = x4 then (if (rd x23 x25) < (x3.length : Int) then (dom_kids.j2 k x3 x4 (rd x23 x25) x15 x16 x17 x23 x24 x25 (rdOf false x3 (rd x23 x25)) x167000 x167001) else (none)) else (dom_kids.j2 k x3 x4 (rd x23 x25) x15 x16 x17 x23 x24 x25 true x167000 x167001)) else (none)) else (none)))) else (none)) else (none)) else (dom_kids.l0 k x3 x15 x16 (wrap64 (x17 + 1)) x167000 x167001)
def dom_kids.j2 : Nat → List Bool → Int → Int → List (S43) → Int → Int → List Int → Int → Int → Bool → List (S43) → Bool → Option (Int)
 | 0, _, _, _, _, _, _, _, _, _, _, _, _ => none
 | k + 1, x3, x4, x7, x15, x16, x17, x23, x24, x25, x29, x167000, x167001 => if x29 = true then (some 3) else (if x4 = 0 then (if 0 ≤ x7 then (if x7 < (x167000.length : Int) then (if ((q00 x167000 x7).f0) = 3 then (some 7) else (if x7 < (x3.length : Int) then (dom_kids.l1 k (x3.set (x7 : Int).toNat true) x4 x15 x16 x17 x23 x24 (wrap64 (x25 + 1)) x167000 x167001) else (none))) else (none)) else (none)) else (if 0 ≤ x7 then (if x7 < (x3.length : Int) then (dom_kids.l1 k (x3.set (x7 : Int).toNat true) x4 x15 x16 x17 x23 x24 (wrap64 (x25 + 1)) x167000 x167001) else (none)) else (none)))
def dom_kids.l2 : Nat → List Bool → List (S43) → Int → Int → List (S43) → Bool → Option (Int)
 | 0, _, _, _, _, _, _ => none
 | k + 1, x3, x72, x73, x74, x167000, x167001 => if x74 < x73 then (if 0 ≤ x74 then (if x74 < (x72.length : Int) then (if ((q00 x72 x74).f4) = (-1) then (dom_kids.l2 k x3 x72 x73 (wrap64 (x74 + 1)) x167000 x167001) else (if x74 < (x3.length : Int) then (if rdOf false x3 x74 = true then (dom_kids.l2 k x3 x72 x73 (wrap64 (x74 + 1)) x167000 x167001) else (some 3)) else (none))) else (none)) else (none)) else (if 0 < (x167000.length : Int) then (if ((q00 x167000 0).f4) = (-1) then (some 0) else (some 3)) else (none))
end
def dom_kids.f (k : Nat) (l0_0 : List (S43)) (a0_1 : Bool) : Option (Int) := if 0 ≤ (l0_0.length : Int) then (if ((l0_0.length : Int) : Int).toNat ≤ 281474976710656 then (dom_kids.l0 k (List.replicate ((l0_0.length : Int) : Int).toNat false) l0_0 (l0_0.length : Int) 0 l0_0 a0_1) else (none)) else (none)
theorem dom_kids.mono_l : ∀ k, (∀ y0 y1 y2 y3 y4 y5, LeO (dom_kids.l0 k y0 y1 y2 y3 y4 y5) (dom_kids.l0 (k + 1) y0 y1 y2 y3 y4 y5)) ∧ (∀ y0 y1 y2 y3 y4 y5 y6 y7 y8 y9, LeO (dom_kids.l1 k y0 y1 y2 y3 y4 y5 y6 y7 y8 y9) (dom_kids.l1 (k + 1) y0 y1 y2 y3 y4 y5 y6 y7 y8 y9)) ∧ (∀ y0 y1 y2 y3 y4 y5 y6 y7 y8 y9 y10 y11, LeO (dom_kids.j2 k y0 y1 y2 y3 y4 y5 y6 y7 y8 y9 y10 y11) (dom_kids.j2 (k + 1) y0 y1 y2 y3 y4 y5 y6 y7 y8 y9 y10 y11)) ∧ (∀ y0 y1 y2 y3 y4 y5, LeO (dom_kids.l2 k y0 y1 y2 y3 y4 y5) (dom_kids.l2 (k + 1) y0 y1 y2 y3 y4 y5))
 | 0 => ⟨fun _ _ _ _ _ _ r h => by simp [dom_kids.l0] at h, fun _ _ _ _ _ _ _ _ _ _ r h => by simp [dom_kids.l1] at h, fun _ _ _ _ _ _ _ _ _ _ _ _ r h => by simp [dom_kids.j2] at h, fun _ _ _ _ _ _ r h => by simp [dom_kids.l2] at h⟩
 | k + 1 => by
  obtain ⟨ih0, ih1, ih2, ih3⟩ := dom_kids.mono_l k
  refine ⟨?_, ?_, ?_, ?_⟩
  all_goals intros
  all_goals (first | unfold dom_kids.l0 | unfold dom_kids.l1 | unfold dom_kids.j2 | unfold dom_kids.l2)
  all_goals (repeat' first | with_reducible first | apply ih0 | apply ih1 | apply ih2 | apply ih3 | exact LeO.refl _ | exact LeO.none _ | refine LeO.ite ?_ ?_ | refine LeO.bind ?_ (fun _ => ?_) | (first | apply ih0 | apply ih1 | apply ih2 | apply ih3 | exact LeO.none _ | refine LeO.ite ?_ ?_ | refine LeO.bind ?_ (fun _ => ?_)))
theorem dom_kids.mono : ∀ a0 a1 k, LeO (dom_kids.f k a0 a1) (dom_kids.f (k + 1) a0 a1) := by
 intro a0 a1 k
 obtain ⟨ih0, ih1, ih2, ih3⟩ := dom_kids.mono_l k
 unfold dom_kids.f
 repeat' first | with_reducible first | apply ih0 | apply ih1 | apply ih2 | apply ih3 | exact LeO.refl _ | exact LeO.none _ | refine LeO.ite ?_ ?_ | refine LeO.bind ?_ (fun _ => ?_) | (first | apply ih0 | apply ih1 | apply ih2 | apply ih3 | exact LeO.none _ | refine LeO.ite ?_ ?_ | refine LeO.bind ?_ (fun _ => ?_))
set_option maxHeartbeats 8000000 in
set_option maxRecDepth 100000 in
theorem dom_kids.calls (k : Nat) (A0_0 : Option Addr) (c0_0 : Nat) (l0_0 : List (S43)) (a0_1 : Bool) (r : Int) (w : World) (hr0_0 : Kd.C k43 w A0_0 l0_0.length l0_0) (hc0_0 : l0_0.length ≤ c0_0) (h : dom_kids.f k l0_0 a0_1 = some r) :
 Calls Tryd.prog 101 #[.agg #[.slice A0_0 l0_0.length c0_0, .bool a0_1]] w fun e w' => e = .returned (.int .i64 r) ∧ Below w.heap.size w w' := by
 have hu24 := Tryd.underlying24
 have hu43 := Tryd.underlying43
 have HR0_0 := aS hr0_0
 have HC0_0 := aS hc0_0
 clear hr0_0 hc0_0
 have HB := aS (Below.refl w.heap.size w)
 have H := h; clear h; unfold dom_kids.f at H
 refine iGp H ?_; clear H; intro c2 H
 have c2b0 := eq_true c2
 have c2b1 : decide (0 ≤ (l0_0.length : Int)) = true := decide_eq_true c2
 clear c2
 refine iGp H ?_; clear H; intro c3 H
 have c3b0 := eq_true c3
 have c3b1 : decide (((l0_0.length : Int) : Int).toNat ≤ 281474976710656) = true := decide_eq_true c3
 clear c3
 obtain ⟨y167, hy167⟩ : ∃ y_ : List Bool, y_ = (List.replicate ((l0_0.length : Int) : Int).toNat false) := ⟨_, rfl⟩
 replace H : (dom_kids.l0 k y167 l0_0 (l0_0.length : Int) 0 l0_0 a0_1) = some r := by first | (rw [hy167]; with_reducible exact H) | (have H2_ := (Option.bind_some _ _).symm.trans H; rw [hy167]; with_reducible exact H2_) | (have H2_ := (Option.bind_some _ _).symm.trans H; with_reducible exact H2_) | with_reducible exact H | (rw [hy167]; exact H) | exact H
 have Ny167 := aS hy167
 clear hy167
 have H' := aS H
 clear H
 go_enter Tryd.func101, Tryd.ntmps101
 go_wp2_with (first | ((with_reducible refine q07 (N := 1) rfl ?_); (try (refine q12 (by rfl) ?_; dsimp only)); refine box0 rfl (N := 1) rfl (cs := #[.slice A0_0 l0_0.length c0_0, .bool a0_1]) (t := 24) zh (z7 HB.out) ?_; clear HB; intro gb166 w4 BK166 GW166 HB; have GE166 := GW166; obtain ⟨hczL_0, hczL_1, hfzL_0, hfzL_1⟩ := bk2 BK166.out) | ((with_reducible refine q07 (N := 13) rfl ?_); (try (refine q12 (by rfl) ?_; dsimp only)); refine Kd.R_make Kd.bool _ 4 rfl (N := 13) rfl 186 _ _ rfl (l0_0.length : Int) rfl rfl Tryd.underlying186 (.bool false) 1 info4 rfl (by decide) (by omega) false (ok := fun _ => True) (okp := fun _ => True) rfl (fun _ hk => hk) trivial (od zb) (Nat.le_trans (Nat.mul_le_mul_right _ (od zb : (l0_0.length : Int).toNat ≤ 281474976710656)) (by omega)) (Below.refl _ _) (Nat.le_refl _) ?_; intro v168 w6 ho7 hb hg_ hnew_; clear hg_ hnew_; (first | rw [← Ny167.out] at ho7 | (simp only [Int.reduceToNat] at ho7; rw [← Ny167.out] at ho7)); have HO169 := aS (Kd.R_lower ho7 (q0c (z6 HB.out GE166.out))); replace BK166 := aS (q02 (g := gb166) (o := .cells #[.slice A0_0 l0_0.length c0_0, .bool a0_1] 24 (0, 0)) (za BK166.out) hb); replace HB := aS (q01 (z6 HB.out GE166.out) hb); clear hb ho7; obtain ⟨hczL_0, hczL_1, hfzL_0, hfzL_1⟩ := bk2 BK166.out))
 go_loopg [17] k (fun kq v17 w' => ∃ (x3_1 : List Bool) (x17_1 : Int), v17 = .int .i64 x17_1 ∧ Aside0 (dom_kids.l0 kq x3_1 l0_0 (l0_0.length : Int) x17_1 l0_0 a0_1 = some r) ∧ Aside0 (kq ≤ k) ∧ Aside0 (Kd.R Kd.bool 4 w' w.heap.size (fun _ => True) v168 x3_1) ∧ Aside0 (w'.heap[gb166]? = some (.cells #[(.slice A0_0 l0_0.length c0_0), .bool a0_1] 24 (0, 0))) ∧ Aside0 (Below w.heap.size w w'))
 case atStart => exact ⟨(y167), (0), zi, H', ⟨Nat.le_refl _⟩, ⟨by (with_reducible repeat (first | apply rA | apply rN | apply rD)); exact HO169.out⟩, ⟨by (with_reducible repeat (first | refine kN ?_ _ | refine kD ?_ | refine kA ?_ _)); exact BK166.out⟩, ⟨by repeat (first | (with_reducible first | exact HB.out | apply bA | apply bN | apply bD | refine bS ?_ GE166.out) | exact HB.out)⟩⟩
 case round =>
  clear H'
  obtain ⟨x3_1, x17_1, rfl, HA, HK1, HO_3, BK166, HB⟩ := hrel
  cases gk with
  | zero => exact absurd HA.out (by simp [dom_kids.l0])
  | succ k1 =>
   have H := HA.out
   clear HA
   simp only [dom_kids.l0] at H
   refine iT H ?p9 ?n9 <;> clear H
   case' p9 => intro c9b0 H; refine iLp H ?_; clear H; intro c10b0 H; refine iTp H ?_; clear H; intro c11b0 H
   case' n9 => intro c9b0 H
   case p9 =>
    have H' := aS H
    clear H
    obtain ⟨ad170, A170_2, c170_2, A170_5, c170_5, e170, hx170_0, hx170_1, hx170_2, hx170_3, hx170_4, hx170_5, HC170_2, HR170_2, HC170_5, HR170_5, p170, q170⟩ := q0w HB.out HR0_0.out x17_1 zb zb
    cases e170
    go_wp2_with (first | ((with_reducible refine q07 (N := 5) rfl ?_); (try (refine q12 (by rfl) ?_; dsimp only)); refine q0t ?hg (N := 5) ?hd (cs := #[.int .i64 0, .string (⟨#[]⟩ : ByteArray), .slice none 0 0, .string (⟨#[]⟩ : ByteArray), .int .i64 0, .slice none 0 0]) (t := 43) ?hr ?_; (case hd => rfl); (case hg => rfl); (case hr => first | (go_simp; done) | (go_simp; rfl)); intro gb171 hg w12 hbox hb; have n0_ := aS (Kd.R_below (zf HO_3.out) hb); have n1_ := aS (q02 (g := gb166) (o := .cells #[.slice (some ad170) l0_0.length c0_0, .bool a0_1] 24 (0, 0)) (za BK166.out) hb); have n2_ := aS (q01 (z6 HB.out GE166.out) hb); have n3_ := aS (hbox); have n4_ := aS ((by rw [hg]; exact (q0c (z6 HB.out GE166.out)) : w.heap.size ≤ gb171)); have n5_ := aS ((by rw [hg]; exact (q0c (z6 HB.out GE166.out)) : w.heap.size ≤ gb171)); have n6_ := aS ((by rw [hg]; exact Nat.ne_of_lt (q0a (g := gb166) (o := .cells #[.slice (some ad170) l0_0.length c0_0, .bool a0_1] 24 (0, 0)) (za BK166.out)) : gb166 ≠ gb171)); have n7_ := aS ((by rw [hg]; exact Nat.ne_of_gt (q0a (g := gb166) (o := .cells #[.slice (some ad170) l0_0.length c0_0, .bool a0_1] 24 (0, 0)) (za BK166.out)) : gb171 ≠ gb166)); clear HO_3; clear BK166; clear HB; have HO_3 := n0_; have BK166 := n1_; have HB := n2_; have BK171 := n3_; have GW171 := n4_; have GE171 := n5_; have NB166_171 := n6_; have NB171_166 := n7_; clear n0_ n1_ n2_ n3_ n4_ n5_ n6_ n7_; clear hb hbox hg; have hnb13 := NB171_166.out; have hnc13 := NB166_171.out; obtain ⟨hczL_0, hczL_1, hczL_2, hczL_3, hczL_4, hczL_5, hfzL_0, hfzL_1, hfzL_2, hfzL_3, hfzL_4, hfzL_5⟩ := bk6 BK171.out))
    go_loopg [25] k1 (fun kq v25 w' => ∃ (x3_2 : List Bool) (x25_2 : Int), v25 = .int .i64 x25_2 ∧ Aside0 (dom_kids.l1 kq x3_2 x17_1 l0_0 (l0_0.length : Int) x17_1 ((q00 l0_0 x17_1).f5) (((q00 l0_0 x17_1).f5).length : Int) x25_2 l0_0 a0_1 = some r) ∧ Aside0 (kq ≤ k1) ∧ Aside0 (Kd.R Kd.bool 4 w' w.heap.size (fun _ => True) v168 x3_2) ∧ Aside0 (w'.heap[gb166]? = some (.cells #[(.slice (some ad170) l0_0.length c0_0), .bool a0_1] 24 (0, 0))) ∧ Aside0 (w'.heap[gb171]? = some (.cells #[.int .i64 ((q00 l0_0 x17_1).f0), .string ((q00 l0_0 x17_1).f1), (.slice A170_2 ((q00 l0_0 x17_1).f2).length c170_2), .string ((q00 l0_0 x17_1).f3), .int .i64 ((q00 l0_0 x17_1).f4), (.slice A170_5 ((q00 l0_0 x17_1).f5).length c170_5)] 43 (0, 0))) ∧ Aside0 (Below w.heap.size w w'))
    case atStart => exact ⟨(x3_1), (0), zi, H', ⟨Nat.le_refl _⟩, ⟨by (with_reducible repeat (first | apply rA | apply rN | apply rD)); exact Kd.R_mono (Kd.R_far (p := ⟨gb171, 5, none⟩) (Kd.R_far (p := ⟨gb171, 4, none⟩) (Kd.R_far (p := ⟨gb171, 3, none⟩) (Kd.R_far (p := ⟨gb171, 2, none⟩) (Kd.R_far (p := ⟨gb171, 1, none⟩) (Kd.R_far (p := ⟨gb171, 0, none⟩) (Kd.R_types HO_3.out BK171.out (by decide)) (fun _ hk => hk.2) (.int .i64 ((q00 l0_0 x17_1).f0))) (fun _ hk => hk.2) (.string ((q00 l0_0 x17_1).f1))) (fun _ hk => hk.2) (.slice A170_2 ((q00 l0_0 x17_1).f2).length c170_2)) (fun _ hk => hk.2) (.string ((q00 l0_0 x17_1).f3))) (fun _ hk => hk.2) (.int .i64 ((q00 l0_0 x17_1).f4))) (fun _ hk => hk.2) (.slice A170_5 ((q00 l0_0 x17_1).f5).length c170_5)) (fun _ hk => trivial)⟩, ⟨by (with_reducible repeat (first | refine kN ?_ _ | refine kD ?_ | refine kA ?_ _)); refine q0l ?_ NB166_171.out _; (with_reducible repeat (first | refine kN ?_ _ | refine kD ?_ | refine kA ?_ _)); refine q0l ?_ NB166_171.out _; (with_reducible repeat (first | refine kN ?_ _ | refine kD ?_ | refine kA ?_ _)); refine q0l ?_ NB166_171.out _; (with_reducible repeat (first | refine kN ?_ _ | refine kD ?_ | refine kA ?_ _)); refine q0l ?_ NB166_171.out _; (with_reducible repeat (first | refine kN ?_ _ | refine kD ?_ | refine kA ?_ _)); refine q0l ?_ NB166_171.out _; (with_reducible repeat (first | refine kN ?_ _ | refine kD ?_ | refine kA ?_ _)); refine q0l ?_ NB166_171.out _; (with_reducible repeat (first | refine kN ?_ _ | refine kD ?_ | refine kA ?_ _)); exact BK166.out⟩, ⟨by (with_reducible repeat (first | refine kN ?_ _ | refine kD ?_ | refine kA ?_ _)); refine q0o (cs := #[.int .i64 ((q00 l0_0 x17_1).f0), .string ((q00 l0_0 x17_1).f1), .slice A170_2 ((q00 l0_0 x17_1).f2).length c170_2, .string ((q00 l0_0 x17_1).f3), .int .i64 ((q00 l0_0 x17_1).f4), .slice none 0 0]) ?_ 5 _ rfl; (with_reducible repeat (first | refine kN ?_ _ | refine kD ?_ | refine kA ?_ _)); refine q0o (cs := #[.int .i64 ((q00 l0_0 x17_1).f0), .string ((q00 l0_0 x17_1).f1), .slice A170_2 ((q00 l0_0 x17_1).f2).length c170_2, .string ((q00 l0_0 x17_1).f3), .int .i64 0, .slice none 0 0]) ?_ 4 _ rfl; (with_reducible repeat (first | refine kN ?_ _ | refine kD ?_ | refine kA ?_ _)); refine q0o (cs := #[.int .i64 ((q00 l0_0 x17_1).f0), .string ((q00 l0_0 x17_1).f1), .slice A170_2 ((q00 l0_0 x17_1).f2).length c170_2, .string (⟨#[]⟩ : ByteArray), .int .i64 0, .slice none 0 0]) ?_ 3 _ rfl; (with_reducible repeat (first | refine kN ?_ _ | refine kD ?_ | refine kA ?_ _)); refine q0o (cs := #[.int .i64 ((q00 l0_0 x17_1).f0), .string ((q00 l0_0 x17_1).f1), .slice none 0 0, .string (⟨#[]⟩ : ByteArray), .int .i64 0, .slice none 0 0]) ?_ 2 _ rfl; (with_reducible repeat (first | refine kN ?_ _ | refine kD ?_ | refine kA ?_ _)); refine q0o (cs := #[.int .i64 ((q00 l0_0 x17_1).f0), .string (⟨#[]⟩ : ByteArray), .slice none 0 0, .string (⟨#[]⟩ : ByteArray), .int .i64 0, .slice none 0 0]) ?_ 1 _ rfl; (with_reducible repeat (first | refine kN ?_ _ | refine kD ?_ | refine kA ?_ _)); refine q0o (cs := #[.int .i64 0, .string (⟨#[]⟩ : ByteArray), .slice none 0 0, .string (⟨#[]⟩ : ByteArray), .int .i64 0, .slice none 0 0]) ?_ 0 _ rfl; (with_reducible repeat (first | refine kN ?_ _ | refine kD ?_ | refine kA ?_ _)); exact BK171.out⟩, ⟨by repeat (first | (with_reducible first | exact HB.out | apply bA | apply bN | apply bD | refine bS ?_ GE166.out | refine bS ?_ GE171.out) | exact HB.out)⟩⟩
    case round =>
     clear H'
     obtain ⟨x3_2, x25_2, rfl, HA, HK2, HO_3, BK166, BK171, HB⟩ := hrel
     cases gk with
     | zero => exact absurd HA.out (by simp [dom_kids.l1])
     | succ k2 =>
      have H := HA.out
      clear HA
      simp only [dom_kids.l1] at H
      refine iT H ?p15 ?n15 <;> clear H
      case' p15 => intro c15b0 H; refine iLp H ?_; clear H; intro c16b0 H; refine iTp H ?_; clear H; intro c17b0 H
      case' n15 => intro c15b0 H
      case p15 =>
       have HC18 := aS H
       clear H
       obtain ⟨ad172, e172, hx172_0, p172, q172⟩ := atIB HB.out HR170_5.out x25_2 zb zb
       cases e172
       go_upto_region 8 with (fail)
       go_cut [29] (fun v29 wc => ∃ (kq : Nat) (x29_17 : Bool), v29 = .bool x29_17 ∧ Aside0 (dom_kids.j2 kq x3_2 x17_1 (rd ((q00 l0_0 x17_1).f5) x25_2) l0_0 (l0_0.length : Int) x17_1 ((q00 l0_0 x17_1).f5) (((q00 l0_0 x17_1).f5).length : Int) x25_2 x29_17 l0_0 a0_1 = some r) ∧ Aside0 (kq ≤ k2) ∧ Aside0 (Kd.R Kd.bool 4 wc w.heap.size (fun _ => True) v168 x3_2) ∧ Aside0 (wc.heap[gb166]? = some (.cells #[(.slice (some ad170) l0_0.length c0_0), .bool a0_1] 24 (0, 0))) ∧ Aside0 (wc.heap[gb171]? = some (.cells #[.int .i64 ((q00 l0_0 x17_1).f0), .string ((q00 l0_0 x17_1).f1), (.slice A170_2 ((q00 l0_0 x17_1).f2).length c170_2), .string ((q00 l0_0 x17_1).f3), .int .i64 ((q00 l0_0 x17_1).f4), (.slice (some ad172) ((q00 l0_0 x17_1).f5).length c170_5)] 43 (0, 0))) ∧ Aside0 (Below w.heap.size w wc))
       case first =>
        have H := HC18.out
        clear HC18
        refine iT H ?p19 ?n19 <;> clear H
        case' p19 => intro c19b0 H
        case' n19 => intro c19b0 H; (first | rw [c19b0] | (simp only [q0d, q0e]; rw [c19b0]) | skip); refine iL H ?p20 ?n20 <;> clear H
        case' p20 => intro c20b0 H
        case' n20 => intro c20b0 H; refine iLp H ?_; clear H; intro c22b0 H; refine iTp H ?_; clear H; intro c23b0 H; refine iE H ?p24 ?n24 <;> clear H
        case' p24 => intro c24b0 c24b1 H; refine iTp H ?_; clear H; intro c25b0 H
        case' n24 => intro c24 c24b0 c24b1 H
        case p19 =>
         (first | rw [c19b0] | (simp only [q0d, q0e]; rw [c19b0]) | skip)
         have H' := aS H
         clear H
         go_wp2
         go_meet
         case rel => exact ⟨_, _, zi, H', ⟨by have := HK1.out; have := HK2.out; first | omega | exact Nat.le_refl _⟩, ⟨by (with_reducible repeat (first | apply rA | apply rN | apply rD)); exact HO_3.out⟩, ⟨by (with_reducible repeat (first | refine kN ?_ _ | refine kD ?_ | refine kA ?_ _)); exact BK166.out⟩, ⟨by (with_reducible repeat (first | refine kN ?_ _ | refine kD ?_ | refine kA ?_ _)); exact BK171.out⟩, ⟨by repeat (first | (with_reducible first | exact HB.out | apply bA | apply bN | apply bD | refine bS ?_ GE166.out | refine bS ?_ GE171.out) | exact HB.out)⟩⟩
        case p20 =>
         have H' := aS H
         clear H
         obtain ⟨Ao21, co21, eo21⟩ := Kd.R_slice HO_3.out
         subst eo21
         go_wp2
         go_meet
         case rel => exact ⟨_, _, zi, H', ⟨by have := HK1.out; have := HK2.out; first | omega | exact Nat.le_refl _⟩, ⟨by (with_reducible repeat (first | apply rA | apply rN | apply rD)); exact HO_3.out⟩, ⟨by (with_reducible repeat (first | refine kN ?_ _ | refine kD ?_ | refine kA ?_ _)); exact BK166.out⟩, ⟨by (with_reducible repeat (first | refine kN ?_ _ | refine kD ?_ | refine kA ?_ _)); exact BK171.out⟩, ⟨by repeat (first | (with_reducible first | exact HB.out | apply bA | apply bN | apply bD | refine bS ?_ GE166.out | refine bS ?_ GE171.out) | exact HB.out)⟩⟩
        case p24 =>
         have H' := aS H
         clear H
         obtain ⟨Ao26, co26, eo26⟩ := Kd.R_slice HO_3.out
         subst eo26
         have hnb27 := NB166_171.out
         have hnc27 := NB171_166.out
         obtain ⟨hczL_0, hczL_1, hfzL_0, hfzL_1⟩ := bk2 BK166.out
         obtain ⟨ad173, A173_2, c173_2, A173_5, c173_5, e173, hx173_0, hx173_1, hx173_2, hx173_3, hx173_4, hx173_5, HC173_2, HR173_2, HC173_5, HR173_5, p173, q173⟩ := q0w HB.out HR0_0.out (rd ((q00 l0_0 x17_1).f5) x25_2) zb zb
         obtain rfl : ad170 = ad173 := (by injection e173)
         obtain ⟨ad174, e174, hx174_0, p174, q174⟩ := atOA (Kd.R_reads' HO_3.out).2.2 (rd ((q00 l0_0 x17_1).f5) x25_2) zb zb
         cases e174
         go_wp2
         go_meet
         case rel => exact ⟨_, (rdOf false x3_2 (rd ((q00 l0_0 x17_1).f5) x25_2)), zi, H', ⟨by have := HK1.out; have := HK2.out; first | omega | exact Nat.le_refl _⟩, ⟨by (with_reducible repeat (first | apply rA | apply rN | apply rD)); exact HO_3.out⟩, ⟨by (with_reducible repeat (first | refine kN ?_ _ | refine kD ?_ | refine kA ?_ _)); exact BK166.out⟩, ⟨by (with_reducible repeat (first | refine kN ?_ _ | refine kD ?_ | refine kA ?_ _)); exact BK171.out⟩, ⟨by repeat (first | (with_reducible first | exact HB.out | apply bA | apply bN | apply bD | refine bS ?_ GE166.out | refine bS ?_ GE171.out) | exact HB.out)⟩⟩
        case n24 =>
         have H' := aS H
         clear H
         obtain ⟨Ao29, co29, eo29⟩ := Kd.R_slice HO_3.out
         subst eo29
         have hnb30 := NB166_171.out
         have hnc30 := NB171_166.out
         obtain ⟨hczL_0, hczL_1, hfzL_0, hfzL_1⟩ := bk2 BK166.out
         obtain ⟨ad173, A173_2, c173_2, A173_5, c173_5, e173, hx173_0, hx173_1, hx173_2, hx173_3, hx173_4, hx173_5, HC173_2, HR173_2, HC173_5, HR173_5, p173, q173⟩ := q0w HB.out HR0_0.out (rd ((q00 l0_0 x17_1).f5) x25_2) zb zb
         obtain rfl : ad170 = ad173 := (by injection e173)
         go_wp2
         go_meet
         case rel => exact ⟨_, _, zi, H', ⟨by have := HK1.out; have := HK2.out; first | omega | exact Nat.le_refl _⟩, ⟨by (with_reducible repeat (first | apply rA | apply rN | apply rD)); exact HO_3.out⟩, ⟨by (with_reducible repeat (first | refine kN ?_ _ | refine kD ?_ | refine kA ?_ _)); exact BK166.out⟩, ⟨by (with_reducible repeat (first | refine kN ?_ _ | refine kD ?_ | refine kA ?_ _)); exact BK171.out⟩, ⟨by repeat (first | (with_reducible first | exact HB.out | apply bA | apply bN | apply bD | refine bS ?_ GE166.out | refine bS ?_ GE171.out) | exact HB.out)⟩⟩
       case rest =>
        clear HC18
        obtain ⟨kq, x29_17, rfl, HA, HJ17, HO_3, BK166, BK171, HB⟩ := hcut
        cases kq with
        | zero => exact absurd HA.out (by simp [dom_kids.j2])
        | succ kj17 =>
         have H := HA.out
         clear HA
         simp only [dom_kids.j2] at H
         refine iV H ?p32 ?n32 <;> clear H
         case' p32 => intro c32 H; subst c32
         case' n32 => intro c32 H; subst c32; refine iE H ?p33 ?n33 <;> clear H
         case' p33 => intro c33b0 c33b1 H; refine iLp H ?_; clear H; intro c34b0 H; refine iTp H ?_; clear H; intro c35b0 H; refine iE H ?p36 ?n36 <;> clear H
         case' p36 => intro c36b0 c36b1 H
         case' n36 => intro c36 c36b0 c36b1 H; refine iTp H ?_; clear H; intro c39b0 H
         case' n33 => intro c33 c33b0 c33b1 H; refine iLp H ?_; clear H; intro c45b0 H; refine iTp H ?_; clear H; intro c46b0 H
         case p32 =>
          obtain rfl := Option.some.inj H
          go_wp2
          go_ret
          exact ⟨by first | rfl | (simp [q05, q04] <;> rfl) | (simp [*, q05, q04] <;> rfl), by repeat (first | (with_reducible first | exact HB.out | apply bA | apply bN | apply bD | refine bS ?_ GE166.out | refine bS ?_ GE171.out) | exact HB.out)⟩
         case p36 =>
          obtain rfl := Option.some.inj H
          have hnb37 := NB166_171.out
          have hnc37 := NB171_166.out
          obtain ⟨hczL_0, hczL_1, hfzL_0, hfzL_1⟩ := bk2 BK166.out
          obtain ⟨ad175, A175_2, c175_2, A175_5, c175_5, e175, hx175_0, hx175_1, hx175_2, hx175_3, hx175_4, hx175_5, HC175_2, HR175_2, HC175_5, HR175_5, p175, q175⟩ := q0w HB.out HR0_0.out (rd ((q00 l0_0 x17_1).f5) x25_2) zb zb
          obtain rfl : ad170 = ad175 := (by injection e175)
          go_wp2
          go_ret
          exact ⟨by first | rfl | (simp [q05, q04] <;> rfl) | (simp [*, q05, q04] <;> rfl), by repeat (first | (with_reducible first | exact HB.out | apply bA | apply bN | apply bD | refine bS ?_ GE166.out | refine bS ?_ GE171.out) | exact HB.out)⟩
         case n36 =>
          obtain ⟨y176, hy176⟩ : ∃ y_ : List Bool, y_ = (x3_2.set ((rd ((q00 l0_0 x17_1).f5) x25_2) : Int).toNat true) := ⟨_, rfl⟩
          replace H : (dom_kids.l1 kj17 y176 x17_1 l0_0 (l0_0.length : Int) x17_1 ((q00 l0_0 x17_1).f5) (((q00 l0_0 x17_1).f5).length : Int) (wrap64 (x25_2 + 1)) l0_0 a0_1) = some r := by first | (rw [hy176]; with_reducible exact H) | (have H2_ := (Option.bind_some _ _).symm.trans H; rw [hy176]; with_reducible exact H2_) | (have H2_ := (Option.bind_some _ _).symm.trans H; with_reducible exact H2_) | with_reducible exact H | (rw [hy176]; exact H) | exact H
          have Ny176 := aS hy176
          clear hy176
          have H' := aS H
          clear H
          have hnb41 := NB166_171.out
          have hnc41 := NB171_166.out
          obtain ⟨hczL_0, hczL_1, hfzL_0, hfzL_1⟩ := bk2 BK166.out
          obtain ⟨ad175, A175_2, c175_2, A175_5, c175_5, e175, hx175_0, hx175_1, hx175_2, hx175_3, hx175_4, hx175_5, HC175_2, HR175_2, HC175_5, HR175_5, p175, q175⟩ := q0w HB.out HR0_0.out (rd ((q00 l0_0 x17_1).f5) x25_2) zb zb
          obtain rfl : ad170 = ad175 := (by injection e175)
          have p40 : 0 ≤ ((rd ((q00 l0_0 x17_1).f5) x25_2) : Int) := od zb
          have q40 : ((rd ((q00 l0_0 x17_1).f5) x25_2) : Int) < ((x3_2.length : Int) : Int) := od zb
          obtain ⟨go40, co40, eo40, gb40, gl40, cl40, HG40⟩ := Kd.R_form HO_3.out (by omega)
          (first | cases eo40 | (injection eo40 with ea_ en_ ec_; (first | subst ea_ | (injection ea_ with ea_; subst ea_)); subst ec_; clear en_))
          have GB40 := aS gb40
          have GG40 := aS HG40
          clear gb40 gl40 HG40
          obtain ⟨hx40_0, hf40_0⟩ := Kd.R_celln false HO_3.out ((rd ((q00 l0_0 x17_1).f5) x25_2) : Int) p40 q40
          replace p40 := eq_true p40
          replace q40 := eq_true q40
          have HP43 := Kd.R_putg HO_3.out ((rd ((q00 l0_0 x17_1).f5) x25_2) : Int) true
          go_wp2_with (first | ((with_reducible refine gate_store (t := 4) (p := 68) rfl ?_); refine store_event (t := 4) (p := 68) (v := ?vo_w44) (w1 := (wc.setCell ⟨go40, ((rd ((q00 l0_0 x17_1).f5) x25_2) : Int).toNat, none⟩ (.bool true))) ?hg ?ho ?hn ?hr ?_; (case ho => rfl); (case hg => rfl); (case hn => rfl); (case hr => first | (go_simp; done) | (go_simp; rfl)); intro w44 hw; have hg : wc.grownBy w44 (some go40) := (by rw [hw]; exact HP43.2); have hp_ : Kd.R Kd.bool 4 w44 w.heap.size (fun _ => True) (.slice (some ⟨go40, 0, none⟩) x3_2.length co40) y176 := (by rw [hw, Ny176.out]; exact HP43.1); clear HP43; have n0_ := aS (hp_); have n1_ := aS (q1b (g := gb166) (o := .cells #[.slice (some ad170) l0_0.length c0_0, .bool a0_1] 24 (0, 0)) (za BK166.out) hg (Kd.R_ne HO_3.out BK166.out (by decide))); have n2_ := aS (q1b (g := gb171) (o := .cells #[.int .i64 ((q00 l0_0 x17_1).f0), .string ((q00 l0_0 x17_1).f1), .slice A170_2 ((q00 l0_0 x17_1).f2).length c170_2, .string ((q00 l0_0 x17_1).f3), .int .i64 ((q00 l0_0 x17_1).f4), .slice (some ad172) ((q00 l0_0 x17_1).f5).length c170_5] 43 (0, 0)) (za BK171.out) hg (Kd.R_ne HO_3.out BK171.out (by decide))); have n3_ := aS ((by rw [hw]; exact q08 (HB.out) GB40.out : Below w.heap.size w w44)); clear HO_3; clear BK166; clear BK171; clear HB; have HO_3 := n0_; have BK166 := n1_; have BK171 := n2_; have HB := n3_; clear n0_ n1_ n2_ n3_; clear hg hw hp_))
          go_roundg kj17
          case measure => have := HK1.out; have := HK2.out; have := HJ17.out; omega
          case rel => exact ⟨(y176), (wrap64 (x25_2 + 1)), zi, H', ⟨by have := HK1.out; have := HK2.out; have := HJ17.out; omega⟩, ⟨by (with_reducible repeat (first | apply rA | apply rN | apply rD)); exact HO_3.out⟩, ⟨by (with_reducible repeat (first | refine kN ?_ _ | refine kD ?_ | refine kA ?_ _)); exact BK166.out⟩, ⟨by (with_reducible repeat (first | refine kN ?_ _ | refine kD ?_ | refine kA ?_ _)); exact BK171.out⟩, ⟨by repeat (first | (with_reducible first | exact HB.out | apply bA | apply bN | apply bD | refine bS ?_ GE166.out | refine bS ?_ GE171.out) | exact HB.out)⟩⟩
         case n33 =>
          obtain ⟨y177, hy177⟩ : ∃ y_ : List Bool, y_ = (x3_2.set ((rd ((q00 l0_0 x17_1).f5) x25_2) : Int).toNat true) := ⟨_, rfl⟩
          replace H : (dom_kids.l1 kj17 y177 x17_1 l0_0 (l0_0.length : Int) x17_1 ((q00 l0_0 x17_1).f5) (((q00 l0_0 x17_1).f5).length : Int) (wrap64 (x25_2 + 1)) l0_0 a0_1) = some r := by first | (rw [hy177]; with_reducible exact H) | (have H2_ := (Option.bind_some _ _).symm.trans H; rw [hy177]; with_reducible exact H2_) | (have H2_ := (Option.bind_some _ _).symm.trans H; with_reducible exact H2_) | with_reducible exact H | (rw [hy177]; exact H) | exact H
          have Ny177 := aS hy177
          clear hy177
          have H' := aS H
          clear H
          have p47 : 0 ≤ ((rd ((q00 l0_0 x17_1).f5) x25_2) : Int) := od zb
          have q47 : ((rd ((q00 l0_0 x17_1).f5) x25_2) : Int) < ((x3_2.length : Int) : Int) := od zb
          obtain ⟨go47, co47, eo47, gb47, gl47, cl47, HG47⟩ := Kd.R_form HO_3.out (by omega)
          (first | cases eo47 | (injection eo47 with ea_ en_ ec_; (first | subst ea_ | (injection ea_ with ea_; subst ea_)); subst ec_; clear en_))
          have GB47 := aS gb47
          have GG47 := aS HG47
          clear gb47 gl47 HG47
          obtain ⟨hx47_0, hf47_0⟩ := Kd.R_celln false HO_3.out ((rd ((q00 l0_0 x17_1).f5) x25_2) : Int) p47 q47
          replace p47 := eq_true p47
          replace q47 := eq_true q47
          have HP48 := Kd.R_putg HO_3.out ((rd ((q00 l0_0 x17_1).f5) x25_2) : Int) true
          go_wp2_with (first | ((with_reducible refine gate_store (t := 4) (p := 68) rfl ?_); refine store_event (t := 4) (p := 68) (v := ?vo_w49) (w1 := (wc.setCell ⟨go47, ((rd ((q00 l0_0 x17_1).f5) x25_2) : Int).toNat, none⟩ (.bool true))) ?hg ?ho ?hn ?hr ?_; (case ho => rfl); (case hg => rfl); (case hn => rfl); (case hr => first | (go_simp; done) | (go_simp; rfl)); intro w49 hw; have hg : wc.grownBy w49 (some go47) := (by rw [hw]; exact HP48.2); have hp_ : Kd.R Kd.bool 4 w49 w.heap.size (fun _ => True) (.slice (some ⟨go47, 0, none⟩) x3_2.length co47) y177 := (by rw [hw, Ny177.out]; exact HP48.1); clear HP48; have n0_ := aS (hp_); have n1_ := aS (q1b (g := gb166) (o := .cells #[.slice (some ad170) l0_0.length c0_0, .bool a0_1] 24 (0, 0)) (za BK166.out) hg (Kd.R_ne HO_3.out BK166.out (by decide))); have n2_ := aS (q1b (g := gb171) (o := .cells #[.int .i64 ((q00 l0_0 x17_1).f0), .string ((q00 l0_0 x17_1).f1), .slice A170_2 ((q00 l0_0 x17_1).f2).length c170_2, .string ((q00 l0_0 x17_1).f3), .int .i64 ((q00 l0_0 x17_1).f4), .slice (some ad172) ((q00 l0_0 x17_1).f5).length c170_5] 43 (0, 0)) (za BK171.out) hg (Kd.R_ne HO_3.out BK171.out (by decide))); have n3_ := aS ((by rw [hw]; exact q08 (HB.out) GB47.out : Below w.heap.size w w49)); clear HO_3; clear BK166; clear BK171; clear HB; have HO_3 := n0_; have BK166 := n1_; have BK171 := n2_; have HB := n3_; clear n0_ n1_ n2_ n3_; clear hg hw hp_))
          go_roundg kj17
          case measure => have := HK1.out; have := HK2.out; have := HJ17.out; omega
          case rel => exact ⟨(y177), (wrap64 (x25_2 + 1)), zi, H', ⟨by have := HK1.out; have := HK2.out; have := HJ17.out; omega⟩, ⟨by (with_reducible repeat (first | apply rA | apply rN | apply rD)); exact HO_3.out⟩, ⟨by (with_reducible repeat (first | refine kN ?_ _ | refine kD ?_ | refine kA ?_ _)); exact BK166.out⟩, ⟨by (with_reducible repeat (first | refine kN ?_ _ | refine kD ?_ | refine kA ?_ _)); exact BK171.out⟩, ⟨by repeat (first | (with_reducible first | exact HB.out | apply bA | apply bN | apply bD | refine bS ?_ GE166.out | refine bS ?_ GE171.out) | exact HB.out)⟩⟩
      case n15 =>
       have H' := aS H
       clear H
       go_wp2
       go_roundg k2
       case measure => have := HK1.out; have := HK2.out; omega
       case rel => exact ⟨(x3_2), (wrap64 (x17_1 + 1)), zi, H', ⟨by have := HK1.out; have := HK2.out; omega⟩, ⟨by (with_reducible repeat (first | apply rA | apply rN | apply rD)); exact HO_3.out⟩, ⟨by (with_reducible repeat (first | refine kN ?_ _ | refine kD ?_ | refine kA ?_ _)); exact BK166.out⟩, ⟨by repeat (first | (with_reducible first | exact HB.out | apply bA | apply bN | apply bD | refine bS ?_ GE166.out | refine bS ?_ GE171.out) | exact HB.out)⟩⟩
   case n9 =>
    have H' := aS H
    clear H
    obtain ⟨hczL_0, hczL_1, hfzL_0, hfzL_1⟩ := bk2 BK166.out
    go_wp2
    go_loopg [74] k1 (fun kq v74 w' => ∃ (x74_2 : Int), v74 = .int .i64 x74_2 ∧ Aside0 (dom_kids.l2 kq x3_1 l0_0 (l0_0.length : Int) x74_2 l0_0 a0_1 = some r) ∧ Aside0 (kq ≤ k1) ∧ Aside0 (Kd.R Kd.bool 4 w' w.heap.size (fun _ => True) v168 x3_1) ∧ Aside0 (w'.heap[gb166]? = some (.cells #[(.slice A0_0 l0_0.length c0_0), .bool a0_1] 24 (0, 0))) ∧ Aside0 (Below w.heap.size w w'))
    case atStart => exact ⟨(0), zi, H', ⟨Nat.le_refl _⟩, ⟨by (with_reducible repeat (first | apply rA | apply rN | apply rD)); exact HO_3.out⟩, ⟨by (with_reducible repeat (first | refine kN ?_ _ | refine kD ?_ | refine kA ?_ _)); exact BK166.out⟩, ⟨by repeat (first | (with_reducible first | exact HB.out | apply bA | apply bN | apply bD | refine bS ?_ GE166.out) | exact HB.out)⟩⟩
    case round =>
     clear H'
     obtain ⟨x74_2, rfl, HA, HK2, HO_3, BK166, HB⟩ := hrel
     cases gk with
     | zero => exact absurd HA.out (by simp [dom_kids.l2])
     | succ k2 =>
      have H := HA.out
      clear HA
      simp only [dom_kids.l2] at H
      refine iT H ?p51 ?n51 <;> clear H
      case' p51 => intro c51b0 H; refine iLp H ?_; clear H; intro c52b0 H; refine iTp H ?_; clear H; intro c53b0 H; refine iE H ?p54 ?n54 <;> clear H
      case' p54 => intro c54b0 c54b1 H
      case' n54 =>
       intro c54 c54b0 c54b1 H
       refine iTp H ?_; clear H; intro c58b0 H
       obtain ⟨bq59, hbq59⟩ : ∃ b_ : Bool, b_ = (rdOf false x3_1 x74_2) := ⟨_, rfl⟩
       replace H : (if bq59 = true then (dom_kids.l2 k2 x3_1 l0_0 (l0_0.length : Int) (wrap64 (x74_2 + 1)) l0_0 a0_1) else (some 3)) = some r := by rw [← hbq59] at H; exact H
       have Nbq59 := aS hbq59
       clear hbq59
       obtain ⟨ad178, A178_2, c178_2, A178_5, c178_5, e178, hx178_0, hx178_1, hx178_2, hx178_3, hx178_4, hx178_5, HC178_2, HR178_2, HC178_5, HR178_5, p178, q178⟩ := q0w HB.out HR0_0.out x74_2 zb zb
       cases e178
       refine iV H ?p60 ?n60 <;> clear H
      case' p60 => intro c60 H; subst c60
      case' n60 => intro c60 H; subst c60
      case' n51 =>
       intro c51b0 H
       obtain ⟨hczL_0, hczL_1, hfzL_0, hfzL_1⟩ := bk2 BK166.out
       refine iTNp (m := 0) (n := l0_0.length) H rfl rfl ?_; clear H; intro c69b0 c69b1 H
       have p181 : 0 ≤ (0 : Int) := (by omega)
       have q181 : 0 < (l0_0.length : Int) := od zb
       obtain ⟨ad181, A181_2, c181_2, A181_5, c181_5, e181, hx181_0, hx181_1, hx181_2, hx181_3, hx181_4, hx181_5, hl181_2, hi181_2, hl181_5, hi181_5⟩ := at_T43 HR0_0.out 0 p181 q181
       cases e181
       refine iE H ?p70 ?n70 <;> clear H
      case' p70 => intro c70b0 c70b1 H
      case' n70 => intro c70 c70b0 c70b1 H
      case p54 =>
       have H' := aS H
       clear H
       obtain ⟨ad178, A178_2, c178_2, A178_5, c178_5, e178, hx178_0, hx178_1, hx178_2, hx178_3, hx178_4, hx178_5, HC178_2, HR178_2, HC178_5, HR178_5, p178, q178⟩ := q0w HB.out HR0_0.out x74_2 zb zb
       cases e178
       go_wp2_with (first | ((with_reducible refine q07 (N := 9) rfl ?_); (try (refine q12 (by rfl) ?_; dsimp only)); refine q0t ?hg (N := 9) ?hd (cs := #[.int .i64 0, .string (⟨#[]⟩ : ByteArray), .slice none 0 0, .string (⟨#[]⟩ : ByteArray), .int .i64 0, .slice none 0 0]) (t := 43) ?hr ?_; (case hd => rfl); (case hg => rfl); (case hr => first | (go_simp; done) | (go_simp; rfl)); intro gb179 hg w55 hbox hb; have n0_ := aS (Kd.R_below (zf HO_3.out) hb); have n1_ := aS (q02 (g := gb166) (o := .cells #[.slice (some ad178) l0_0.length c0_0, .bool a0_1] 24 (0, 0)) (za BK166.out) hb); have n2_ := aS (q01 (z6 HB.out GE166.out) hb); have n3_ := aS (hbox); have n4_ := aS ((by rw [hg]; exact (q0c (z6 HB.out GE166.out)) : w.heap.size ≤ gb179)); have n5_ := aS ((by rw [hg]; exact (q0c (z6 HB.out GE166.out)) : w.heap.size ≤ gb179)); have n6_ := aS ((by rw [hg]; exact Nat.ne_of_lt (q0a (g := gb166) (o := .cells #[.slice (some ad178) l0_0.length c0_0, .bool a0_1] 24 (0, 0)) (za BK166.out)) : gb166 ≠ gb179)); have n7_ := aS ((by rw [hg]; exact Nat.ne_of_gt (q0a (g := gb166) (o := .cells #[.slice (some ad178) l0_0.length c0_0, .bool a0_1] 24 (0, 0)) (za BK166.out)) : gb179 ≠ gb166)); clear HO_3; clear BK166; clear HB; have HO_3 := n0_; have BK166 := n1_; have HB := n2_; have BK179 := n3_; have GW179 := n4_; have GE179 := n5_; have NB166_179 := n6_; have NB179_166 := n7_; clear n0_ n1_ n2_ n3_ n4_ n5_ n6_ n7_; clear hb hbox hg; have hnb56 := NB179_166.out; have hnc56 := NB166_179.out; obtain ⟨hczL_0, hczL_1, hczL_2, hczL_3, hczL_4, hczL_5, hfzL_0, hfzL_1, hfzL_2, hfzL_3, hfzL_4, hfzL_5⟩ := bk6 BK179.out))
       go_roundg k2
       case measure => have := HK1.out; have := HK2.out; omega
       case rel => exact ⟨(wrap64 (x74_2 + 1)), zi, H', ⟨by have := HK1.out; have := HK2.out; omega⟩, ⟨by (with_reducible repeat (first | apply rA | apply rN | apply rD)); exact Kd.R_mono (Kd.R_far (p := ⟨gb179, 5, none⟩) (Kd.R_far (p := ⟨gb179, 4, none⟩) (Kd.R_far (p := ⟨gb179, 3, none⟩) (Kd.R_far (p := ⟨gb179, 2, none⟩) (Kd.R_far (p := ⟨gb179, 1, none⟩) (Kd.R_far (p := ⟨gb179, 0, none⟩) (Kd.R_types HO_3.out BK179.out (by decide)) (fun _ hk => hk.2) (.int .i64 ((q00 l0_0 x74_2).f0))) (fun _ hk => hk.2) (.string ((q00 l0_0 x74_2).f1))) (fun _ hk => hk.2) (.slice A178_2 ((q00 l0_0 x74_2).f2).length c178_2)) (fun _ hk => hk.2) (.string ((q00 l0_0 x74_2).f3))) (fun _ hk => hk.2) (.int .i64 ((q00 l0_0 x74_2).f4))) (fun _ hk => hk.2) (.slice A178_5 ((q00 l0_0 x74_2).f5).length c178_5)) (fun _ hk => trivial)⟩, ⟨by (with_reducible repeat (first | refine kN ?_ _ | refine kD ?_ | refine kA ?_ _)); refine q0l ?_ NB166_179.out _; (with_reducible repeat (first | refine kN ?_ _ | refine kD ?_ | refine kA ?_ _)); refine q0l ?_ NB166_179.out _; (with_reducible repeat (first | refine kN ?_ _ | refine kD ?_ | refine kA ?_ _)); refine q0l ?_ NB166_179.out _; (with_reducible repeat (first | refine kN ?_ _ | refine kD ?_ | refine kA ?_ _)); refine q0l ?_ NB166_179.out _; (with_reducible repeat (first | refine kN ?_ _ | refine kD ?_ | refine kA ?_ _)); refine q0l ?_ NB166_179.out _; (with_reducible repeat (first | refine kN ?_ _ | refine kD ?_ | refine kA ?_ _)); refine q0l ?_ NB166_179.out _; (with_reducible repeat (first | refine kN ?_ _ | refine kD ?_ | refine kA ?_ _)); exact BK166.out⟩, ⟨by repeat (first | (with_reducible first | exact HB.out | apply bA | apply bN | apply bD | refine bS ?_ GE166.out | refine bS ?_ GE179.out) | exact HB.out)⟩⟩
      case p60 =>
       have H' := aS H
       clear H
       go_wp2_with (first | ((with_reducible refine q07 (N := 9) rfl ?_); (try (refine q12 (by rfl) ?_; dsimp only)); refine q0t ?hg (N := 9) ?hd (cs := #[.int .i64 0, .string (⟨#[]⟩ : ByteArray), .slice none 0 0, .string (⟨#[]⟩ : ByteArray), .int .i64 0, .slice none 0 0]) (t := 43) ?hr ?_; (case hd => rfl); (case hg => rfl); (case hr => first | (go_simp; done) | (go_simp; rfl)); intro gb179 hg w61 hbox hb; have n0_ := aS (Kd.R_below (zf HO_3.out) hb); have n1_ := aS (q02 (g := gb166) (o := .cells #[.slice (some ad178) l0_0.length c0_0, .bool a0_1] 24 (0, 0)) (za BK166.out) hb); have n2_ := aS (q01 (z6 HB.out GE166.out) hb); have n3_ := aS (hbox); have n4_ := aS ((by rw [hg]; exact (q0c (z6 HB.out GE166.out)) : w.heap.size ≤ gb179)); have n5_ := aS ((by rw [hg]; exact (q0c (z6 HB.out GE166.out)) : w.heap.size ≤ gb179)); have n6_ := aS ((by rw [hg]; exact Nat.ne_of_lt (q0a (g := gb166) (o := .cells #[.slice (some ad178) l0_0.length c0_0, .bool a0_1] 24 (0, 0)) (za BK166.out)) : gb166 ≠ gb179)); have n7_ := aS ((by rw [hg]; exact Nat.ne_of_gt (q0a (g := gb166) (o := .cells #[.slice (some ad178) l0_0.length c0_0, .bool a0_1] 24 (0, 0)) (za BK166.out)) : gb179 ≠ gb166)); clear HO_3; clear BK166; clear HB; have HO_3 := n0_; have BK166 := n1_; have HB := n2_; have BK179 := n3_; have GW179 := n4_; have GE179 := n5_; have NB166_179 := n6_; have NB179_166 := n7_; clear n0_ n1_ n2_ n3_ n4_ n5_ n6_ n7_; clear hb hbox hg; have hnb62 := NB179_166.out; have hnc62 := NB166_179.out; obtain ⟨hczL_0, hczL_1, hczL_2, hczL_3, hczL_4, hczL_5, hfzL_0, hfzL_1, hfzL_2, hfzL_3, hfzL_4, hfzL_5⟩ := bk6 BK179.out; obtain ⟨Ao64, co64, eo64⟩ := Kd.R_slice HO_3.out; subst eo64; have p180 : 0 ≤ (x74_2 : Int) := od zb; have q180 : x74_2 < (x3_1.length : Int) := od zb; obtain ⟨ad180, e180, hx180_0⟩ := Kd.at_bool (Kd.R_reads' HO_3.out).2.2 x74_2 p180 q180; (try rw [← Nbq59.out] at hx180_0); cases e180; have hn180_0 : ad180.block ≠ gb179 := Kd.own_blk (Kd.R_ne HO_3.out BK179.out (by decide)); have hn180_1 : ad180.block ≠ gb179 := Kd.own_blk (Kd.R_ne HO_3.out BK179.out (by decide)); have hn180_2 : ad180.block ≠ gb179 := Kd.own_blk (Kd.R_ne HO_3.out BK179.out (by decide)); have hn180_3 : ad180.block ≠ gb179 := Kd.own_blk (Kd.R_ne HO_3.out BK179.out (by decide)); have hn180_4 : ad180.block ≠ gb179 := Kd.own_blk (Kd.R_ne HO_3.out BK179.out (by decide)); have hn180_5 : ad180.block ≠ gb179 := Kd.own_blk (Kd.R_ne HO_3.out BK179.out (by decide)); replace hx180_0 := (q1y (p := ⟨gb179, 0, none⟩) (by first | (rw [q0q]; exact hn180_0) | (show (Addr.add _ _).block ≠ _; rw [q0q]; exact hn180_0) | exact hn180_0) (.int .i64 ((q00 l0_0 x74_2).f0))).trans hx180_0; replace hx180_0 := (q1y (p := ⟨gb179, 1, none⟩) (by first | (rw [q0q]; exact hn180_1) | (show (Addr.add _ _).block ≠ _; rw [q0q]; exact hn180_1) | exact hn180_1) (.string ((q00 l0_0 x74_2).f1))).trans hx180_0; replace hx180_0 := (q1y (p := ⟨gb179, 2, none⟩) (by first | (rw [q0q]; exact hn180_2) | (show (Addr.add _ _).block ≠ _; rw [q0q]; exact hn180_2) | exact hn180_2) (.slice A178_2 ((q00 l0_0 x74_2).f2).length c178_2)).trans hx180_0; replace hx180_0 := (q1y (p := ⟨gb179, 3, none⟩) (by first | (rw [q0q]; exact hn180_3) | (show (Addr.add _ _).block ≠ _; rw [q0q]; exact hn180_3) | exact hn180_3) (.string ((q00 l0_0 x74_2).f3))).trans hx180_0; replace hx180_0 := (q1y (p := ⟨gb179, 4, none⟩) (by first | (rw [q0q]; exact hn180_4) | (show (Addr.add _ _).block ≠ _; rw [q0q]; exact hn180_4) | exact hn180_4) (.int .i64 ((q00 l0_0 x74_2).f4))).trans hx180_0; replace hx180_0 := (q1y (p := ⟨gb179, 5, none⟩) (by first | (rw [q0q]; exact hn180_5) | (show (Addr.add _ _).block ≠ _; rw [q0q]; exact hn180_5) | exact hn180_5) (.slice A178_5 ((q00 l0_0 x74_2).f5).length c178_5)).trans hx180_0; clear hn180_0; clear hn180_1; clear hn180_2; clear hn180_3; clear hn180_4; clear hn180_5; replace p180 := eq_true p180; replace q180 := eq_true q180))
       go_roundg k2
       case measure => have := HK1.out; have := HK2.out; omega
       case rel => exact ⟨(wrap64 (x74_2 + 1)), zi, H', ⟨by have := HK1.out; have := HK2.out; omega⟩, ⟨by (with_reducible repeat (first | apply rA | apply rN | apply rD)); exact Kd.R_mono (Kd.R_far (p := ⟨gb179, 5, none⟩) (Kd.R_far (p := ⟨gb179, 4, none⟩) (Kd.R_far (p := ⟨gb179, 3, none⟩) (Kd.R_far (p := ⟨gb179, 2, none⟩) (Kd.R_far (p := ⟨gb179, 1, none⟩) (Kd.R_far (p := ⟨gb179, 0, none⟩) (Kd.R_types HO_3.out BK179.out (by decide)) (fun _ hk => hk.2) (.int .i64 ((q00 l0_0 x74_2).f0))) (fun _ hk => hk.2) (.string ((q00 l0_0 x74_2).f1))) (fun _ hk => hk.2) (.slice A178_2 ((q00 l0_0 x74_2).f2).length c178_2)) (fun _ hk => hk.2) (.string ((q00 l0_0 x74_2).f3))) (fun _ hk => hk.2) (.int .i64 ((q00 l0_0 x74_2).f4))) (fun _ hk => hk.2) (.slice A178_5 ((q00 l0_0 x74_2).f5).length c178_5)) (fun _ hk => trivial)⟩, ⟨by (with_reducible repeat (first | refine kN ?_ _ | refine kD ?_ | refine kA ?_ _)); refine q0l ?_ NB166_179.out _; (with_reducible repeat (first | refine kN ?_ _ | refine kD ?_ | refine kA ?_ _)); refine q0l ?_ NB166_179.out _; (with_reducible repeat (first | refine kN ?_ _ | refine kD ?_ | refine kA ?_ _)); refine q0l ?_ NB166_179.out _; (with_reducible repeat (first | refine kN ?_ _ | refine kD ?_ | refine kA ?_ _)); refine q0l ?_ NB166_179.out _; (with_reducible repeat (first | refine kN ?_ _ | refine kD ?_ | refine kA ?_ _)); refine q0l ?_ NB166_179.out _; (with_reducible repeat (first | refine kN ?_ _ | refine kD ?_ | refine kA ?_ _)); refine q0l ?_ NB166_179.out _; (with_reducible repeat (first | refine kN ?_ _ | refine kD ?_ | refine kA ?_ _)); exact BK166.out⟩, ⟨by repeat (first | (with_reducible first | exact HB.out | apply bA | apply bN | apply bD | refine bS ?_ GE166.out | refine bS ?_ GE179.out) | exact HB.out)⟩⟩
      case n60 =>
       obtain rfl := Option.some.inj H
       go_wp2_with (first | ((with_reducible refine q07 (N := 9) rfl ?_); (try (refine q12 (by rfl) ?_; dsimp only)); refine q0t ?hg (N := 9) ?hd (cs := #[.int .i64 0, .string (⟨#[]⟩ : ByteArray), .slice none 0 0, .string (⟨#[]⟩ : ByteArray), .int .i64 0, .slice none 0 0]) (t := 43) ?hr ?_; (case hd => rfl); (case hg => rfl); (case hr => first | (go_simp; done) | (go_simp; rfl)); intro gb179 hg w65 hbox hb; have n0_ := aS (Kd.R_below (zf HO_3.out) hb); have n1_ := aS (q02 (g := gb166) (o := .cells #[.slice (some ad178) l0_0.length c0_0, .bool a0_1] 24 (0, 0)) (za BK166.out) hb); have n2_ := aS (q01 (z6 HB.out GE166.out) hb); have n3_ := aS (hbox); have n4_ := aS ((by rw [hg]; exact (q0c (z6 HB.out GE166.out)) : w.heap.size ≤ gb179)); have n5_ := aS ((by rw [hg]; exact (q0c (z6 HB.out GE166.out)) : w.heap.size ≤ gb179)); have n6_ := aS ((by rw [hg]; exact Nat.ne_of_lt (q0a (g := gb166) (o := .cells #[.slice (some ad178) l0_0.length c0_0, .bool a0_1] 24 (0, 0)) (za BK166.out)) : gb166 ≠ gb179)); have n7_ := aS ((by rw [hg]; exact Nat.ne_of_gt (q0a (g := gb166) (o := .cells #[.slice (some ad178) l0_0.length c0_0, .bool a0_1] 24 (0, 0)) (za BK166.out)) : gb179 ≠ gb166)); clear HO_3; clear BK166; clear HB; have HO_3 := n0_; have BK166 := n1_; have HB := n2_; have BK179 := n3_; have GW179 := n4_; have GE179 := n5_; have NB166_179 := n6_; have NB179_166 := n7_; clear n0_ n1_ n2_ n3_ n4_ n5_ n6_ n7_; clear hb hbox hg; have hnb66 := NB179_166.out; have hnc66 := NB166_179.out; obtain ⟨hczL_0, hczL_1, hczL_2, hczL_3, hczL_4, hczL_5, hfzL_0, hfzL_1, hfzL_2, hfzL_3, hfzL_4, hfzL_5⟩ := bk6 BK179.out; obtain ⟨Ao68, co68, eo68⟩ := Kd.R_slice HO_3.out; subst eo68; have p180 : 0 ≤ (x74_2 : Int) := od zb; have q180 : x74_2 < (x3_1.length : Int) := od zb; obtain ⟨ad180, e180, hx180_0⟩ := Kd.at_bool (Kd.R_reads' HO_3.out).2.2 x74_2 p180 q180; (try rw [← Nbq59.out] at hx180_0); cases e180; have hn180_0 : ad180.block ≠ gb179 := Kd.own_blk (Kd.R_ne HO_3.out BK179.out (by decide)); have hn180_1 : ad180.block ≠ gb179 := Kd.own_blk (Kd.R_ne HO_3.out BK179.out (by decide)); have hn180_2 : ad180.block ≠ gb179 := Kd.own_blk (Kd.R_ne HO_3.out BK179.out (by decide)); have hn180_3 : ad180.block ≠ gb179 := Kd.own_blk (Kd.R_ne HO_3.out BK179.out (by decide)); have hn180_4 : ad180.block ≠ gb179 := Kd.own_blk (Kd.R_ne HO_3.out BK179.out (by decide)); have hn180_5 : ad180.block ≠ gb179 := Kd.own_blk (Kd.R_ne HO_3.out BK179.out (by decide)); replace hx180_0 := (q1y (p := ⟨gb179, 0, none⟩) (by first | (rw [q0q]; exact hn180_0) | (show (Addr.add _ _).block ≠ _; rw [q0q]; exact hn180_0) | exact hn180_0) (.int .i64 ((q00 l0_0 x74_2).f0))).trans hx180_0; replace hx180_0 := (q1y (p := ⟨gb179, 1, none⟩) (by first | (rw [q0q]; exact hn180_1) | (show (Addr.add _ _).block ≠ _; rw [q0q]; exact hn180_1) | exact hn180_1) (.string ((q00 l0_0 x74_2).f1))).trans hx180_0; replace hx180_0 := (q1y (p := ⟨gb179, 2, none⟩) (by first | (rw [q0q]; exact hn180_2) | (show (Addr.add _ _).block ≠ _; rw [q0q]; exact hn180_2) | exact hn180_2) (.slice A178_2 ((q00 l0_0 x74_2).f2).length c178_2)).trans hx180_0; replace hx180_0 := (q1y (p := ⟨gb179, 3, none⟩) (by first | (rw [q0q]; exact hn180_3) | (show (Addr.add _ _).block ≠ _; rw [q0q]; exact hn180_3) | exact hn180_3) (.string ((q00 l0_0 x74_2).f3))).trans hx180_0; replace hx180_0 := (q1y (p := ⟨gb179, 4, none⟩) (by first | (rw [q0q]; exact hn180_4) | (show (Addr.add _ _).block ≠ _; rw [q0q]; exact hn180_4) | exact hn180_4) (.int .i64 ((q00 l0_0 x74_2).f4))).trans hx180_0; replace hx180_0 := (q1y (p := ⟨gb179, 5, none⟩) (by first | (rw [q0q]; exact hn180_5) | (show (Addr.add _ _).block ≠ _; rw [q0q]; exact hn180_5) | exact hn180_5) (.slice A178_5 ((q00 l0_0 x74_2).f5).length c178_5)).trans hx180_0; clear hn180_0; clear hn180_1; clear hn180_2; clear hn180_3; clear hn180_4; clear hn180_5; replace p180 := eq_true p180; replace q180 := eq_true q180))
       go_ret
       exact ⟨by first | rfl | (simp [q05, q04] <;> rfl) | (simp [*, q05, q04] <;> rfl), by repeat (first | (with_reducible first | exact HB.out | apply bA | apply bN | apply bD | refine bS ?_ GE166.out | refine bS ?_ GE179.out) | exact HB.out)⟩
      case p70|n70 =>
       obtain rfl := Option.some.inj H
       have qi181 : (0 < l0_0.length) = True := eq_true (by omega)
       (try rw [show ((0 : Int)).toNat = 0 from rfl] at hx181_0)
       (try rw [show 0 * 6 = 0 from rfl] at hx181_0)
       (try rw [Addr.add_zero'] at hx181_0)
       (try rw [show ((0 : Int)).toNat = 0 from rfl] at hx181_1)
       (try rw [show 0 * 6 = 0 from rfl] at hx181_1)
       (try rw [Addr.add_zero'] at hx181_1)
       (try rw [show ((0 : Int)).toNat = 0 from rfl] at hx181_2)
       (try rw [show 0 * 6 = 0 from rfl] at hx181_2)
       (try rw [Addr.add_zero'] at hx181_2)
       (try rw [show ((0 : Int)).toNat = 0 from rfl] at hx181_3)
       (try rw [show 0 * 6 = 0 from rfl] at hx181_3)
       (try rw [Addr.add_zero'] at hx181_3)
       (try rw [show ((0 : Int)).toNat = 0 from rfl] at hx181_4)
       (try rw [show 0 * 6 = 0 from rfl] at hx181_4)
       (try rw [Addr.add_zero'] at hx181_4)
       (try rw [show ((0 : Int)).toNat = 0 from rfl] at hx181_5)
       (try rw [show 0 * 6 = 0 from rfl] at hx181_5)
       (try rw [Addr.add_zero'] at hx181_5)
       replace hx181_0 := q0b HB.out hx181_0
       replace hx181_1 := q0b HB.out hx181_1
       replace hx181_2 := q0b HB.out hx181_2
       replace hx181_3 := q0b HB.out hx181_3
       replace hx181_4 := q0b HB.out hx181_4
       replace hx181_5 := q0b HB.out hx181_5
       have HR181_2 := aS hi181_2
       have HC181_2 := aS hl181_2
       clear hi181_2 hl181_2
       have HR181_5 := aS hi181_5
       have HC181_5 := aS hl181_5
       clear hi181_5 hl181_5
       replace p181 := eq_true p181
       replace q181 := eq_true q181
       go_wp2
       go_ret
       exact ⟨by first | rfl | (simp [q05, q04] <;> rfl) | (simp [*, q05, q04] <;> rfl), by repeat (first | (with_reducible first | exact HB.out | apply bA | apply bN | apply bD | refine bS ?_ GE166.out) | exact HB.out)⟩
end Go.Proofs.YthjnallbbhnndaaDoor.XDe
namespace Go.Proofs.YthjnallbbhnndaaDoor.XDe
open Go.Proofs.YthjnallbbhnndaaDoor.Short Go.RowKit Go.Proofs.YthjnallbbhnndaaDoorW.PrintWords Go.Proofs.YthjnallbbhnndaaDoorW.PrintLast Go.Proofs.YthjnallbbhnndaaDoorW.PrintMore
attribute [local go_sem] q16 q14 q1g q1f q0s q0r q15 q13   -- for this text's walks alone
set_option linter.unusedVariables false
set_option linter.unusedSimpArgs false
def dom_up.l0 : Nat → Int → Int → List (S43) → Bool → Option (Int)
 | 0, _, _, _, _ => none
 | k + 1, x1, x4, x183000, x183001 => if 0 ≤ x1 then (if x1 < (x183000.length : Int) then (if ((q00 x183000 x1).f4) ≥ 0 then (if x4 ≤ (x183000.length : Int) then (dom_up.l0 k ((q00 x183000 x1).f4) (wrap64 (x4 + 1)) x183000 x183001) else (some x4)) else (some x4)) else (none)) else (none)
def dom_up.f (k : Nat) (l0_0 : List (S43)) (a0_1 : Bool) (a1 : Int) : Option (Int) := dom_up.l0 k a1 0 l0_0 a0_1
theorem dom_up.mono_l : ∀ k, (∀ y0 y1 y2 y3, LeO (dom_up.l0 k y0 y1 y2 y3) (dom_up.l0 (k + 1) y0 y1 y2 y3))
 | 0 => fun _ _ _ _ r h => by simp [dom_up.l0] at h
 | k + 1 => by
  have ih0 := dom_up.mono_l k
  ·intro y0 y1 y2 y3
   unfold dom_up.l0
   repeat' first | with_reducible first | apply ih0 | exact LeO.refl _ | exact LeO.none _ | refine LeO.ite ?_ ?_ | refine LeO.bind ?_ (fun _ => ?_) | (first | apply ih0 | exact LeO.none _ | refine LeO.ite ?_ ?_ | refine LeO.bind ?_ (fun _ => ?_))
theorem dom_up.mono : ∀ a0 a1 a2 k, LeO (dom_up.f k a0 a1 a2) (dom_up.f (k + 1) a0 a1 a2) := by
 intro a0 a1 a2 k
 have ih0 := dom_up.mono_l k
 unfold dom_up.f
 repeat' first | with_reducible first | apply ih0 | exact LeO.refl _ | exact LeO.none _ | refine LeO.ite ?_ ?_ | refine LeO.bind ?_ (fun _ => ?_) | (first | apply ih0 | exact LeO.none _ | refine LeO.ite ?_ ?_ | refine LeO.bind ?_ (fun _ => ?_))
set_option maxHeartbeats 8000000 in
set_option maxRecDepth 100000 in
theorem dom_up.calls (k : Nat) (A0_0 : Option Addr) (c0_0 : Nat) (l0_0 : List (S43)) (a0_1 : Bool) (a1 : Int) (r : Int) (w : World) (hr0_0 : Kd.C k43 w A0_0 l0_0.length l0_0) (hc0_0 : l0_0.length ≤ c0_0) (h : dom_up.f k l0_0 a0_1 a1 = some r) :
 Calls Tryd.prog 102 #[.agg #[.slice A0_0 l0_0.length c0_0, .bool a0_1], .int .i64 a1] w fun e w' => e = .returned (.int .i64 r) ∧ Below w.heap.size w w' := by
 have hu24 := Tryd.underlying24
 have HR0_0 := aS hr0_0
 have HC0_0 := aS hc0_0
 clear hr0_0 hc0_0
 have HB := aS (Below.refl w.heap.size w)
 have H := h; clear h; unfold dom_up.f at H
 have H' := aS H
 clear H
 go_enter Tryd.func102, Tryd.ntmps102
 go_wp2_with (first | ((with_reducible refine q07 (N := 2) rfl ?_); (try (refine q12 (by rfl) ?_; dsimp only)); refine box0 rfl (N := 2) rfl (cs := #[.slice A0_0 l0_0.length c0_0, .bool a0_1]) (t := 24) zh (z7 HB.out) ?_; clear HB; intro gb182 w3 BK182 GW182 HB; have GE182 := GW182))
 go_loopg [1, 4] k (fun kq v1 v4 w' => ∃ (x1_1 : Int) (x4_1 : Int), v1 = .int .i64 x1_1 ∧ v4 = .int .i64 x4_1 ∧ Aside0 (dom_up.l0 kq x1_1 x4_1 l0_0 a0_1 = some r) ∧ Aside0 (kq ≤ k) ∧ Aside0 (w'.heap[gb182]? = some (.cells #[(.slice A0_0 l0_0.length c0_0), .bool a0_1] 24 (0, 0))) ∧ Aside0 (Below w.heap.size w w'))
 case atStart => exact ⟨(a1), (0), zi, zi, H', ⟨Nat.le_refl _⟩, ⟨by (with_reducible repeat (first | refine kN ?_ _ | refine kD ?_ | refine kA ?_ _)); exact BK182.out⟩, ⟨by repeat (first | (with_reducible first | exact HB.out | apply bA | apply bN | apply bD | refine bS ?_ GE182.out) | exact HB.out)⟩⟩
 case round =>
  clear H'
  obtain ⟨x1_1, x4_1, rfl, rfl, HA, HK1, BK182, HB⟩ := hrel
  cases gk with
  | zero => exact absurd HA.out (by simp [dom_up.l0])
  | succ k1 =>
   have H := HA.out
   clear HA
   simp only [dom_up.l0] at H
   obtain ⟨hczL_0, hczL_1, hfzL_0, hfzL_1⟩ := bk2 BK182.out
   refine iLp H ?_; clear H; intro c4b0 H
   refine iTp H ?_; clear H; intro c5b0 H
   obtain ⟨ad183, A183_2, c183_2, A183_5, c183_5, e183, hx183_0, hx183_1, hx183_2, hx183_3, hx183_4, hx183_5, HC183_2, HR183_2, HC183_5, HR183_5, p183, q183⟩ := q0w HB.out HR0_0.out x1_1 zb zb
   cases e183
   refine iL H ?p6 ?n6 <;> clear H
   case' p6 => intro c6b0 H; refine iL H ?p7 ?n7 <;> clear H
   case' p7 => intro c7b0 H
   case' n7 => intro c7b0 H
   case' n6 => intro c6b0 H
   case p7 =>
    have H' := aS H
    clear H
    obtain ⟨ad184, A184_2, c184_2, A184_5, c184_5, e184, hx184_0, hx184_1, hx184_2, hx184_3, hx184_4, hx184_5, HC184_2, HR184_2, HC184_5, HR184_5, p184, q184⟩ := q0w HB.out HR0_0.out x1_1 zb zb
    obtain rfl : ad183 = ad184 := (by injection e184)
    have ea_ := Option.some.inj (hx183_2.symm.trans hx184_2)
    injection ea_ with ea_ en_ ec_
    subst ea_
    subst ec_
    clear en_
    have ea_ := Option.some.inj (hx183_5.symm.trans hx184_5)
    injection ea_ with ea_ en_ ec_
    subst ea_
    subst ec_
    clear en_
    go_wp2
    go_roundg k1
    case measure => have := HK1.out; omega
    case rel => exact ⟨((q00 l0_0 x1_1).f4), (wrap64 (x4_1 + 1)), zi, zi, H', ⟨by have := HK1.out; omega⟩, ⟨by (with_reducible repeat (first | refine kN ?_ _ | refine kD ?_ | refine kA ?_ _)); exact BK182.out⟩, ⟨by repeat (first | (with_reducible first | exact HB.out | apply bA | apply bN | apply bD | refine bS ?_ GE182.out) | exact HB.out)⟩⟩
   case n7|n6 =>
    obtain rfl := Option.some.inj H
    go_wp2
    go_ret
    exact ⟨by first | rfl | (simp [q05, q04] <;> rfl) | (simp [*, q05, q04] <;> rfl), by repeat (first | (with_reducible first | exact HB.out | apply bA | apply bN | apply bD | refine bS ?_ GE182.out) | exact HB.out)⟩
mutual
def dom_Check.l0 : Nat → List (S43) → Int → Int → List (S43) → Bool → Option (Int)
 | 0, _, _, _, _, _ => none
 | k + 1, x20, x21, x22, x186000, x186001 => if x22 < x21 then (if 0 ≤ x22 then (if x22 < (x20.length : Int) then (if ((((q00 x20 x22).f0) == 1) != (x22 == 0)) = true then (some 3) else ((dom_one.f k ((q00 x20 x22).f0) ((q00 x20 x22).f1) ((q00 x20 x22).f2) ((q00 x20 x22).f3) ((q00 x20 x22).f4) ((q00 x20 x22).f5)).bind fun t188 => (if t188 = 0 then (dom_Check.l0 k x20 x21 (wrap64 (x22 + 1)) x186000 x186001) else (some t188)))) else (none)) else (none)) else ((dom_kids.f k x186000 x186001).bind fun t189 => (if t189 = 0 then (dom_Check.l1 k (x186000.length : Int) 0 x186000 x186001) else (some t189)))
def dom_Check.l1 : Nat → Int → Int → List (S43) → Bool → Option (Int)
 | 0, _, _, _, _ => none
 | k + 1, x46, x47, x186000, x186001 => if x47 < x46 then ((dom_up.f k x186000 x186001 x47).bind fun t190 => (if t190 > (x186000.length : Int) then (some 8) else (if t190 > 40 then (some 2) else (dom_Check.l1 k x46 (wrap64 (x47 + 1)) x186000 x186001)))) else (some 0)
end
def dom_Check.f (k : Nat) (l0_0 : List (S43)) (a0_1 : Bool) : Option (Int) := if (l0_0.length : Int) > 200 then (some 2) else (if (l0_0.length : Int) = 0 then (some 3) else (dom_Check.l0 k l0_0 (l0_0.length : Int) 0 l0_0 a0_1))
theorem dom_Check.mono_l : ∀ k, (∀ y0 y1 y2 y3 y4, LeO (dom_Check.l0 k y0 y1 y2 y3 y4) (dom_Check.l0 (k + 1) y0 y1 y2 y3 y4)) ∧ (∀ y0 y1 y2 y3, LeO (dom_Check.l1 k y0 y1 y2 y3) (dom_Check.l1 (k + 1) y0 y1 y2 y3))
 | 0 => ⟨fun _ _ _ _ _ r h => by simp [dom_Check.l0] at h, fun _ _ _ _ r h => by simp [dom_Check.l1] at h⟩
 | k + 1 => by
  obtain ⟨ih0, ih1⟩ := dom_Check.mono_l k
  refine ⟨?_, ?_⟩
  all_goals intros
  all_goals (first | unfold dom_Check.l0 | unfold dom_Check.l1)
  all_goals (repeat' first | with_reducible first | apply ih0 | apply ih1 | apply dom_kids.mono | apply dom_one.mono | apply dom_up.mono | exact LeO.refl _ | exact LeO.none _ | refine LeO.ite ?_ ?_ | refine LeO.bind ?_ (fun _ => ?_) | (first | apply ih0 | apply ih1 | apply dom_kids.mono | apply dom_one.mono | apply dom_up.mono | exact LeO.none _ | refine LeO.ite ?_ ?_ | refine LeO.bind ?_ (fun _ => ?_)))
theorem dom_Check.mono : ∀ a0 a1 k, LeO (dom_Check.f k a0 a1) (dom_Check.f (k + 1) a0 a1) := by
 intro a0 a1 k
 obtain ⟨ih0, ih1⟩ := dom_Check.mono_l k
 unfold dom_Check.f
 repeat' first | with_reducible first | apply ih0 | apply ih1 | apply dom_kids.mono | apply dom_one.mono | apply dom_up.mono | exact LeO.refl _ | exact LeO.none _ | refine LeO.ite ?_ ?_ | refine LeO.bind ?_ (fun _ => ?_) | (first | apply ih0 | apply ih1 | apply dom_kids.mono | apply dom_one.mono | apply dom_up.mono | exact LeO.none _ | refine LeO.ite ?_ ?_ | refine LeO.bind ?_ (fun _ => ?_))
set_option maxHeartbeats 8000000 in
set_option maxRecDepth 100000 in
theorem dom_Check.calls (k : Nat) (A0_0 : Option Addr) (c0_0 : Nat) (l0_0 : List (S43)) (a0_1 : Bool) (r : Int) (w : World) (hr0_0 : Kd.C k43 w A0_0 l0_0.length l0_0) (hc0_0 : l0_0.length ≤ c0_0) (h : dom_Check.f k l0_0 a0_1 = some r) :
 Calls Tryd.prog 52 #[.agg #[.slice A0_0 l0_0.length c0_0, .bool a0_1]] w fun e w' => e = .returned (.int .i64 r) ∧ Below w.heap.size w w' := by
 have hu24 := Tryd.underlying24
 have hu43 := Tryd.underlying43
 have HR0_0 := aS hr0_0
 have HC0_0 := aS hc0_0
 clear hr0_0 hc0_0
 have HB := aS (Below.refl w.heap.size w)
 have H := h; clear h; unfold dom_Check.f at H
 refine iTN (m := 200) (n := l0_0.length) H rfl rfl ?p2 ?n2 <;> clear H
 case' p2 => intro c2b0 c2b1 H
 case' n2 => intro c2b0 c2b1 H; refine iG H ?p5 ?n5 <;> clear H
 case' p5 => intro c5 H; have c5b0 : ((l0_0.length : Int) == 0) = true := beq_iff_eq.mpr c5; have c5b1 : ((l0_0.length : Int) != 0) = false := bne_eq_false_iff_eq.mpr c5; clear c5
 case' n5 => intro c5 H; have c5b0 : ((l0_0.length : Int) == 0) = false := beq_eq_false_iff_ne.mpr c5; have c5b1 : ((l0_0.length : Int) != 0) = true := bne_iff_ne.mpr c5; have c5b2 : ¬ (l0_0 = []) := fun h_ => c5 (by rw [h_]; rfl)
 case p2 =>
  obtain rfl := Option.some.inj H
  go_enter Tryd.func52, Tryd.ntmps52
  go_wp2_with (first | ((with_reducible refine q07 (N := 1) rfl ?_); refine box0 rfl (N := 1) rfl (cs := #[.slice A0_0 l0_0.length c0_0, .bool a0_1]) (t := 24) zh (z7 HB.out) ?_; clear HB; intro gb185 w3 BK185 GW185 HB; have GE185 := GW185; obtain ⟨hczL_0, hczL_1, hfzL_0, hfzL_1⟩ := bk2 BK185.out))
  go_ret
  exact ⟨by first | rfl | (simp [q05, q04] <;> rfl) | (simp [*, q05, q04] <;> rfl), by repeat (first | (with_reducible first | exact HB.out | apply bA | apply bN | apply bD | refine bS ?_ GE185.out) | exact HB.out)⟩
 case p5 =>
  obtain rfl := Option.some.inj H
  go_enter Tryd.func52, Tryd.ntmps52
  go_wp2_with (first | ((with_reducible refine q07 (N := 1) rfl ?_); refine box0 rfl (N := 1) rfl (cs := #[.slice A0_0 l0_0.length c0_0, .bool a0_1]) (t := 24) zh (z7 HB.out) ?_; clear HB; intro gb185 w6 BK185 GW185 HB; have GE185 := GW185; obtain ⟨hczL_0, hczL_1, hfzL_0, hfzL_1⟩ := bk2 BK185.out))
  go_ret
  exact ⟨by first | rfl | (simp [q05, q04] <;> rfl) | (simp [*, q05, q04] <;> rfl), by repeat (first | (with_reducible first | exact HB.out | apply bA | apply bN | apply bD | refine bS ?_ GE185.out) | exact HB.out)⟩
 case n5 =>
  have H' := aS H
  clear H
  go_enter Tryd.func52, Tryd.ntmps52
  go_wp2_with (first | ((with_reducible refine q07 (N := 1) rfl ?_); refine box0 rfl (N := 1) rfl (cs := #[.slice A0_0 l0_0.length c0_0, .bool a0_1]) (t := 24) zh (z7 HB.out) ?_; clear HB; intro gb185 w8 BK185 GW185 HB; have GE185 := GW185; obtain ⟨hczL_0, hczL_1, hfzL_0, hfzL_1⟩ := bk2 BK185.out))
  go_loopg [22] k (fun kq v22 w' => ∃ (x22_1 : Int), v22 = .int .i64 x22_1 ∧ Aside0 (dom_Check.l0 kq l0_0 (l0_0.length : Int) x22_1 l0_0 a0_1 = some r) ∧ Aside0 (kq ≤ k) ∧ Aside0 (w'.heap[gb185]? = some (.cells #[(.slice A0_0 l0_0.length c0_0), .bool a0_1] 24 (0, 0))) ∧ Aside0 (Below w.heap.size w w'))
  case atStart => exact ⟨(0), zi, H', ⟨Nat.le_refl _⟩, ⟨by (with_reducible repeat (first | refine kN ?_ _ | refine kD ?_ | refine kA ?_ _)); exact BK185.out⟩, ⟨by repeat (first | (with_reducible first | exact HB.out | apply bA | apply bN | apply bD | refine bS ?_ GE185.out) | exact HB.out)⟩⟩
  case round =>
   clear H'
   obtain ⟨x22_1, rfl, HA, HK1, BK185, HB⟩ := hrel
   cases gk with
   | zero => exact absurd HA.out (by simp [dom_Check.l0])
   | succ k1 =>
    have H := HA.out
    clear HA
    simp only [dom_Check.l0] at H
    refine iT H ?p10 ?n10 <;> clear H
    case' p10 => intro c10b0 H; refine iLp H ?_; clear H; intro c11b0 H; refine iTp H ?_; clear H; intro c12b0 H; refine iG H ?p13 ?n13 <;> clear H
    case' p13 => intro c13 H; have c13b0 : ((((q00 l0_0 x22_1).f0) == 1) != (x22_1 == 0)) = true := c13
    case' n13 =>
     intro c13 H
     have c13b0 : ((((q00 l0_0 x22_1).f0) == 1) != (x22_1 == 0)) = false := by simpa using c13
     (try (have c13b1 : decide ((((q00 l0_0 x22_1).f0) == 1) = (x22_1 == 0)) = true := by simpa using c13))
     (try (have c13b2 : ((((q00 l0_0 x22_1).f0) == 1) == (x22_1 == 0)) = true := by simpa using c13))
     clear c13
     replace H := iB H
     obtain ⟨t188, A17, H⟩ := H
     obtain ⟨ad186, A186_2, c186_2, A186_5, c186_5, e186, hx186_0, hx186_1, hx186_2, hx186_3, hx186_4, hx186_5, HC186_2, HR186_2, HC186_5, HR186_5, p186, q186⟩ := q0w HB.out HR0_0.out x22_1 zb zb
     cases e186
     refine iE H ?p18 ?n18 <;> clear H
    case' p18 => intro c18b0 c18b1 H
    case' n18 => intro c18 c18b0 c18b1 H
    case' n10 => intro c10b0 H; replace H := iB H; obtain ⟨t189, A27, H⟩ := H; obtain ⟨hczL_0, hczL_1, hfzL_0, hfzL_1⟩ := bk2 BK185.out; refine iE H ?p28 ?n28 <;> clear H
    case' p28 => intro c28b0 c28b1 H
    case' n28 => intro c28 c28b0 c28b1 H
    case p13 =>
     (try (have c13b1 : decide ((((q00 l0_0 x22_1).f0) == 1) = (x22_1 == 0)) = false := by simpa using c13))
     (try (have c13b2 : ((((q00 l0_0 x22_1).f0) == 1) == (x22_1 == 0)) = false := by simpa using c13))
     (try (have c13b3 : ¬ ((((q00 l0_0 x22_1).f0) == 1) = (x22_1 == 0)) := by simpa using c13))
     clear c13
     obtain rfl := Option.some.inj H
     obtain ⟨ad186, A186_2, c186_2, A186_5, c186_5, e186, hx186_0, hx186_1, hx186_2, hx186_3, hx186_4, hx186_5, HC186_2, HR186_2, HC186_5, HR186_5, p186, q186⟩ := q0w HB.out HR0_0.out x22_1 zb zb
     cases e186
     go_wp2_with (first | ((with_reducible refine q07 (N := 4) rfl ?_); refine q0t ?hg (N := 4) ?hd (cs := #[.int .i64 0, .string (⟨#[]⟩ : ByteArray), .slice none 0 0, .string (⟨#[]⟩ : ByteArray), .int .i64 0, .slice none 0 0]) (t := 43) ?hr ?_; (case hd => rfl); (case hg => rfl); (case hr => first | (go_simp; done) | (go_simp; rfl)); intro gb187 hg w14 hbox hb; have n0_ := aS (q02 (g := gb185) (o := .cells #[.slice (some ad186) l0_0.length c0_0, .bool a0_1] 24 (0, 0)) (za BK185.out) hb); have n1_ := aS (q01 (z6 HB.out GE185.out) hb); have n2_ := aS (hbox); have n3_ := aS ((by rw [hg]; exact (q0c (z6 HB.out GE185.out)) : w.heap.size ≤ gb187)); have n4_ := aS ((by rw [hg]; exact (q0c (z6 HB.out GE185.out)) : w.heap.size ≤ gb187)); have n5_ := aS ((by rw [hg]; exact Nat.ne_of_lt (q0a (g := gb185) (o := .cells #[.slice (some ad186) l0_0.length c0_0, .bool a0_1] 24 (0, 0)) (za BK185.out)) : gb185 ≠ gb187)); have n6_ := aS ((by rw [hg]; exact Nat.ne_of_gt (q0a (g := gb185) (o := .cells #[.slice (some ad186) l0_0.length c0_0, .bool a0_1] 24 (0, 0)) (za BK185.out)) : gb187 ≠ gb185)); clear BK185; clear HB; have BK185 := n0_; have HB := n1_; have BK187 := n2_; have GW187 := n3_; have GE187 := n4_; have NB185_187 := n5_; have NB187_185 := n6_; clear n0_ n1_ n2_ n3_ n4_ n5_ n6_; clear hb hbox hg; have hnb15 := NB187_185.out; have hnc15 := NB185_187.out; obtain ⟨hczL_0, hczL_1, hczL_2, hczL_3, hczL_4, hczL_5, hfzL_0, hfzL_1, hfzL_2, hfzL_3, hfzL_4, hfzL_5⟩ := bk6 BK187.out))
     go_ret
     exact ⟨by first | rfl | (simp [q05, q04] <;> rfl) | (simp [*, q05, q04] <;> rfl), by repeat (first | (with_reducible first | exact HB.out | apply bA | apply bN | apply bD | refine bS ?_ GE185.out | refine bS ?_ GE187.out) | exact HB.out)⟩
    case p18 =>
     have H' := aS H
     clear H
     go_wp2_with (first | ((with_reducible refine q07 (N := 4) rfl ?_); refine q0t ?hg (N := 4) ?hd (cs := #[.int .i64 0, .string (⟨#[]⟩ : ByteArray), .slice none 0 0, .string (⟨#[]⟩ : ByteArray), .int .i64 0, .slice none 0 0]) (t := 43) ?hr ?_; (case hd => rfl); (case hg => rfl); (case hr => first | (go_simp; done) | (go_simp; rfl)); intro gb187 hg w19 hbox hb; have n0_ := aS (q02 (g := gb185) (o := .cells #[.slice (some ad186) l0_0.length c0_0, .bool a0_1] 24 (0, 0)) (za BK185.out) hb); have n1_ := aS (q01 (z6 HB.out GE185.out) hb); have n2_ := aS (hbox); have n3_ := aS ((by rw [hg]; exact (q0c (z6 HB.out GE185.out)) : w.heap.size ≤ gb187)); have n4_ := aS ((by rw [hg]; exact (q0c (z6 HB.out GE185.out)) : w.heap.size ≤ gb187)); have n5_ := aS ((by rw [hg]; exact Nat.ne_of_lt (q0a (g := gb185) (o := .cells #[.slice (some ad186) l0_0.length c0_0, .bool a0_1] 24 (0, 0)) (za BK185.out)) : gb185 ≠ gb187)); have n6_ := aS ((by rw [hg]; exact Nat.ne_of_gt (q0a (g := gb185) (o := .cells #[.slice (some ad186) l0_0.length c0_0, .bool a0_1] 24 (0, 0)) (za BK185.out)) : gb187 ≠ gb185)); clear BK185; clear HB; have BK185 := n0_; have HB := n1_; have BK187 := n2_; have GW187 := n3_; have GE187 := n4_; have NB185_187 := n5_; have NB187_185 := n6_; clear n0_ n1_ n2_ n3_ n4_ n5_ n6_; clear hb hbox hg; have hnb20 := NB187_185.out; have hnc20 := NB185_187.out; obtain ⟨hczL_0, hczL_1, hczL_2, hczL_3, hczL_4, hczL_5, hfzL_0, hfzL_1, hfzL_2, hfzL_3, hfzL_4, hfzL_5⟩ := bk6 BK187.out) | ((with_reducible refine q0j (f := 100) rfl ?_); refine q1d (some 34) rfl rfl Tryd.func100 (by kernel_rfl) rfl #[.agg #[.int .i64 ((q00 l0_0 x22_1).f0), .string ((q00 l0_0 x22_1).f1), .slice A186_2 ((q00 l0_0 x22_1).f2).length c186_2, .string ((q00 l0_0 x22_1).f3), .int .i64 ((q00 l0_0 x22_1).f4), .slice A186_5 ((q00 l0_0 x22_1).f5).length c186_5]] rfl zc ?_; (with_reducible refine (dom_one.calls k1 ((q00 l0_0 x22_1).f0) ((q00 l0_0 x22_1).f1) _ _ ((q00 l0_0 x22_1).f2) ((q00 l0_0 x22_1).f3) ((q00 l0_0 x22_1).f4) _ _ ((q00 l0_0 x22_1).f5) t188 _ ?side1 ?side2 ?side3 ?side4 A17.out).mono ?_); (case side1 => exact Kd.C_below HR186_2.out (by repeat (first | (with_reducible first | exact HB.out | apply bA | apply bN | apply bD | refine bS ?_ GE185.out | refine bS ?_ GE187.out) | exact HB.out))); (case side2 => exact HC186_2.out); (case side3 => exact Kd.C_below HR186_5.out (by repeat (first | (with_reducible first | exact HB.out | apply bA | apply bN | apply bD | refine bS ?_ GE185.out | refine bS ?_ GE187.out) | exact HB.out))); (case side4 => exact HC186_5.out); rintro e w22 ⟨rfl, hb⟩; refine ⟨_, rfl, ?_⟩; replace BK185 := aS (q02 (g := gb185) (o := .cells #[.slice (some ad186) l0_0.length c0_0, .bool a0_1] 24 (0, 0)) (by (with_reducible repeat (first | refine kN ?_ _ | refine kD ?_ | refine kA ?_ _)); refine q0l ?_ NB185_187.out _; (with_reducible repeat (first | refine kN ?_ _ | refine kD ?_ | refine kA ?_ _)); refine q0l ?_ NB185_187.out _; (with_reducible repeat (first | refine kN ?_ _ | refine kD ?_ | refine kA ?_ _)); refine q0l ?_ NB185_187.out _; (with_reducible repeat (first | refine kN ?_ _ | refine kD ?_ | refine kA ?_ _)); refine q0l ?_ NB185_187.out _; (with_reducible repeat (first | refine kN ?_ _ | refine kD ?_ | refine kA ?_ _)); refine q0l ?_ NB185_187.out _; (with_reducible repeat (first | refine kN ?_ _ | refine kD ?_ | refine kA ?_ _)); refine q0l ?_ NB185_187.out _; (with_reducible repeat (first | refine kN ?_ _ | refine kD ?_ | refine kA ?_ _)); exact BK185.out) hb); replace BK187 := aS (q02 (g := gb187) (o := .cells #[.int .i64 ((q00 l0_0 x22_1).f0), .string ((q00 l0_0 x22_1).f1), .slice A186_2 ((q00 l0_0 x22_1).f2).length c186_2, .string ((q00 l0_0 x22_1).f3), .int .i64 ((q00 l0_0 x22_1).f4), .slice A186_5 ((q00 l0_0 x22_1).f5).length c186_5] 43 (0, 0)) (by (with_reducible repeat (first | refine kN ?_ _ | refine kD ?_ | refine kA ?_ _)); refine q0o (cs := #[.int .i64 ((q00 l0_0 x22_1).f0), .string ((q00 l0_0 x22_1).f1), .slice A186_2 ((q00 l0_0 x22_1).f2).length c186_2, .string ((q00 l0_0 x22_1).f3), .int .i64 ((q00 l0_0 x22_1).f4), .slice none 0 0]) ?_ 5 _ rfl; (with_reducible repeat (first | refine kN ?_ _ | refine kD ?_ | refine kA ?_ _)); refine q0o (cs := #[.int .i64 ((q00 l0_0 x22_1).f0), .string ((q00 l0_0 x22_1).f1), .slice A186_2 ((q00 l0_0 x22_1).f2).length c186_2, .string ((q00 l0_0 x22_1).f3), .int .i64 0, .slice none 0 0]) ?_ 4 _ rfl; (with_reducible repeat (first | refine kN ?_ _ | refine kD ?_ | refine kA ?_ _)); refine q0o (cs := #[.int .i64 ((q00 l0_0 x22_1).f0), .string ((q00 l0_0 x22_1).f1), .slice A186_2 ((q00 l0_0 x22_1).f2).length c186_2, .string (⟨#[]⟩ : ByteArray), .int .i64 0, .slice none 0 0]) ?_ 3 _ rfl; (with_reducible repeat (first | refine kN ?_ _ | refine kD ?_ | refine kA ?_ _)); refine q0o (cs := #[.int .i64 ((q00 l0_0 x22_1).f0), .string ((q00 l0_0 x22_1).f1), .slice none 0 0, .string (⟨#[]⟩ : ByteArray), .int .i64 0, .slice none 0 0]) ?_ 2 _ rfl; (with_reducible repeat (first | refine kN ?_ _ | refine kD ?_ | refine kA ?_ _)); refine q0o (cs := #[.int .i64 ((q00 l0_0 x22_1).f0), .string (⟨#[]⟩ : ByteArray), .slice none 0 0, .string (⟨#[]⟩ : ByteArray), .int .i64 0, .slice none 0 0]) ?_ 1 _ rfl; (with_reducible repeat (first | refine kN ?_ _ | refine kD ?_ | refine kA ?_ _)); refine q0o (cs := #[.int .i64 0, .string (⟨#[]⟩ : ByteArray), .slice none 0 0, .string (⟨#[]⟩ : ByteArray), .int .i64 0, .slice none 0 0]) ?_ 0 _ rfl; (with_reducible repeat (first | refine kN ?_ _ | refine kD ?_ | refine kA ?_ _)); exact BK187.out) hb); replace HB := aS (q01 (by repeat (first | (with_reducible first | exact HB.out | apply bA | apply bN | apply bD | refine bS ?_ GE185.out | refine bS ?_ GE187.out) | exact HB.out)) hb); (try clear hb); (try clear hb2); (try clear hk); (try clear hi)))
     go_roundg k1
     case measure => have := HK1.out; omega
     case rel => exact ⟨(wrap64 (x22_1 + 1)), zi, H', ⟨by have := HK1.out; omega⟩, ⟨by (with_reducible repeat (first | refine kN ?_ _ | refine kD ?_ | refine kA ?_ _)); exact BK185.out⟩, ⟨by repeat (first | (with_reducible first | exact HB.out | apply bA | apply bN | apply bD | refine bS ?_ GE185.out | refine bS ?_ GE187.out) | exact HB.out)⟩⟩
    case n18 =>
     obtain rfl := Option.some.inj H
     go_wp2_with (first | ((with_reducible refine q07 (N := 4) rfl ?_); refine q0t ?hg (N := 4) ?hd (cs := #[.int .i64 0, .string (⟨#[]⟩ : ByteArray), .slice none 0 0, .string (⟨#[]⟩ : ByteArray), .int .i64 0, .slice none 0 0]) (t := 43) ?hr ?_; (case hd => rfl); (case hg => rfl); (case hr => first | (go_simp; done) | (go_simp; rfl)); intro gb187 hg w23 hbox hb; have n0_ := aS (q02 (g := gb185) (o := .cells #[.slice (some ad186) l0_0.length c0_0, .bool a0_1] 24 (0, 0)) (za BK185.out) hb); have n1_ := aS (q01 (z6 HB.out GE185.out) hb); have n2_ := aS (hbox); have n3_ := aS ((by rw [hg]; exact (q0c (z6 HB.out GE185.out)) : w.heap.size ≤ gb187)); have n4_ := aS ((by rw [hg]; exact (q0c (z6 HB.out GE185.out)) : w.heap.size ≤ gb187)); have n5_ := aS ((by rw [hg]; exact Nat.ne_of_lt (q0a (g := gb185) (o := .cells #[.slice (some ad186) l0_0.length c0_0, .bool a0_1] 24 (0, 0)) (za BK185.out)) : gb185 ≠ gb187)); have n6_ := aS ((by rw [hg]; exact Nat.ne_of_gt (q0a (g := gb185) (o := .cells #[.slice (some ad186) l0_0.length c0_0, .bool a0_1] 24 (0, 0)) (za BK185.out)) : gb187 ≠ gb185)); clear BK185; clear HB; have BK185 := n0_; have HB := n1_; have BK187 := n2_; have GW187 := n3_; have GE187 := n4_; have NB185_187 := n5_; have NB187_185 := n6_; clear n0_ n1_ n2_ n3_ n4_ n5_ n6_; clear hb hbox hg; have hnb24 := NB187_185.out; have hnc24 := NB185_187.out; obtain ⟨hczL_0, hczL_1, hczL_2, hczL_3, hczL_4, hczL_5, hfzL_0, hfzL_1, hfzL_2, hfzL_3, hfzL_4, hfzL_5⟩ := bk6 BK187.out) | ((with_reducible refine q0j (f := 100) rfl ?_); refine q1d (some 34) rfl rfl Tryd.func100 (by kernel_rfl) rfl #[.agg #[.int .i64 ((q00 l0_0 x22_1).f0), .string ((q00 l0_0 x22_1).f1), .slice A186_2 ((q00 l0_0 x22_1).f2).length c186_2, .string ((q00 l0_0 x22_1).f3), .int .i64 ((q00 l0_0 x22_1).f4), .slice A186_5 ((q00 l0_0 x22_1).f5).length c186_5]] rfl zc ?_; (with_reducible refine (dom_one.calls k1 ((q00 l0_0 x22_1).f0) ((q00 l0_0 x22_1).f1) _ _ ((q00 l0_0 x22_1).f2) ((q00 l0_0 x22_1).f3) ((q00 l0_0 x22_1).f4) _ _ ((q00 l0_0 x22_1).f5) t188 _ ?side1 ?side2 ?side3 ?side4 A17.out).mono ?_); (case side1 => exact Kd.C_below HR186_2.out (by repeat (first | (with_reducible first | exact HB.out | apply bA | apply bN | apply bD | refine bS ?_ GE185.out | refine bS ?_ GE187.out) | exact HB.out))); (case side2 => exact HC186_2.out); (case side3 => exact Kd.C_below HR186_5.out (by repeat (first | (with_reducible first | exact HB.out | apply bA | apply bN | apply bD | refine bS ?_ GE185.out | refine bS ?_ GE187.out) | exact HB.out))); (case side4 => exact HC186_5.out); rintro e w26 ⟨rfl, hb⟩; refine ⟨_, rfl, ?_⟩; replace BK185 := aS (q02 (g := gb185) (o := .cells #[.slice (some ad186) l0_0.length c0_0, .bool a0_1] 24 (0, 0)) (by (with_reducible repeat (first | refine kN ?_ _ | refine kD ?_ | refine kA ?_ _)); refine q0l ?_ NB185_187.out _; (with_reducible repeat (first | refine kN ?_ _ | refine kD ?_ | refine kA ?_ _)); refine q0l ?_ NB185_187.out _; (with_reducible repeat (first | refine kN ?_ _ | refine kD ?_ | refine kA ?_ _)); refine q0l ?_ NB185_187.out _; (with_reducible repeat (first | refine kN ?_ _ | refine kD ?_ | refine kA ?_ _)); refine q0l ?_ NB185_187.out _; (with_reducible repeat (first | refine kN ?_ _ | refine kD ?_ | refine kA ?_ _)); refine q0l ?_ NB185_187.out _; (with_reducible repeat (first | refine kN ?_ _ | refine kD ?_ | refine kA ?_ _)); refine q0l ?_ NB185_187.out _; (with_reducible repeat (first | refine kN ?_ _ | refine kD ?_ | refine kA ?_ _)); exact BK185.out) hb); replace BK187 := aS (q02 (g := gb187) (o := .cells #[.int .i64 ((q00 l0_0 x22_1).f0), .string ((q00 l0_0 x22_1).f1), .slice A186_2 ((q00 l0_0 x22_1).f2).length c186_2, .string ((q00 l0_0 x22_1).f3), .int .i64 ((q00 l0_0 x22_1).f4), .slice A186_5 ((q00 l0_0 x22_1).f5).length c186_5] 43 (0, 0)) (by (with_reducible repeat (first | refine kN ?_ _ | refine kD ?_ | refine kA ?_ _)); refine q0o (cs := #[.int .i64 ((q00 l0_0 x22_1).f0), .string ((q00 l0_0 x22_1).f1), .slice A186_2 ((q00 l0_0 x22_1).f2).length c186_2, .string ((q00 l0_0 x22_1).f3), .int .i64 ((q00 l0_0 x22_1).f4), .slice none 0 0]) ?_ 5 _ rfl; (with_reducible repeat (first | refine kN ?_ _ | refine kD ?_ | refine kA ?_ _)); refine q0o (cs := #[.int .i64 ((q00 l0_0 x22_1).f0), .string ((q00 l0_0 x22_1).f1), .slice A186_2 ((q00 l0_0 x22_1).f2).length c186_2, .string ((q00 l0_0 x22_1).f3), .int .i64 0, .slice none 0 0]) ?_ 4 _ rfl; (with_reducible repeat (first | refine kN ?_ _ | refine kD ?_ | refine kA ?_ _)); refine q0o (cs := #[.int .i64 ((q00 l0_0 x22_1).f0), .string ((q00 l0_0 x22_1).f1), .slice A186_2 ((q00 l0_0 x22_1).f2).length c186_2, .string (⟨#[]⟩ : ByteArray), .int .i64 0, .slice none 0 0]) ?_ 3 _ rfl; (with_reducible repeat (first | refine kN ?_ _ | refine kD ?_ | refine kA ?_ _)); refine q0o (cs := #[.int .i64 ((q00 l0_0 x22_1).f0), .string ((q00 l0_0 x22_1).f1), .slice none 0 0, .string (⟨#[]⟩ : ByteArray), .int .i64 0, .slice none 0 0]) ?_ 2 _ rfl; (with_reducible repeat (first | refine kN ?_ _ | refine kD ?_ | refine kA ?_ _)); refine q0o (cs := #[.int .i64 ((q00 l0_0 x22_1).f0), .string (⟨#[]⟩ : ByteArray), .slice none 0 0, .string (⟨#[]⟩ : ByteArray), .int .i64 0, .slice none 0 0]) ?_ 1 _ rfl; (with_reducible repeat (first | refine kN ?_ _ | refine kD ?_ | refine kA ?_ _)); refine q0o (cs := #[.int .i64 0, .string (⟨#[]⟩ : ByteArray), .slice none 0 0, .string (⟨#[]⟩ : ByteArray), .int .i64 0, .slice none 0 0]) ?_ 0 _ rfl; (with_reducible repeat (first | refine kN ?_ _ | refine kD ?_ | refine kA ?_ _)); exact BK187.out) hb); replace HB := aS (q01 (by repeat (first | (with_reducible first | exact HB.out | apply bA | apply bN | apply bD | refine bS ?_ GE185.out | refine bS ?_ GE187.out) | exact HB.out)) hb); (try clear hb); (try clear hb2); (try clear hk); (try clear hi)))
     go_ret
     exact ⟨by first | rfl | (simp [q05, q04] <;> rfl) | (simp [*, q05, q04] <;> rfl), by repeat (first | (with_reducible first | exact HB.out | apply bA | apply bN | apply bD | refine bS ?_ GE185.out | refine bS ?_ GE187.out) | exact HB.out)⟩
    case p28 =>
     have H' := aS H
     clear H
     go_wp2_with (first | ((with_reducible refine q0j (f := 101) rfl ?_); refine q1d (some 40) rfl rfl Tryd.func101 (by kernel_rfl) rfl #[.agg #[.slice A0_0 l0_0.length c0_0, .bool a0_1]] rfl zc ?_; (with_reducible refine (dom_kids.calls k1 _ _ l0_0 a0_1 t189 _ ?side1 ?side2 A27.out).mono ?_); (case side1 => repeat (first | exact (Kd.C_below HR0_0.out HB.out) | (with_reducible refine cA ?_ _) | (with_reducible refine cN ?_ _) | (with_reducible refine cD ?_))); (case side2 => exact HC0_0.out); rintro e w30 ⟨rfl, hb⟩; refine ⟨_, rfl, ?_⟩; replace BK185 := aS (q02 (g := gb185) (o := .cells #[.slice A0_0 l0_0.length c0_0, .bool a0_1] 24 (0, 0)) (za BK185.out) hb); replace HB := aS (q01 (z6 HB.out GE185.out) hb); (try clear hb); (try clear hb2); (try clear hk); (try clear hi); obtain ⟨hczL_0, hczL_1, hfzL_0, hfzL_1⟩ := bk2 BK185.out))
     go_loopg [47] k1 (fun kq v47 w' => ∃ (x47_2 : Int), v47 = .int .i64 x47_2 ∧ Aside0 (dom_Check.l1 kq (l0_0.length : Int) x47_2 l0_0 a0_1 = some r) ∧ Aside0 (kq ≤ k1) ∧ Aside0 (w'.heap[gb185]? = some (.cells #[(.slice A0_0 l0_0.length c0_0), .bool a0_1] 24 (0, 0))) ∧ Aside0 (Below w.heap.size w w'))
     case atStart => exact ⟨(0), zi, H', ⟨Nat.le_refl _⟩, ⟨by (with_reducible repeat (first | refine kN ?_ _ | refine kD ?_ | refine kA ?_ _)); exact BK185.out⟩, ⟨by repeat (first | (with_reducible first | exact HB.out | apply bA | apply bN | apply bD | refine bS ?_ GE185.out) | exact HB.out)⟩⟩
     case round =>
      clear H'
      obtain ⟨x47_2, rfl, HA, HK2, BK185, HB⟩ := hrel
      cases gk with
      | zero => exact absurd HA.out (by simp [dom_Check.l1])
      | succ k2 =>
       have H := HA.out
       clear HA
       simp only [dom_Check.l1] at H
       refine iT H ?p32 ?n32 <;> clear H
       case' p32 => intro c32b0 H; replace H := iB H; obtain ⟨t190, A33, H⟩ := H; obtain ⟨hczL_0, hczL_1, hfzL_0, hfzL_1⟩ := bk2 BK185.out; refine iT H ?p34 ?n34 <;> clear H
       case' p34 => intro c34b0 H
       case' n34 => intro c34b0 H; refine iT H ?p38 ?n38 <;> clear H
       case' p38 => intro c38b0 H
       case' n38 => intro c38b0 H
       case' n32 => intro c32b0 H
       case p34 =>
        obtain rfl := Option.some.inj H
        go_wp2_with (first | ((with_reducible refine q0j (f := 102) rfl ?_); refine q1d (some 52) rfl rfl Tryd.func102 (by kernel_rfl) rfl #[.agg #[.slice A0_0 l0_0.length c0_0, .bool a0_1], .int .i64 x47_2] rfl zc ?_; (with_reducible refine (dom_up.calls k2 _ _ l0_0 a0_1 x47_2 t190 _ ?side1 ?side2 A33.out).mono ?_); (case side1 => repeat (first | exact (Kd.C_below HR0_0.out HB.out) | (with_reducible refine cA ?_ _) | (with_reducible refine cN ?_ _) | (with_reducible refine cD ?_))); (case side2 => exact HC0_0.out); rintro e w36 ⟨rfl, hb⟩; refine ⟨_, rfl, ?_⟩; replace BK185 := aS (q02 (g := gb185) (o := .cells #[.slice A0_0 l0_0.length c0_0, .bool a0_1] 24 (0, 0)) (za BK185.out) hb); replace HB := aS (q01 (z6 HB.out GE185.out) hb); (try clear hb); (try clear hb2); (try clear hk); (try clear hi); obtain ⟨hczL_0, hczL_1, hfzL_0, hfzL_1⟩ := bk2 BK185.out))
        go_ret
        exact ⟨by first | rfl | (simp [q05, q04] <;> rfl) | (simp [*, q05, q04] <;> rfl), by repeat (first | (with_reducible first | exact HB.out | apply bA | apply bN | apply bD | refine bS ?_ GE185.out) | exact HB.out)⟩
       case p38 =>
        obtain rfl := Option.some.inj H
        go_wp2_with (first | ((with_reducible refine q0j (f := 102) rfl ?_); refine q1d (some 52) rfl rfl Tryd.func102 (by kernel_rfl) rfl #[.agg #[.slice A0_0 l0_0.length c0_0, .bool a0_1], .int .i64 x47_2] rfl zc ?_; (with_reducible refine (dom_up.calls k2 _ _ l0_0 a0_1 x47_2 t190 _ ?side1 ?side2 A33.out).mono ?_); (case side1 => repeat (first | exact (Kd.C_below HR0_0.out HB.out) | (with_reducible refine cA ?_ _) | (with_reducible refine cN ?_ _) | (with_reducible refine cD ?_))); (case side2 => exact HC0_0.out); rintro e w40 ⟨rfl, hb⟩; refine ⟨_, rfl, ?_⟩; replace BK185 := aS (q02 (g := gb185) (o := .cells #[.slice A0_0 l0_0.length c0_0, .bool a0_1] 24 (0, 0)) (za BK185.out) hb); replace HB := aS (q01 (z6 HB.out GE185.out) hb); (try clear hb); (try clear hb2); (try clear hk); (try clear hi); obtain ⟨hczL_0, hczL_1, hfzL_0, hfzL_1⟩ := bk2 BK185.out))
        go_ret
        exact ⟨by first | rfl | (simp [q05, q04] <;> rfl) | (simp [*, q05, q04] <;> rfl), by repeat (first | (with_reducible first | exact HB.out | apply bA | apply bN | apply bD | refine bS ?_ GE185.out) | exact HB.out)⟩
       case n38 =>
        have H' := aS H
        clear H
        go_wp2_with (first | ((with_reducible refine q0j (f := 102) rfl ?_); refine q1d (some 52) rfl rfl Tryd.func102 (by kernel_rfl) rfl #[.agg #[.slice A0_0 l0_0.length c0_0, .bool a0_1], .int .i64 x47_2] rfl zc ?_; (with_reducible refine (dom_up.calls k2 _ _ l0_0 a0_1 x47_2 t190 _ ?side1 ?side2 A33.out).mono ?_); (case side1 => repeat (first | exact (Kd.C_below HR0_0.out HB.out) | (with_reducible refine cA ?_ _) | (with_reducible refine cN ?_ _) | (with_reducible refine cD ?_))); (case side2 => exact HC0_0.out); rintro e w43 ⟨rfl, hb⟩; refine ⟨_, rfl, ?_⟩; replace BK185 := aS (q02 (g := gb185) (o := .cells #[.slice A0_0 l0_0.length c0_0, .bool a0_1] 24 (0, 0)) (za BK185.out) hb); replace HB := aS (q01 (z6 HB.out GE185.out) hb); (try clear hb); (try clear hb2); (try clear hk); (try clear hi); obtain ⟨hczL_0, hczL_1, hfzL_0, hfzL_1⟩ := bk2 BK185.out))
        go_roundg k2
        case measure => have := HK1.out; have := HK2.out; omega
        case rel => exact ⟨(wrap64 (x47_2 + 1)), zi, H', ⟨by have := HK1.out; have := HK2.out; omega⟩, ⟨by (with_reducible repeat (first | refine kN ?_ _ | refine kD ?_ | refine kA ?_ _)); exact BK185.out⟩, ⟨by repeat (first | (with_reducible first | exact HB.out | apply bA | apply bN | apply bD | refine bS ?_ GE185.out) | exact HB.out)⟩⟩
       case n32 =>
        obtain rfl := Option.some.inj H
        go_wp2
        go_ret
        exact ⟨by first | rfl | (simp [q05, q04] <;> rfl) | (simp [*, q05, q04] <;> rfl), by repeat (first | (with_reducible first | exact HB.out | apply bA | apply bN | apply bD | refine bS ?_ GE185.out) | exact HB.out)⟩
    case n28 =>
     obtain rfl := Option.some.inj H
     go_wp2_with (first | ((with_reducible refine q0j (f := 101) rfl ?_); refine q1d (some 40) rfl rfl Tryd.func101 (by kernel_rfl) rfl #[.agg #[.slice A0_0 l0_0.length c0_0, .bool a0_1]] rfl zc ?_; (with_reducible refine (dom_kids.calls k1 _ _ l0_0 a0_1 t189 _ ?side1 ?side2 A27.out).mono ?_); (case side1 => repeat (first | exact (Kd.C_below HR0_0.out HB.out) | (with_reducible refine cA ?_ _) | (with_reducible refine cN ?_ _) | (with_reducible refine cD ?_))); (case side2 => exact HC0_0.out); rintro e w46 ⟨rfl, hb⟩; refine ⟨_, rfl, ?_⟩; replace BK185 := aS (q02 (g := gb185) (o := .cells #[.slice A0_0 l0_0.length c0_0, .bool a0_1] 24 (0, 0)) (za BK185.out) hb); replace HB := aS (q01 (z6 HB.out GE185.out) hb); (try clear hb); (try clear hb2); (try clear hk); (try clear hi)))
     go_ret
     exact ⟨by first | rfl | (simp [q05, q04] <;> rfl) | (simp [*, q05, q04] <;> rfl), by repeat (first | (with_reducible first | exact HB.out | apply bA | apply bN | apply bD | refine bS ?_ GE185.out) | exact HB.out)⟩
def dom_New.f  : Option ((List (S43)) × Bool) := some ((([(⟨1, (⟨#[]⟩ : ByteArray), ([] : List (S122)), (⟨#[]⟩ : ByteArray), (-1), ([] : List Int)⟩ : S43)] : List (S43))), false)
set_option maxHeartbeats 8000000 in
set_option maxRecDepth 100000 in
theorem dom_New.calls  (r1 : List (S43)) (r2 : Bool) (w : World) (h : dom_New.f  = some (r1, r2)) :
 Calls Tryd.prog 54 #[] w fun e w' => ∃ v0_ : Value, e = .returned (.agg #[v0_, .bool r2]) ∧ Kd.S k43 43 w' w.heap.size (fun _ => True) v0_ r1 ∧ Below w.heap.size w w' := by
 have hu24 := Tryd.underlying24
 have hu43 := Tryd.underlying43
 have HB := aS (Below.refl w.heap.size w)
 have H := h; clear h; unfold dom_New.f at H
 obtain ⟨y192, hy192⟩ : ∃ y_ : List (S43), y_ = (([(⟨1, (⟨#[]⟩ : ByteArray), ([] : List (S122)), (⟨#[]⟩ : ByteArray), (-1), ([] : List Int)⟩ : S43)] : List (S43))) := ⟨_, rfl⟩
 replace H : (some (y192, false)) = some (r1, r2) := by first | (rw [hy192]; with_reducible exact H) | (have H2_ := (Option.bind_some _ _).symm.trans H; rw [hy192]; with_reducible exact H2_) | (have H2_ := (Option.bind_some _ _).symm.trans H; with_reducible exact H2_) | with_reducible exact H | (rw [hy192]; exact H) | exact H
 have Ny192 := aS hy192
 clear hy192
 simp only [Option.some.injEq, Prod.mk.injEq] at H
 obtain ⟨rfl, rfl⟩ := H
 go_enter Tryd.func54, Tryd.ntmps54
 go_wp2_with (first | ((with_reducible refine q07 (N := 0) rfl ?_); refine box0 rfl (N := 0) rfl (cs := #[.slice none 0 0, .bool false]) (t := 24) zh (z7 HB.out) ?_; clear HB; intro gb191 w1 BK191 GW191 HB; have GE191 := GW191) | ((with_reducible refine q07 (N := 2) rfl ?_); refine Kd.S_lit k43 _ 43 ?hg (N := 2) ?hd (xs := ([(⟨1, (⟨#[]⟩ : ByteArray), ([] : List (S122)), (⟨#[]⟩ : ByteArray), (-1), ([] : List Int)⟩ : S43)] : List (S43))) (inner := [.int .i64 1, .string (⟨#[]⟩ : ByteArray), .slice none 0 0, .string (⟨#[]⟩ : ByteArray), .int .i64 (-1), .slice none 0 0]) (ok := fun _ => True) (okp := fun _ => True) ?hr ?hp (fun _ hk => hk) trivial (Below.refl _ _) (Nat.le_refl _) (by simp) ?_; (case hd => rfl); (case hg => rfl); (case hr => first | (go_simp; done) | (go_simp; rfl)); (case hp => exact (Reps.c6 (show Kd.M k43 _ _ _ (⟨1, (⟨#[]⟩ : ByteArray), ([] : List (S122)), (⟨#[]⟩ : ByteArray), (-1), ([] : List Int)⟩ : S43) [.int .i64 1, .string (⟨#[]⟩ : ByteArray), .slice none 0 0, .string (⟨#[]⟩ : ByteArray), .int .i64 (-1), .slice none 0 0] from (q28 _ _ _ (⟨1, (⟨#[]⟩ : ByteArray), ([] : List (S122)), (⟨#[]⟩ : ByteArray), (-1), ([] : List Int)⟩ : S43) (Kd.R_nil _ _ _ _ _) (Kd.R_nil _ _ _ _ _))) (Reps.none _ _))); intro v193 w2 ho3 hb hg_ hnew_; clear hg_ hnew_; (first | rw [← Ny192.out] at ho3 | (simp only [Int.reduceToNat] at ho3; rw [← Ny192.out] at ho3)); have HO194 := aS (Kd.S_lower ho3 (q0c (z6 HB.out GE191.out))); replace BK191 := aS (q02 (g := gb191) (o := .cells #[.slice none 0 0, .bool false] 24 (0, 0)) (za BK191.out) hb); replace HB := aS (q01 (z6 HB.out GE191.out) hb); clear hb ho3; obtain ⟨Ao4, co4, eo4⟩ := Kd.S_slice HO194.out; subst eo4; obtain ⟨hcz5_0, hcz5_1, hfz5_0, hfz5_1⟩ := bk2 BK191.out))
 refine bodyPost_ret (results_cell_row rfl _ _ gb191 24 #[.slice Ao4 y192.length co4, .bool false] (0, 0) _ rfl (by (with_reducible repeat (first | refine kN ?_ _ | refine kD ?_ | refine kA ?_ _)); refine q0o (cs := #[.slice Ao4 y192.length co4, .bool false]) ?_ 1 _ rfl; (with_reducible repeat (first | refine kN ?_ _ | refine kD ?_ | refine kA ?_ _)); refine q0o (cs := #[.slice none 0 0, .bool false]) ?_ 0 _ rfl; (with_reducible repeat (first | refine kN ?_ _ | refine kD ?_ | refine kA ?_ _)); exact BK191.out) Tryd.underlying24 rfl (by kernel_rfl)) rfl ?_
 exact ⟨_, by first | rfl | (simp [q05, q04] <;> rfl) | (simp [*, q05, q04] <;> rfl), by (with_reducible repeat (first | apply sA | apply sN | apply sD)); exact Kd.S_mono (Kd.S_far (p := ⟨gb191, 1, none⟩) (Kd.S_far (p := ⟨gb191, 0, none⟩) (Kd.S_types HO194.out BK191.out (by decide)) (fun _ hk => hk.2) (.slice Ao4 y192.length co4)) (fun _ hk => hk.2) (.bool false)) (fun _ hk => trivial), by repeat (first | (with_reducible first | exact HB.out | apply bA | apply bN | apply bD | refine bS ?_ GE191.out) | exact HB.out)⟩
def api_Attr_80.f (l0 : List S122) : Option (List S122) := if l0.length * 32 ≤ 140737488355328 then some l0 else none
set_option maxHeartbeats 2000000 in
theorem api_Attr_80.calls (A0 : Option Addr) (c0 : Nat) (l0 : List S122) (r : List S122) (w : World) (hr0 : Kd.C k122 w A0 l0.length l0) (hc0 : l0.length ≤ c0) (h : api_Attr_80.f l0 = some r) :
 Calls Tryd.prog 80 #[.slice A0 l0.length c0] w fun e w' => ∃ v0_ : Value, e = .returned (v0_) ∧ Kd.R k122 122 w' w.heap.size (fun _ => True) v0_ r ∧ Below w.heap.size w w' := by
 unfold api_Attr_80.f at h
 split at h
 ·rename_i hsz0
  obtain rfl := Option.some.inj h
  clear h
  have hsz := aS hsz0
  clear hsz0
  have hC := aS hr0
  clear hr0
  have qnil : ∀ (w : World) (a : Option Addr) (n c n' c' : Nat), (binOp .eql 41 (.slice a n c) (.slice none n' c')).run Tryd.prog w = .ok (.bool a.isNone) w := fun w a n c n' c' => Lib.run_eql_slice_nil w _ _ a n c n' c' Tryd.underlying41
  cases A0 with
  | none =>
   obtain rfl : l0 = [] := by
    cases l0 with
    | nil => rfl
    | cons x t =>
     obtain ⟨ad, he, _⟩ := hC.out.2.2 (by simp)
     cases he
   go_enter Tryd.func80, Tryd.ntmps80
   go_wp2
   go_ret
   exact ⟨_, rfl, Kd.R_nil _ _ _ _ _, Below.refl _ _⟩
  | some ad =>
   go_enter Tryd.func80, Tryd.ntmps80
   go_wp2_with (at_builtin; refine Kd.R_append_rows k122 (Rr := fun x cs => Kd.K k122 w x cs) (w0 := w) w.heap.size rfl (.tmp 5) (.tmp 6) 41 122 (.agg #[(.string ⟨#[]⟩), (.string ⟨#[]⟩)]) 32 rfl Tryd.underlying41 q1u rfl (by decide) (by omega) (.slice (some ⟨w.heap.size, 0, none⟩) 0 0) ([] : List S122) l0 (some ad) _ c0 (fun _ => True) (fun _ => False) rfl rfl ?hO ?hR ?hKM (fun _ hk => hk.elim) (fun _ _ => trivial) ?hB ?hba ?hl ?_)
   case hO => exact ⟨fun _ _ => trivial, [], World.ownsRow_made w #[] 0 (Nat.le_refl _) (Nat.zero_le _) (by simp), Reps.none _ _⟩
   case hR => exact q1c.imp_ hC.out ((Below.refl _ w).alloc (Nat.le_refl _) _) (fun _ _ h => h)
   case hKM => exact fun _ _ h => h
   case hB => exact (Below.refl _ w).alloc (Nat.le_refl _) _
   case hba => simp
   case hl => have := hsz.out; simpa using this
   intro v1 w1 hown hb hg hat
   go_wp2
   go_ret
   exact ⟨_, rfl, by simpa using hown, hb⟩
 ·cases h
def slices_Clone_int_int.f (l0 : List Int) : Option (List Int) := if l0.length * 8 ≤ 140737488355328 then some l0 else none
set_option maxHeartbeats 2000000 in
theorem slices_Clone_int_int.calls (A0 : Option Addr) (c0 : Nat) (l0 : List Int) (r : List Int) (w : World) (hr0 : Kd.C (Kd.int .i64) w A0 l0.length l0) (hc0 : l0.length ≤ c0) (h : slices_Clone_int_int.f l0 = some r) :
 Calls Tryd.prog 81 #[.slice A0 l0.length c0] w fun e w' => ∃ v0_ : Value, e = .returned (v0_) ∧ Kd.R (Kd.int .i64) 3 w' w.heap.size (fun _ => True) v0_ r ∧ Below w.heap.size w w' := by
 unfold slices_Clone_int_int.f at h
 split at h
 ·rename_i hsz0
  obtain rfl := Option.some.inj h
  clear h
  have hsz := aS hsz0
  clear hsz0
  have hC := aS hr0
  clear hr0
  have qnil : ∀ (w : World) (a : Option Addr) (n c n' c' : Nat), (binOp .eql 31 (.slice a n c) (.slice none n' c')).run Tryd.prog w = .ok (.bool a.isNone) w := fun w a n c n' c' => Lib.run_eql_slice_nil w _ _ a n c n' c' Tryd.underlying31
  cases A0 with
  | none =>
   obtain rfl : l0 = [] := by
    cases l0 with
    | nil => rfl
    | cons x t =>
     obtain ⟨ad, he, _⟩ := hC.out.2.2 (by simp)
     cases he
   go_enter Tryd.func81, Tryd.ntmps81
   go_wp2
   go_ret
   exact ⟨_, rfl, Kd.R_nil _ _ _ _ _, Below.refl _ _⟩
  | some ad =>
   go_enter Tryd.func81, Tryd.ntmps81
   go_wp2_with (at_builtin; refine Kd.R_append_rows (Kd.int .i64) (Rr := fun x cs => Kd.K (Kd.int .i64) w x cs) (w0 := w) w.heap.size rfl (.tmp 5) (.tmp 6) 31 3 (.int .i64 0) 8 rfl Tryd.underlying31 info3 rfl (by decide) (by omega) (.slice (some ⟨w.heap.size, 0, none⟩) 0 0) ([] : List Int) l0 (some ad) _ c0 (fun _ => True) (fun _ => False) rfl rfl ?hO ?hR ?hKM (fun _ hk => hk.elim) (fun _ _ => trivial) ?hB ?hba ?hl ?_)
   case hO => exact ⟨fun _ _ => trivial, [], World.ownsRow_made w #[] 0 (Nat.le_refl _) (Nat.zero_le _) (by simp), Reps.none _ _⟩
   case hR => exact q1c.imp_ hC.out ((Below.refl _ w).alloc (Nat.le_refl _) _) (fun _ _ h => h)
   case hKM => exact fun _ _ h => h
   case hB => exact (Below.refl _ w).alloc (Nat.le_refl _) _
   case hba => simp
   case hl => have := hsz.out; simpa using this
   intro v1 w1 hown hb hg hat
   go_wp2
   go_ret
   exact ⟨_, rfl, by simpa using hown, hb⟩
 ·cases h
def IsEd (w0 W : World) (g b c : Nat) (ns : List S43) (q : Bool) (m : Int) : Prop :=
 W.heap[g]? = some (.cells #[.slice (some ⟨b, 0, none⟩) ns.length c, .bool q, .int .i64 m] 147 (0, 0)) ∧ w0.heap.size ≤ g ∧ Kd.S k43 43 W w0.heap.size (fun k => k ≠ g) (.slice (some ⟨b, 0, none⟩) ns.length c) ns
theorem ed_node0 {w0 W : World} {g b c : Nat} {ns : List S43} {q : Bool} {m : Int} (hI : IsEd w0 W g b c ns q m) (n : Int) (hn : n < 0 ∨ (ns.length : Int) ≤ n) :
 Calls Tryd.prog 180 #[.pointer (some ⟨g, 0, none⟩), .int .i64 n] W fun e w' => e = .returned (.pointer none) ∧ W = w' := by
 have hu147 := Tryd.underlying147
 obtain ⟨hz0, hz1, hz2, -, -, -⟩ := bk3 hI.1
 by_cases c0 : n < 0
 ·have cb : decide (n < 0) = true := decide_eq_true c0
  clear c0 hn hI
  go_enter Tryd.func180, Tryd.ntmps180
  go_wp2
  go_ret
  exact ⟨rfl, rfl⟩
 ·have cb : decide (n < 0) = false := decide_eq_false c0
  have cc : decide ((ns.length : Int) ≤ n) = true := decide_eq_true (by omega)
  clear c0 hn hI
  go_enter Tryd.func180, Tryd.ntmps180
  go_wp2
  go_ret
  exact ⟨rfl, rfl⟩
theorem q17 {w0 W : World} {g b c : Nat} {ns : List S43} {q : Bool} {m : Int} (hI : IsEd w0 W g b c ns q m) (n : Int) (h0 : 0 ≤ n) (h1 : n < (ns.length : Int)) :
 Calls Tryd.prog 180 #[.pointer (some ⟨g, 0, none⟩), .int .i64 n] W fun e w' => e = .returned (.pointer (some ⟨b, n.toNat * 6, none⟩)) ∧ W = w' := by
 have hu147 := Tryd.underlying147
 obtain ⟨hz0, hz1, hz2, -, -, -⟩ := bk3 hI.1
 have cb : decide (n < 0) = false := decide_eq_false (by omega)
 have cc : decide ((ns.length : Int) ≤ n) = false := decide_eq_false (by omega)
 have p0 := eq_true h0
 have p1 := eq_true h1
 clear hI h0 h1
 go_enter Tryd.func180, Tryd.ntmps180
 go_wp2
 go_ret
 exact ⟨by first | rfl | simp, rfl⟩
theorem IsEd.below {w0 W W1 : World} {g b c : Nat} {ns : List S43} {q : Bool} {m : Int} (h : IsEd w0 W g b c ns q m) (hb : Below W.heap.size W W1) : IsEd w0 W1 g b c ns q m :=
 ⟨(hb.block g (q0a h.1)).trans h.1, h.2.1, Kd.S_below h.2.2 hb⟩
theorem IsEd.alloc {w0 W : World} {g b c : Nat} {ns : List S43} {q : Bool} {m : Int} (h : IsEd w0 W g b c ns q m) (o : Obj) : IsEd w0 (W.alloc o) g b c ns q m := h.below (q0i (Below.refl _ _) o)
theorem IsEd.drewN {w0 W : World} {g b c : Nat} {ns : List S43} {q : Bool} {m : Int} (h : IsEd w0 W g b c ns q m) (n : Nat) : IsEd w0 (W.drewN n) g b c ns q m := h.below (q1e (Below.refl _ _) n)
theorem IsEd.ge {w0 W : World} {g b c : Nat} {ns : List S43} {q : Bool} {m : Int} (h : IsEd w0 W g b c ns q m) : w0.heap.size ≤ b ∧ b ≠ g := by
 refine ⟨Kd.S_base h.2.2 b (by simp [Value.ownBlock]), ?_⟩
 have := (Kd.S_R h.2.2).1 b (by simp [Value.ownBlock])
 exact this
theorem IsEd.elem {w0 W : World} {g b c : Nat} {ns : List S43} {q : Bool} {m : Int} (h : IsEd w0 W g b c ns q m) (i : Int) (h0 : 0 ≤ i) (h1 : i < (ns.length : Int)) :
 ∃ A2 c2 A5 c5, W.cell? ⟨b, i.toNat * 6, none⟩ = some (.int .i64 (q00 ns i).f0) ∧ W.cell? ⟨b, i.toNat * 6 + 1, none⟩ = some (.string (q00 ns i).f1) ∧ W.cell? ⟨b, i.toNat * 6 + 2, none⟩ = some (.slice A2 (q00 ns i).f2.length c2) ∧ W.cell? ⟨b, i.toNat * 6 + 3, none⟩ = some (.string (q00 ns i).f3) ∧ W.cell? ⟨b, i.toNat * 6 + 4, none⟩ = some (.int .i64 (q00 ns i).f4) ∧ W.cell? ⟨b, i.toNat * 6 + 5, none⟩ = some (.slice A5 (q00 ns i).f5.length c5) ∧
  Aside0 ((q00 ns i).f2.length ≤ c2) ∧ Aside0 (k122.C W A2 (q00 ns i).f2.length (q00 ns i).f2) ∧ Aside0 ((q00 ns i).f5.length ≤ c5) ∧ Aside0 ((Kd.int .i64).C W A5 (q00 ns i).f5.length (q00 ns i).f5) ∧ (∀ j, W.frozen? ⟨b, i.toNat * 6 + j, none⟩ = false) := by
 obtain ⟨oki, cs, _, hM, hc, hfz, _, _⟩ := Kd.S_elem h.2.2 z43 i h0 h1
 obtain ⟨v2, v5, rfl, g2, g5⟩ := q27 hM
 obtain ⟨A2, c2, rfl⟩ := Kd.R_slice g2
 obtain ⟨A5, c5, rfl⟩ := Kd.R_slice g5
 have r2 := Kd.R_reads' g2
 have r5 := Kd.R_reads' g5
 exact ⟨A2, c2, A5, c5, hc 0 _ rfl, hc 1 _ rfl, hc 2 _ rfl, hc 3 _ rfl, hc 4 _ rfl, hc 5 _ rfl, ⟨r2.2.1⟩, ⟨r2.2.2⟩, ⟨r5.2.1⟩, ⟨r5.2.2⟩, hfz⟩
theorem IsEd.put {w0 W : World} {g b c : Nat} {ns : List S43} {q : Bool} {m : Int} (h : IsEd w0 W g b c ns q m) (i : Int) (h0 : 0 ≤ i) (h1 : i < (ns.length : Int)) (x' : S43) (j : Nat) (u : Value) (hj : j + 1 ≤ 6)
 (hM : ∀ (ok : Nat → Prop) (v2 v5 : Value), k122.R 122 W w0.heap.size ok v2 (q00 ns i).f2 → (Kd.int .i64).R 3 W w0.heap.size ok v5 (q00 ns i).f5 →
  k43.M W w0.heap.size ok x' ([.int .i64 (q00 ns i).f0, .string (q00 ns i).f1, v2, .string (q00 ns i).f3, .int .i64 (q00 ns i).f4, v5].take j ++ [u] ++ [.int .i64 (q00 ns i).f0, .string (q00 ns i).f1, v2, .string (q00 ns i).f3, .int .i64 (q00 ns i).f4, v5].drop (j + 1))) :
 IsEd w0 (W.setCell ⟨b, i.toNat * 6 + j, none⟩ u) g b c (ns.set i.toNat x') q m := by
 obtain ⟨oki, cs, _, hM0, hc, hfz, hok, hH⟩ := Kd.S_elem h.2.2 z43 i h0 h1
 obtain ⟨v2, v5, rfl, g2, g5⟩ := q27 hM0
 obtain ⟨s1, _⟩ := Kd.S_seg0 hH h0 h1 (seg := [u]) (j := j) hj (hM oki v2 v5 g2 g5) (fun _ hk => hk)
 have hne := h.ge.2
 refine ⟨(Below.heap_setCell W _ u g (fun e => hne e.symm)).trans ?_, h.2.1, ?_⟩
 ·rw [List.length_set]; exact h.1
 ·rw [List.length_set]; exact s1
theorem box1 {P : Program} {ops : Array Oper} {Q : Exit → Act → World → Prop} {rest : List Oper} {o : Oper} {a : Act} {W : World} (hgd : o.guard = none) {N : Tmp} (_hd : o.dst = some N) {cs : Array Value} {t : TypeId}
 (hrun : (execOp a.eval o).run P W = .ok (.value (.pointer (some ⟨W.heap.size, 0, none⟩))) (W.alloc (.cells cs t (0, 0))))
 (h : ∀ g w1, Aside0 (w1.heap[g]? = some (.cells cs t (0, 0))) → Aside0 (W.heap.size ≤ g) → Aside0 (Below W.heap.size W w1) → wpList P ops Q rest (a.put o.dst (.pointer (some ⟨g, 0, none⟩))) w1) : wpList P ops Q (o :: rest) a W :=
 q0t hgd _hd hrun fun g hg w1 hb hs => h g w1 ⟨hb⟩ ⟨by rw [hg]; exact Nat.le_refl _⟩ ⟨hs⟩
theorem bk12 {w : World} {g : Nat} {t : TypeId} {v0 v1 v2 v3 v4 v5 v6 v7 v8 v9 v10 v11 : Value} (h : w.heap[g]? = some (.cells #[v0, v1, v2, v3, v4, v5, v6, v7, v8, v9, v10, v11] t (0, 0))) :
 w.cell? ⟨g, 0, none⟩ = some v0 ∧ w.cell? ⟨g, 1, none⟩ = some v1 ∧ w.cell? ⟨g, 2, none⟩ = some v2 ∧ w.cell? ⟨g, 3, none⟩ = some v3 ∧ w.cell? ⟨g, 4, none⟩ = some v4 ∧ w.cell? ⟨g, 5, none⟩ = some v5 ∧ w.cell? ⟨g, 6, none⟩ = some v6 ∧ w.cell? ⟨g, 7, none⟩ = some v7 ∧ w.cell? ⟨g, 8, none⟩ = some v8 ∧ w.cell? ⟨g, 9, none⟩ = some v9 ∧ w.cell? ⟨g, 10, none⟩ = some v10 ∧ w.cell? ⟨g, 11, none⟩ = some v11 :=
 ⟨(q09 h 0).trans rfl, (q09 h 1).trans rfl, (q09 h 2).trans rfl, (q09 h 3).trans rfl, (q09 h 4).trans rfl, (q09 h 5).trans rfl, (q09 h 6).trans rfl, (q09 h 7).trans rfl, (q09 h 8).trans rfl, (q09 h 9).trans rfl, (q09 h 10).trans rfl, (q09 h 11).trans rfl⟩
theorem IsEd.drew {w0 W : World} {g b c : Nat} {ns : List S43} {q : Bool} {m : Int} (h : IsEd w0 W g b c ns q m) : IsEd w0 W.drew g b c ns q m := h.below (q0g (Below.refl _ _))
theorem IsEd.readsC {w0 W : World} {g b c : Nat} {ns : List S43} {q : Bool} {m : Int} (h : IsEd w0 W g b c ns q m) : Kd.C k43 W (some ⟨b, 0, none⟩) ns.length ns := (Kd.R_reads' (Kd.S_R h.2.2)).2.2
theorem IsEd.readsL {w0 W : World} {g b c : Nat} {ns : List S43} {q : Bool} {m : Int} (h : IsEd w0 W g b c ns q m) : ns.length ≤ c := (Kd.R_reads' (Kd.S_R h.2.2)).2.1
theorem bk12f {w : World} {g : Nat} {t : TypeId} {v0 v1 v2 v3 v4 v5 v6 v7 v8 v9 v10 v11 : Value} (h : w.heap[g]? = some (.cells #[v0, v1, v2, v3, v4, v5, v6, v7, v8, v9, v10, v11] t (0, 0))) :
 w.cell? ⟨g, 0, none⟩ = some v0 ∧ w.cell? ⟨g, 1, none⟩ = some v1 ∧ w.cell? ⟨g, 2, none⟩ = some v2 ∧ w.cell? ⟨g, 3, none⟩ = some v3 ∧ w.cell? ⟨g, 4, none⟩ = some v4 ∧ w.cell? ⟨g, 5, none⟩ = some v5 ∧ w.cell? ⟨g, 6, none⟩ = some v6 ∧ w.cell? ⟨g, 7, none⟩ = some v7 ∧ w.cell? ⟨g, 8, none⟩ = some v8 ∧ w.cell? ⟨g, 9, none⟩ = some v9 ∧ w.cell? ⟨g, 10, none⟩ = some v10 ∧ w.cell? ⟨g, 11, none⟩ = some v11 ∧ w.frozen? ⟨g, 0, none⟩ = false ∧ w.frozen? ⟨g, 1, none⟩ = false ∧ w.frozen? ⟨g, 2, none⟩ = false ∧ w.frozen? ⟨g, 3, none⟩ = false ∧ w.frozen? ⟨g, 4, none⟩ = false ∧ w.frozen? ⟨g, 5, none⟩ = false ∧ w.frozen? ⟨g, 6, none⟩ = false ∧ w.frozen? ⟨g, 7, none⟩ = false ∧ w.frozen? ⟨g, 8, none⟩ = false ∧ w.frozen? ⟨g, 9, none⟩ = false ∧ w.frozen? ⟨g, 10, none⟩ = false ∧ w.frozen? ⟨g, 11, none⟩ = false :=
 ⟨(q09 h 0).trans rfl, (q09 h 1).trans rfl, (q09 h 2).trans rfl, (q09 h 3).trans rfl, (q09 h 4).trans rfl, (q09 h 5).trans rfl, (q09 h 6).trans rfl, (q09 h 7).trans rfl, (q09 h 8).trans rfl, (q09 h 9).trans rfl, (q09 h 10).trans rfl, (q09 h 11).trans rfl, q0f h 0, q0f h 1, q0f h 2, q0f h 3, q0f h 4, q0f h 5, q0f h 6, q0f h 7, q0f h 8, q0f h 9, q0f h 10, q0f h 11⟩
end Go.Proofs.YthjnallbbhnndaaDoor.XDe
