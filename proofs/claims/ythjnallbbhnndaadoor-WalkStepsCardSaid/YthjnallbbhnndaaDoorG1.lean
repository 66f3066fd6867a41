/- Plain words for a search by a predicate: the first place at which it holds, or -1. No program, no condition. -/
import Derived.Test.YthjnallbbhnndaaDoorG0
import Derived.Laws.Cells
import Derived.Shelf.Abstract
import Derived.Lib.SliceRun
import Derived.Shelf.Small.Utf8
import Derived.Shelf.Small.Strs
import Derived.Shelf.Strings.Search1
import Derived.Shelf.Strings.AsciiSet
import Derived.Ground.Names2Prog
import Derived.Test.YthjnallbbhnndaaDoorProg
import Derived.Shelf.Strings.SlTrimAscii
import Derived.StillTailTactics
import Derived.Deep.RegionLaw
import Derived.Lib.Hide
namespace Go.Proofs.YthjnallbbhnndaaDoor.Cl
open Go Go.Proofs.YthjnallbbhnndaaDoorW.PrintWords
theorem getD_lt {α : Type} (l : List α) (i : Nat) (z : α) (h : i < l.length) : l.getD i z = l[i] := by simp [List.getD, h]
theorem mem_getD {α : Type} (l : List α) (i : Nat) (z : α) (h : i < l.length) : l.getD i z ∈ l := by
  rw [getD_lt l i z h]; exact List.getElem_mem h
def q2x {α : Type} (p : α → Bool) : List α → Nat → Int
  | [], _ => -1
  | x :: t, i => if p x = true then (i : Int) else q2x p t (i + 1)
def idxOf {α : Type} (p : α → Bool) (l : List α) : Int := q2x p l 0
theorem idxFrom_hit {α : Type} (p : α → Bool) (z : α) : ∀ (l : List α) (k i : Nat), k < l.length → p (l.getD k z) = true → (∀ j, j < k → p (l.getD j z) = false) → q2x p l i = ((i + k : Nat) : Int)
  | [], k, _, hk, _, _ => absurd hk (Nat.not_lt_zero _)
  | x :: t, 0, i, _, h, _ => by
    have : p x = true := by simpa using h
    simp [q2x, this]
  | x :: t, k + 1, i, hk, h, hn => by
    have h0 : p x = false := by simpa using hn 0 (Nat.succ_pos _)
    rw [q2x, if_neg (by simp [h0]), idxFrom_hit p z t k (i + 1) (by simpa using hk) (by simpa using h) (fun j hj => by simpa using hn (j + 1) (by omega))]
    congr 1
    omega
theorem idxFrom_miss {α : Type} (p : α → Bool) : ∀ (l : List α) (i : Nat), (∀ x ∈ l, p x = false) → q2x p l i = -1
  | [], _, _ => rfl
  | x :: t, i, h => by
    rw [q2x, if_neg (by simp [h x (by simp)]), idxFrom_miss p t (i + 1) (fun y hy => h y (List.mem_cons_of_mem _ hy))]
theorem idxOf_hit {α : Type} (p : α → Bool) (z : α) (l : List α) (k : Nat) (hk : k < l.length) (h : p (l.getD k z) = true) (hn : ∀ j, j < k → p (l.getD j z) = false) : idxOf p l = (k : Int) := by
  have := idxFrom_hit p z l k 0 hk h hn
  rwa [Nat.zero_add] at this
theorem idxOf_miss {α : Type} (p : α → Bool) (z : α) (l : List α) (h : ∀ j, j < l.length → p (l.getD j z) = false) : idxOf p l = -1 := by
  refine idxFrom_miss p l 0 fun x hx => ?_
  obtain ⟨j, hj, e⟩ := List.getElem_of_mem hx
  have := h j hj
  rwa [getD_lt l j z hj, e] at this
theorem idxFrom_any {α : Type} (p : α → Bool) : ∀ (l : List α) (i : Nat), decide (0 ≤ q2x p l i) = l.any p
  | [], _ => by simp [q2x]
  | x :: t, i => by
    rw [q2x, List.any_cons]
    by_cases h : p x = true
    · rw [if_pos h, h]; simp
    · rw [if_neg h, idxFrom_any p t (i + 1)]
      simp only [Bool.not_eq_true] at h
      rw [h]; simp
theorem idxOf_any {α : Type} (p : α → Bool) (l : List α) : decide (0 ≤ idxOf p l) = l.any p := idxFrom_any p l 0
theorem idxFrom_lt {α : Type} (p : α → Bool) : ∀ (l : List α) (i : Nat), q2x p l i = -1 ∨ ((i : Int) ≤ q2x p l i ∧ q2x p l i < (i + l.length : Nat))
  | [], _ => .inl rfl
  | x :: t, i => by
    rw [q2x]
    split
    · right; simp only [List.length_cons]; omega
    · rcases idxFrom_lt p t (i + 1) with h | h
      · exact .inl h
      · right; simp only [List.length_cons]; omega
theorem idxOf_lt {α : Type} (p : α → Bool) (l : List α) : idxOf p l = -1 ∨ (0 ≤ idxOf p l ∧ idxOf p l < l.length) := by
  have := idxFrom_lt p l 0
  simpa [idxOf] using this
theorem getC {α : Type} {d : Kd α} {w : World} {A : Option Addr} {n : Nat} {xs : List α} (h : d.C w A n xs) (z : α) (i : Nat) (h1 : i < n) :
    ∃ ad c, A = some ad ∧ c.length = d.sz ∧ d.K w (xs.getD i z) c ∧ (∀ j u, c[j]? = some u → w.cell? (ad.add (i * d.sz + j)) = some u) := by
  obtain ⟨ad, c, h2, h3, h4, h5⟩ := Kd.C_get h z (i : Int) (by omega) (by omega)
  rw [show ((i : Int)).toNat = i from rfl] at h4 h5
  exact ⟨ad, c, h2, h3, h4, h5⟩
theorem load_list (P : Program) (W : World) (a : Addr) (cs : List Value) (k : Nat) (hk : cs.length = k) (h : ∀ j v, cs[j]? = some v → W.cell? (a.add j) = some v) :
    Sem.run P (loadCellsFrom a 0 k #[]) W = .ok cs.toArray W := by
  have := run_loadCells_list (P := P) (w := W) a cs h
  rw [hk] at this
  simpa [loadCells] using this
theorem own_tail {W : World} {base e sz n cap g : Nat} {xs : List Value} (h : W.ownsRow base e sz (.slice (some ⟨g, 0, none⟩) n cap) n xs) (o : Nat) (vs : List Value) (ho : n * sz ≤ o) (hfit : o + vs.length ≤ cap * sz) :
    (W.setCells g o vs).ownsRow base e sz (.slice (some ⟨g, 0, none⟩) n cap) n xs := by
  obtain ⟨h1, h2⟩ := h
  refine ⟨h1, ?_⟩
  rcases h2 with ⟨hv, _⟩ | ⟨g', cap', cur, hv, hb, hh, hnc', hcm, hcs, ht⟩
  · cases hv
  injection hv with ha _ hc
  injection ha with ha
  injection ha with hg
  subst hg; subst hc
  obtain ⟨cur', h3, h4, h5⟩ := setCells_row vs o W cur hh (by omega)
  refine .inr ⟨g, cap, cur', rfl, hb, h3, hnc', hcm, by omega, ?_⟩
  rw [h5, List.append_assoc, List.take_append_of_le_length (by rw [List.length_take, Array.length_toList]; omega), List.take_take, Nat.min_eq_left ho]
  exact ht
theorem grown_setCells (W : World) (g o : Nat) (vs : List Value) : W.grownBy (W.setCells g o vs) (some g) := by
  obtain ⟨s1, s2, s3, s4⟩ := setCells_same g vs o W
  exact ⟨s1, s2, s3, by rw [s4]; exact Nat.le_refl _, fun k _ hk => setCells_far vs o k (fun he => hk (by rw [he]))⟩
theorem R_tail {α : Type} {d : Kd α} {W : World} {base e n cap g : Nat} {ok : Nat → Prop} {xs : List α} (h : d.R e W base ok (.slice (some ⟨g, 0, none⟩) n cap) xs) (o : Nat) (vs : List Value) (ho : n * d.sz ≤ o) (hfit : o + vs.length ≤ cap * d.sz) :
    d.R e (W.setCells g o vs) base ok (.slice (some ⟨g, 0, none⟩) n cap) xs := by
  have hn := (Kd.R_reads' h).1
  subst hn
  obtain ⟨h0, inner, hown, hr⟩ := h
  refine ⟨h0, inner, own_tail hown o vs ho hfit, hr.imp_ fun p c hp => d.M_move (fun k hk => setCells_far vs o k (fun he => hk.2 (by rw [he]; rfl))) hp⟩
theorem N_tail {α : Type} {d : Kd α} {W : World} {base e n cap g : Nat} {ok : Nat → Prop} {xs : List α} (h : Kd.N d e W base ok (.slice (some ⟨g, 0, none⟩) n cap) xs) (o : Nat) (vs : List Value) (ho : n * d.sz ≤ o) (hfit : o + vs.length ≤ cap * d.sz) :
    Kd.N d e (W.setCells g o vs) base ok (.slice (some ⟨g, 0, none⟩) n cap) xs := by
  obtain ⟨h0, rows, hl, hR, hf⟩ := h
  exact ⟨h0, rows, hl, R_tail hR o vs ho hfit, fun j x c hx hc => Kd.FK_step (hf j x c hx hc) (fun k hk _ => setCells_far vs o k (fun he => hk.2 (by rw [he]; rfl)))⟩
theorem run_clear (P : Program) (W : World) (t e ty : TypeId) (z : Value) (ht : P.underlying t = some (.slice e)) (hv : ∀ w, (zeroValue e).run P w = .ok z w) (g o n c e' : Nat) (hn : 0 < n) (cur : Array Value) (hh : W.heap[g]? = some (.cells cur e' (0, 0)))
    (hfit : o + (Builtin.zeroCells z.cells n).toList.length ≤ cur.size) (h1 : ∀ v ∈ (Builtin.zeroCells z.cells n).toList, v.oneCell' = true) :
    (Builtin.clear_ #[t] ty #[.slice (some ⟨g, o, none⟩) n c]).run P W = .ok (.tuple #[]) (W.setCells g o (Builtin.zeroCells z.cells n).toList) := by
  have hst := run_storeCells_cells (P := P) g o (Builtin.zeroCells z.cells n).toList 0 W (fun j hj => by
    rw [cell_of_row W g _ cur e' (0, 0) hh, Array.getElem?_eq_getElem (by omega)]; rfl) (fun j hj => by simp [World.frozen?, hh]) h1
  simp only [Nat.add_zero] at hst
  obtain ⟨m, rfl⟩ : ∃ m, n = m + 1 := ⟨n - 1, by omega⟩
  simp [Builtin.clear_, run_underlying ht, hv, hst]
theorem N_row {α : Type} {d : Kd α} {W : World} {base e n cap g : Nat} {ok : Nat → Prop} {xs : List α} (h : Kd.N d e W base ok (.slice (some ⟨g, 0, none⟩) n cap) xs) : ∃ cur, W.heap[g]? = some (.cells cur e (0, 0)) ∧ cur.size = cap * d.sz ∧ cap ≤ maxLen := by
  obtain ⟨_, rows, _, ⟨_, inner, ho, _⟩, _⟩ := h
  rcases ho.2 with ⟨hv, _⟩ | ⟨g', cap', cur, hv, hb, hh, hnc', hcm, hcs, ht⟩
  · cases hv
  injection hv with ha _ hc
  injection ha with ha
  injection ha with hg
  subst hg; subst hc
  exact ⟨cur, hh, hcs, hcm⟩
theorem R_row {α : Type} {d : Kd α} {W : World} {base e n cap g : Nat} {ok : Nat → Prop} {xs : List α} (h : d.R e W base ok (.slice (some ⟨g, 0, none⟩) n cap) xs) : ∃ cur, W.heap[g]? = some (.cells cur e (0, 0)) ∧ cur.size = cap * d.sz ∧ cap ≤ maxLen := N_row (Kd.R_N h)
theorem F_one {α : Type} {d : Kd α} {W : World} {b e : Nat} {cs : List Value} {x : α} {ok : Nat → Prop} (hb : W.heap[b]? = some (.cells cs.toArray e (0, 0))) (hF : Kd.FK d W ok x cs) : Kd.F d W (fun k => ok k ∨ k = b) (some ⟨b, 0, none⟩) 1 [x] := by
  intro W' hW
  have h1 := hW b (.inr rfl) (q2i hb)
  rw [hb] at h1
  have hK := hF W' (fun k hk hlt => hW k (.inl hk) hlt)
  refine ⟨rfl, by decide, fun _ => ⟨_, rfl, fun j p hj => ?_⟩⟩
  match j, hj with
  | 0, hj =>
    obtain rfl := Option.some.inj hj
    refine ⟨cs, d.K_len hK, hK, fun i u hi => ?_⟩
    rw [Nat.zero_mul, Nat.zero_add, add_plain, cell_of_row W' b _ _ e (0, 0) h1]
    simpa using hi
  | j + 1, hj => simp at hj
theorem zero_one {z : Array Value} (h : z.toList.all (fun v => v.oneCell') = true) (n : Nat) : ∀ v ∈ (Builtin.zeroCells z n).toList, v.oneCell' = true := by
  intro v hv
  unfold Builtin.zeroCells at hv
  rw [Array.toList_map, List.mem_map] at hv
  obtain ⟨i, hi, rfl⟩ := hv
  rw [Array.mem_toList_iff, Array.mem_range] at hi
  have hz : 0 < z.size := by
    rcases Nat.eq_zero_or_pos z.size with h0 | h0
    · rw [h0] at hi; omega
    · exact h0
  rw [getElem!_pos z _ (Nat.mod_lt _ hz)]
  exact List.all_eq_true.1 h _ (by simp)
theorem grown_step {w W W1 : World} {row : Option Nat} (h : w.grownBy W row) (k : W.grownBy W1 row) : w.grownBy W1 row :=
  ⟨k.os.trans h.os, k.tape.trans h.tape, k.output.trans h.output, Nat.le_trans h.size k.size, fun i hi hr => (k.block i (Nat.lt_of_lt_of_le hi h.size) hr).trans (h.block i hi hr)⟩
end Go.Proofs.YthjnallbbhnndaaDoor.Cl
namespace Go.Proofs.YthjnallbbhnndaaDoor.Short
open Go Go.RowKit Go.Proofs.YthjnallbbhnndaaDoorW.PrintWords Go.Proofs.YthjnallbbhnndaaDoorW.PrintLast Go.Proofs.YthjnallbbhnndaaDoorW.PrintMore
theorem aS {p : Prop} (h : p) : Aside0 p := ⟨h⟩
set_option linter.defProp false
abbrev bA := @q2a
abbrev bN := @q2h
abbrev bD := @q2f
abbrev bS := @below_set
abbrev vA := @Kd.V_alloc
abbrev vN := @Kd.V_drewN
abbrev vD := @Kd.V_drew
abbrev nA := @Kd.N_alloc
abbrev nN := @Kd.N_drewN
abbrev nD := @Kd.N_drew
abbrev rA := @Kd.R_alloc
abbrev rN := @Kd.R_drewN
abbrev rD := @Kd.R_drew
abbrev sA := @Kd.S_alloc
abbrev sN := @Kd.S_drewN
abbrev sD := @Kd.S_drew
abbrev cA := @Kd.C_alloc
abbrev cN := @Kd.C_drewN
abbrev cD := @Kd.C_drew
abbrev kA := @blk_alloc
abbrev kN := @blk_drewN
abbrev kD := @blk_drew
abbrev od := @of_decide_eq_true
abbrev s1 := @List.setIfInBounds_toArray
abbrev s2 := @List.set_cons_zero
abbrev s3 := @List.set_cons_succ
end Go.Proofs.YthjnallbbhnndaaDoor.Short
namespace Go.Proofs
open Go.Shelf
def Tryd.lays137_ren : Go.Shelf.Ren := ⟨fun | 137 => 154 | 217 => 176 | 266 => 187 | n => n, fun | 9 => 9 | 5 => 5 | 3 => 3 | n => n, fun | n => n⟩
theorem Tryd.lays137 : Go.Proofs.Lays.n137 Tryd.prog Tryd.lays137_ren := {
  mixed := by kernel_rfl
  f137 := Tryd.func154.trans (congrArg some (by kernel_rfl))
  f217 := Tryd.func176.trans (congrArg some (by kernel_rfl))
  f266 := Tryd.func187.trans (congrArg some (by kernel_rfl))
  t3 := Tryd.underlying3
  a3 := Tryd.isAgg3
  z3 := Tryd.sizeOf3
  v3 := Tryd.zeroValue3
  t5 := Tryd.underlying5
  a5 := Tryd.isAgg5
  z5 := Tryd.sizeOf5
  v5 := Tryd.zeroValue5
  t9 := Tryd.underlying9
  a9 := Tryd.isAgg9
  z9 := Tryd.sizeOf9
  v9 := Tryd.zeroValue9 }
open Go.RowKit in
theorem Tryd.strings_IndexByte (s : ByteArray) (c : Int) (w : World) :
    Calls Tryd.prog 154 #[.string s, .int .u8 c] w fun e w' => e = .returned (.int .i64 (Lib.indexByte s.data.toList c.toNat.toUInt8)) ∧ w' = w := Any.strings_IndexByte Tryd.lays137 s c w
def Tryd.lays160_ren : Go.Shelf.Ren := ⟨fun | 160 => 177 | 232 => 189 | 231 => 188 | 227 => 190 | 234 => 192 | 233 => 191 | 236 => 194 | 235 => 193 | 228 => 196 | 271 => 198 | 151 => 95 | 197 => 197 | 120 => 200 | 152 => 133 | 260 => 199 | 137 => 154 | 119 => 155 | 224 => 156 | 225 => 157 | 217 => 176 | 266 => 187 | n => n, fun | 9 => 9 | 4 => 4 | 3 => 3 | 5 => 5 | 117 => 220 | 116 => 219 | 0 => 0 | 124 => 223 | 21 => 21 | 105 => 225 | 46 => 203 | 119 => 227 | 139 => 230 | 138 => 229 | n => n, fun | 3 => 1 | 4 => 2 | n => n⟩
theorem Tryd.lays160 : Go.Proofs.Lays.n160 Tryd.prog Tryd.lays160_ren := {
  mixed := by kernel_rfl
  f119 := Tryd.func155.trans (congrArg some (by kernel_rfl))
  f120 := Tryd.func200.trans (congrArg some (by kernel_rfl))
  f137 := Tryd.func154.trans (congrArg some (by kernel_rfl))
  f151 := Tryd.func95.trans (congrArg some (by kernel_rfl))
  f152 := Tryd.func133.trans (congrArg some (by kernel_rfl))
  f160 := Tryd.func177.trans (congrArg some (by kernel_rfl))
  f197 := Tryd.func197.trans (congrArg some (by kernel_rfl))
  f217 := Tryd.func176.trans (congrArg some (by kernel_rfl))
  f224 := Tryd.func156.trans (congrArg some (by kernel_rfl))
  f225 := Tryd.func157.trans (congrArg some (by kernel_rfl))
  f227 := Tryd.func190.trans (congrArg some (by kernel_rfl))
  f228 := Tryd.func196.trans (congrArg some (by kernel_rfl))
  f231 := Tryd.func188.trans (congrArg some (by kernel_rfl))
  f232 := Tryd.func189.trans (congrArg some (by kernel_rfl))
  f233 := Tryd.func191.trans (congrArg some (by kernel_rfl))
  f234 := Tryd.func192.trans (congrArg some (by kernel_rfl))
  f235 := Tryd.func193.trans (congrArg some (by kernel_rfl))
  f236 := Tryd.func194.trans (congrArg some (by kernel_rfl))
  f260 := Tryd.func199.trans (congrArg some (by kernel_rfl))
  f266 := Tryd.func187.trans (congrArg some (by kernel_rfl))
  f271 := Tryd.func198.trans (congrArg some (by kernel_rfl))
  t0 := Tryd.underlying0
  a0 := Tryd.isAgg0
  z0 := Tryd.sizeOf0
  v0 := Tryd.zeroValue0
  t3 := Tryd.underlying3
  a3 := Tryd.isAgg3
  z3 := Tryd.sizeOf3
  v3 := Tryd.zeroValue3
  t4 := Tryd.underlying4
  a4 := Tryd.isAgg4
  z4 := Tryd.sizeOf4
  v4 := Tryd.zeroValue4
  t5 := Tryd.underlying5
  a5 := Tryd.isAgg5
  z5 := Tryd.sizeOf5
  v5 := Tryd.zeroValue5
  t9 := Tryd.underlying9
  a9 := Tryd.isAgg9
  z9 := Tryd.sizeOf9
  v9 := Tryd.zeroValue9
  t21 := Tryd.underlying21
  a21 := Tryd.isAgg21
  z21 := Tryd.sizeOf21
  v21 := Tryd.zeroValue21
  t46 := Tryd.underlying203
  a46 := Tryd.isAgg203
  z46 := Tryd.sizeOf203
  v46 := Tryd.zeroValue203
  t105 := Tryd.underlying225
  a105 := Tryd.isAgg225
  z105 := Tryd.sizeOf225
  v105 := Tryd.zeroValue225
  t116 := Tryd.underlying219
  a116 := Tryd.isAgg219
  z116 := Tryd.sizeOf219
  t117 := Tryd.underlying220
  a117 := Tryd.isAgg220
  z117 := Tryd.sizeOf220
  v117 := Tryd.zeroValue220
  t119 := Tryd.underlying227
  a119 := Tryd.isAgg227
  z119 := Tryd.sizeOf227
  t124 := Tryd.underlying223
  a124 := Tryd.isAgg223
  z124 := Tryd.sizeOf223
  v124 := Tryd.zeroValue223
  t138 := Tryd.underlying229
  a138 := Tryd.isAgg229
  z138 := Tryd.sizeOf229
  v138 := Tryd.zeroValue229
  t139 := Tryd.underlying230
  a139 := Tryd.isAgg230
  z139 := Tryd.sizeOf230
  v139 := Tryd.zeroValue230
  g3 := by kernel_rfl
  g4 := by kernel_rfl }
open Go.RowKit Go.Lib in
theorem Tryd.strings_Trim (s cutset : ByteArray) (w : World) (hs : s.size ≤ 9223372036854775807) (hcs : cutset.size < 4294967281) (hascii : ∀ (j : Nat) b, cutset.data.toList[j]? = some b → b.toNat < 128) :
    Calls Tryd.prog 177 #[.string s, .string cutset] w fun e w' => e = .returned (.string ⟨(Lib.trimS s.data.toList cutset.data.toList).toArray⟩) ∧ Below w.heap.size w w' := Any.strings_Trim_laid Tryd.lays160 (by kernel_rfl) s cutset w hs hcs hascii
end Go.Proofs
namespace Go.Proofs.YthjnallbbhnndaaDoor.XWk
open Go.Proofs.YthjnallbbhnndaaDoor.Short Go.RowKit Go.Proofs.YthjnallbbhnndaaDoorW.PrintWords Go.Proofs.YthjnallbbhnndaaDoorW.PrintLast Go.Proofs.YthjnallbbhnndaaDoorW.PrintMore
attribute [local go_sem] q27 q25 q2l q2k q1w q1v q26 q24   -- for this text's walks alone
set_option linter.unusedVariables false
set_option linter.unusedSimpArgs false
def errW : Option Int → Value
 | none => .nilIface
 | some c => .iface 0 (.int .i64 c)
theorem q0b : errW none = .nilIface := rfl
theorem q0a (c : Int) : errW (some c) = .iface 0 (.int .i64 c) := rfl
theorem info3 : (Tryd.prog.info? 3).map (fun i => (i.zero, i.size, i.bytes)) = some (some (.int .i64 0), 1, 8) := by kernel_rfl
theorem info4 : (Tryd.prog.info? 4).map (fun i => (i.zero, i.size, i.bytes)) = some (some (.bool false), 1, 1) := by kernel_rfl
theorem info43 : (Tryd.prog.info? 43).map (fun i => (i.zero, i.size, i.bytes)) = some (some (.agg #[(.int .i64 0), (.string ⟨#[]⟩), (.slice none 0 0), (.string ⟨#[]⟩), (.int .i64 0), (.slice none 0 0)]), 6, 96) := by kernel_rfl
theorem info122 : (Tryd.prog.info? 122).map (fun i => (i.zero, i.size, i.bytes)) = some (some (.agg #[(.string ⟨#[]⟩), (.string ⟨#[]⟩)]), 2, 32) := by kernel_rfl
structure S122 where
 f0 : ByteArray
 f1 : ByteArray
def z122 : S122 := ⟨(⟨#[]⟩ : ByteArray), (⟨#[]⟩ : ByteArray)⟩
def k122 : Kd S122 := Kd.iso (Kd.pair Kd.string Kd.string) (fun x : S122 => (x.f0, x.f1))
theorem k122_heap : Kd.Heap k122 := Kd.heap_iso _ (Kd.heap_pair Kd.heap_string Kd.heap_string)
theorem k122_open {w : World} {x : S122} {cs : List Value} (h : k122.K w x cs) : cs = [.string x.f0, .string x.f1] := by
 obtain ⟨_, _, rfl, rfl, rfl⟩ := h
 exact rfl
theorem k122_openM {w : World} {base : Nat} {ok : Nat → Prop} {x : S122} {cs : List Value} (h : k122.M w base ok x cs) : cs = [.string x.f0, .string x.f1] := by
 obtain ⟨_, _, rfl, rfl, rfl⟩ := h
 exact rfl
theorem k122_mk (w : World) (x : S122)  : k122.K w x [.string x.f0, .string x.f1] := ⟨[.string x.f0], [.string x.f1], rfl, rfl, rfl⟩
theorem k122_mkM (w : World) (base : Nat) (ok : Nat → Prop) (x : S122)  : k122.M w base ok x [.string x.f0, .string x.f1] := ⟨[.string x.f0], [.string x.f1], rfl, rfl, rfl⟩
theorem k122_mkF (W : World) (ok : Nat → Prop) (x : S122) : Kd.FK k122 W ok x [.string x.f0, .string x.f1] := fun W2 _ => k122_mk W2 x
def q0v (xs : List S122) (i : Int) : S122 := xs.getD i.toNat z122
theorem q1y {w : World} {A : Option Addr} {n : Nat} {xs : List S122} (h : Kd.C k122 w A n xs) (i : Int) (h0 : 0 ≤ i) (h1 : i < n) : ∃ ad , A = some ad ∧ w.cell? (ad.add (i.toNat * 2)) = some (.string (q0v xs i).f0) ∧ w.cell? ⟨(ad.add (i.toNat * 2)).block, (ad.add (i.toNat * 2)).off + 1, none⟩ = some (.string (q0v xs i).f1) := by
 obtain ⟨ad, c, e, _, hK, hc0⟩ := Kd.C_get h z122 i h0 h1
 have hc : ∀ j u, c[j]? = some u → w.cell? (ad.add (i.toNat * 2 + j)) = some u := hc0
 obtain rfl := k122_open hK
 exact ⟨ad, e, hc 0 _ rfl, by rw [← add_field _ _ 1 (by omega)]; exact hc 1 _ rfl⟩
def rd_L3 (xs : List (List S122)) (i : Int) : (List S122) := xs.getD i.toNat ([] : List S122)
theorem at_L3 {w : World} {A : Option Addr} {n : Nat} {xs : List (List S122)} (h : Kd.C (Kd.slice 122 k122) w A n xs) (i : Int) (h0 : 0 ≤ i) (h1 : i < n) : ∃ ad A0 c0, A = some ad ∧ w.cell? (ad.add i.toNat) = some (.slice A0 (rd_L3 xs i).length c0) ∧ (rd_L3 xs i).length ≤ c0 ∧ k122.C w A0 (rd_L3 xs i).length (rd_L3 xs i) := by
 obtain ⟨ad, c, e, _, hK, hc0⟩ := Kd.C_get h ([] : List S122) i h0 h1
 have hc : ∀ j u, c[j]? = some u → w.cell? (ad.add (i.toNat * 1 + j)) = some u := hc0
 obtain ⟨A0, c0, rfl, l0, g0⟩ := hK
 exact ⟨ad, A0, c0, e, by have hq := hc 0 _ rfl; rwa [Nat.mul_one, Nat.add_zero] at hq, l0, g0⟩
def rd_L4 (xs : List (List Int)) (i : Int) : (List Int) := xs.getD i.toNat ([] : List Int)
theorem at_L4 {w : World} {A : Option Addr} {n : Nat} {xs : List (List Int)} (h : Kd.C (Kd.slice 3 (Kd.int .i64)) w A n xs) (i : Int) (h0 : 0 ≤ i) (h1 : i < n) : ∃ ad A0 c0, A = some ad ∧ w.cell? (ad.add i.toNat) = some (.slice A0 (rd_L4 xs i).length c0) ∧ (rd_L4 xs i).length ≤ c0 ∧ (Kd.int .i64).C w A0 (rd_L4 xs i).length (rd_L4 xs i) := by
 obtain ⟨ad, c, e, _, hK, hc0⟩ := Kd.C_get h ([] : List Int) i h0 h1
 have hc : ∀ j u, c[j]? = some u → w.cell? (ad.add (i.toNat * 1 + j)) = some u := hc0
 obtain ⟨A0, c0, rfl, l0, g0⟩ := hK
 exact ⟨ad, A0, c0, e, by have hq := hc 0 _ rfl; rwa [Nat.mul_one, Nat.add_zero] at hq, l0, g0⟩
structure S43 where
 f0 : Int
 f1 : ByteArray
 f2 : (List S122)
 f3 : ByteArray
 f4 : Int
 f5 : (List Int)
def z43 : S43 := ⟨(0 : Int), (⟨#[]⟩ : ByteArray), ([] : List S122), (⟨#[]⟩ : ByteArray), (0 : Int), ([] : List Int)⟩
def k43 : Kd S43 := Kd.iso (Kd.pair (Kd.int .i64) (Kd.pair Kd.string (Kd.pair (Kd.slice 122 k122) (Kd.pair Kd.string (Kd.pair (Kd.int .i64) (Kd.slice 3 (Kd.int .i64))))))) (fun x : S43 => (x.f0, x.f1, x.f2, x.f3, x.f4, x.f5))
theorem k43_heap : Kd.Heap k43 := Kd.heap_iso _ (Kd.heap_pair (Kd.heap_int .i64) (Kd.heap_pair Kd.heap_string (Kd.heap_pair (Kd.heap_slice 122 k122_heap) (Kd.heap_pair Kd.heap_string (Kd.heap_pair (Kd.heap_int .i64) (Kd.heap_slice 3 (Kd.heap_int .i64)))))))
theorem k43_open {w : World} {x : S43} {cs : List Value} (h : k43.K w x cs) : ∃ A2 c2 A5 c5, cs = [.int .i64 x.f0, .string x.f1, .slice A2 x.f2.length c2, .string x.f3, .int .i64 x.f4, .slice A5 x.f5.length c5] ∧ x.f2.length ≤ c2 ∧ k122.C w A2 x.f2.length x.f2 ∧ x.f5.length ≤ c5 ∧ (Kd.int .i64).C w A5 x.f5.length x.f5 := by
 obtain ⟨_, _, rfl, rfl, ⟨_, _, rfl, rfl, ⟨_, _, rfl, ⟨A2, c2, rfl, l2, g2⟩, ⟨_, _, rfl, rfl, ⟨_, _, rfl, rfl, ⟨A5, c5, rfl, l5, g5⟩⟩⟩⟩⟩⟩ := h
 exact ⟨A2, c2, A5, c5, rfl, l2, g2, l5, g5⟩
theorem k43_openM {w : World} {base : Nat} {ok : Nat → Prop} {x : S43} {cs : List Value} (h : k43.M w base ok x cs) : ∃ v2 v5, cs = [.int .i64 x.f0, .string x.f1, v2, .string x.f3, .int .i64 x.f4, v5] ∧ k122.R 122 w base ok v2 x.f2 ∧ (Kd.int .i64).R 3 w base ok v5 x.f5 := by
 obtain ⟨_, _, rfl, rfl, ⟨_, _, rfl, rfl, ⟨_, _, rfl, ⟨v2, rfl, g2⟩, ⟨_, _, rfl, rfl, ⟨_, _, rfl, rfl, ⟨v5, rfl, g5⟩⟩⟩⟩⟩⟩ := h
 exact ⟨v2, v5, rfl, g2, g5⟩
theorem k43_mk (w : World) (x : S43) {A2 : Option Addr} {c2 : Nat} (l2 : x.f2.length ≤ c2) (g2 : k122.C w A2 x.f2.length x.f2) {A5 : Option Addr} {c5 : Nat} (l5 : x.f5.length ≤ c5) (g5 : (Kd.int .i64).C w A5 x.f5.length x.f5) : k43.K w x [.int .i64 x.f0, .string x.f1, .slice A2 x.f2.length c2, .string x.f3, .int .i64 x.f4, .slice A5 x.f5.length c5] := ⟨[.int .i64 x.f0], [.string x.f1, .slice A2 x.f2.length c2, .string x.f3, .int .i64 x.f4, .slice A5 x.f5.length c5], rfl, rfl, ⟨[.string x.f1], [.slice A2 x.f2.length c2, .string x.f3, .int .i64 x.f4, .slice A5 x.f5.length c5], rfl, rfl, ⟨[.slice A2 x.f2.length c2], [.string x.f3, .int .i64 x.f4, .slice A5 x.f5.length c5], rfl, ⟨A2, c2, rfl, l2, g2⟩, ⟨[.string x.f3], [.int .i64 x.f4, .slice A5 x.f5.length c5], rfl, rfl, ⟨[.int .i64 x.f4], [.slice A5 x.f5.length c5], rfl, rfl, ⟨A5, c5, rfl, l5, g5⟩⟩⟩⟩⟩⟩
theorem k43_mkM (w : World) (base : Nat) (ok : Nat → Prop) (x : S43) {v2 : Value} (g2 : k122.R 122 w base ok v2 x.f2) {v5 : Value} (g5 : (Kd.int .i64).R 3 w base ok v5 x.f5) : k43.M w base ok x [.int .i64 x.f0, .string x.f1, v2, .string x.f3, .int .i64 x.f4, v5] := ⟨[.int .i64 x.f0], [.string x.f1, v2, .string x.f3, .int .i64 x.f4, v5], rfl, rfl, ⟨[.string x.f1], [v2, .string x.f3, .int .i64 x.f4, v5], rfl, rfl, ⟨[v2], [.string x.f3, .int .i64 x.f4, v5], rfl, ⟨v2, rfl, g2⟩, ⟨[.string x.f3], [.int .i64 x.f4, v5], rfl, rfl, ⟨[.int .i64 x.f4], [v5], rfl, rfl, ⟨v5, rfl, g5⟩⟩⟩⟩⟩⟩
theorem k43_openF {W : World} {ok : Nat → Prop} {x : S43} {cs : List Value} (h : Kd.FK k43 W ok x cs) : ∃ A2 c2 A5 c5, cs = [.int .i64 x.f0, .string x.f1, .slice A2 x.f2.length c2, .string x.f3, .int .i64 x.f4, .slice A5 x.f5.length c5] ∧ x.f2.length ≤ c2 ∧ Kd.F k122 W ok A2 x.f2.length x.f2 ∧ x.f5.length ≤ c5 ∧ Kd.F (Kd.int .i64) W ok A5 x.f5.length x.f5 := by
 obtain ⟨A2, c2, A5, c5, rfl, l2, _, l5, _⟩ := k43_open (Kd.FK_now h)
 exact ⟨A2, c2, A5, c5, rfl, l2, (fun W' hW => by obtain ⟨A2_, c2_, A5_, c5_, he, l2_, g2_, l5_, g5_⟩ := k43_open (h W' hW); injection (Option.some.inj (show some (Value.slice A2 x.f2.length c2) = some (Value.slice A2_ x.f2.length c2_) from congrArg (fun l => l[2]?) he)) with ha_ _ _; rw [ha_]; exact g2_), l5, (fun W' hW => by obtain ⟨A2_, c2_, A5_, c5_, he, l2_, g2_, l5_, g5_⟩ := k43_open (h W' hW); injection (Option.some.inj (show some (Value.slice A5 x.f5.length c5) = some (Value.slice A5_ x.f5.length c5_) from congrArg (fun l => l[5]?) he)) with ha_ _ _; rw [ha_]; exact g5_)⟩
theorem k43_mkF (W : World) (ok : Nat → Prop) (x : S43) {A2 : Option Addr} {c2 : Nat} (l2 : x.f2.length ≤ c2) (g2 : Kd.F k122 W ok A2 x.f2.length x.f2) {A5 : Option Addr} {c5 : Nat} (l5 : x.f5.length ≤ c5) (g5 : Kd.F (Kd.int .i64) W ok A5 x.f5.length x.f5) : Kd.FK k43 W ok x [.int .i64 x.f0, .string x.f1, .slice A2 x.f2.length c2, .string x.f3, .int .i64 x.f4, .slice A5 x.f5.length c5] := fun W2 hW => k43_mk W2 x l2 (g2 W2 hW) l5 (g5 W2 hW)
theorem k43_mkFV (W : World) (ok : Nat → Prop) (x : S43) {v2 : Value} {b2 e2 : Nat} (g2 : Kd.V k122 e2 W b2 ok v2 x.f2) {v5 : Value} {b5 e5 : Nat} (g5 : Kd.V (Kd.int .i64) e5 W b5 ok v5 x.f5) : Kd.FK k43 W ok x [.int .i64 x.f0, .string x.f1, v2, .string x.f3, .int .i64 x.f4, v5] := by
 obtain ⟨A2, c2, rfl, l2, h2⟩ := g2
 obtain ⟨A5, c5, rfl, l5, h5⟩ := g5
 exact k43_mkF W ok x l2 h2 l5 h5
def q05 (xs : List S43) (i : Int) : S43 := xs.getD i.toNat z43
theorem q1j {w : World} {A : Option Addr} {n : Nat} {xs : List S43} (h : Kd.C k43 w A n xs) (i : Int) (h0 : 0 ≤ i) (h1 : i < n) : ∃ ad A2 c2 A5 c5, A = some ad ∧ w.cell? (ad.add (i.toNat * 6)) = some (.int .i64 (q05 xs i).f0) ∧ w.cell? ⟨(ad.add (i.toNat * 6)).block, (ad.add (i.toNat * 6)).off + 1, none⟩ = some (.string (q05 xs i).f1) ∧ w.cell? ⟨(ad.add (i.toNat * 6)).block, (ad.add (i.toNat * 6)).off + 2, none⟩ = some (.slice A2 (q05 xs i).f2.length c2) ∧ w.cell? ⟨(ad.add (i.toNat * 6)).block, (ad.add (i.toNat * 6)).off + 3, none⟩ = some (.string (q05 xs i).f3) ∧ w.cell? ⟨(ad.add (i.toNat * 6)).block, (ad.add (i.toNat * 6)).off + 4, none⟩ = some (.int .i64 (q05 xs i).f4) ∧ w.cell? ⟨(ad.add (i.toNat * 6)).block, (ad.add (i.toNat * 6)).off + 5, none⟩ = some (.slice A5 (q05 xs i).f5.length c5) ∧ (q05 xs i).f2.length ≤ c2 ∧ k122.C w A2 (q05 xs i).f2.length (q05 xs i).f2 ∧ (q05 xs i).f5.length ≤ c5 ∧ (Kd.int .i64).C w A5 (q05 xs i).f5.length (q05 xs i).f5 := by
 obtain ⟨ad, c, e, _, hK, hc0⟩ := Kd.C_get h z43 i h0 h1
 have hc : ∀ j u, c[j]? = some u → w.cell? (ad.add (i.toNat * 6 + j)) = some u := hc0
 obtain ⟨A2, c2, A5, c5, rfl, l2, g2, l5, g5⟩ := k43_open hK
 exact ⟨ad, A2, c2, A5, c5, e, hc 0 _ rfl, by rw [← add_field _ _ 1 (by omega)]; exact hc 1 _ rfl, by rw [← add_field _ _ 2 (by omega)]; exact hc 2 _ rfl, by rw [← add_field _ _ 3 (by omega)]; exact hc 3 _ rfl, by rw [← add_field _ _ 4 (by omega)]; exact hc 4 _ rfl, by rw [← add_field _ _ 5 (by omega)]; exact hc 5 _ rfl, l2, g2, l5, g5⟩
def rd_L7 (xs : List (List S43)) (i : Int) : (List S43) := xs.getD i.toNat ([] : List S43)
theorem at_L7 {w : World} {A : Option Addr} {n : Nat} {xs : List (List S43)} (h : Kd.C (Kd.slice 43 k43) w A n xs) (i : Int) (h0 : 0 ≤ i) (h1 : i < n) : ∃ ad A0 c0, A = some ad ∧ w.cell? (ad.add i.toNat) = some (.slice A0 (rd_L7 xs i).length c0) ∧ (rd_L7 xs i).length ≤ c0 ∧ k43.C w A0 (rd_L7 xs i).length (rd_L7 xs i) := by
 obtain ⟨ad, c, e, _, hK, hc0⟩ := Kd.C_get h ([] : List S43) i h0 h1
 have hc : ∀ j u, c[j]? = some u → w.cell? (ad.add (i.toNat * 1 + j)) = some u := hc0
 obtain ⟨A0, c0, rfl, l0, g0⟩ := hK
 exact ⟨ad, A0, c0, e, by have hq := hc 0 _ rfl; rwa [Nat.mul_one, Nat.add_zero] at hq, l0, g0⟩
structure S24 where
 f0 : (List S43)
 f1 : Bool
def z24 : S24 := ⟨([] : List S43), false⟩
def k24 : Kd S24 := Kd.iso (Kd.pair (Kd.slice 43 k43) Kd.bool) (fun x : S24 => (x.f0, x.f1))
theorem k24_heap : Kd.Heap k24 := Kd.heap_iso _ (Kd.heap_pair (Kd.heap_slice 43 k43_heap) Kd.heap_bool)
theorem k24_open {w : World} {x : S24} {cs : List Value} (h : k24.K w x cs) : ∃ A0 c0, cs = [.slice A0 x.f0.length c0, .bool x.f1] ∧ x.f0.length ≤ c0 ∧ k43.C w A0 x.f0.length x.f0 := by
 obtain ⟨_, _, rfl, ⟨A0, c0, rfl, l0, g0⟩, rfl⟩ := h
 exact ⟨A0, c0, rfl, l0, g0⟩
theorem k24_openM {w : World} {base : Nat} {ok : Nat → Prop} {x : S24} {cs : List Value} (h : k24.M w base ok x cs) : ∃ v0, cs = [v0, .bool x.f1] ∧ k43.R 43 w base ok v0 x.f0 := by
 obtain ⟨_, _, rfl, ⟨v0, rfl, g0⟩, rfl⟩ := h
 exact ⟨v0, rfl, g0⟩
theorem k24_mk (w : World) (x : S24) {A0 : Option Addr} {c0 : Nat} (l0 : x.f0.length ≤ c0) (g0 : k43.C w A0 x.f0.length x.f0) : k24.K w x [.slice A0 x.f0.length c0, .bool x.f1] := ⟨[.slice A0 x.f0.length c0], [.bool x.f1], rfl, ⟨A0, c0, rfl, l0, g0⟩, rfl⟩
theorem k24_mkM (w : World) (base : Nat) (ok : Nat → Prop) (x : S24) {v0 : Value} (g0 : k43.R 43 w base ok v0 x.f0) : k24.M w base ok x [v0, .bool x.f1] := ⟨[v0], [.bool x.f1], rfl, ⟨v0, rfl, g0⟩, rfl⟩
theorem k24_openF {W : World} {ok : Nat → Prop} {x : S24} {cs : List Value} (h : Kd.FK k24 W ok x cs) : ∃ A0 c0, cs = [.slice A0 x.f0.length c0, .bool x.f1] ∧ x.f0.length ≤ c0 ∧ Kd.F k43 W ok A0 x.f0.length x.f0 := by
 obtain ⟨A0, c0, rfl, l0, _⟩ := k24_open (Kd.FK_now h)
 exact ⟨A0, c0, rfl, l0, (fun W' hW => by obtain ⟨A0_, c0_, he, l0_, g0_⟩ := k24_open (h W' hW); injection (Option.some.inj (show some (Value.slice A0 x.f0.length c0) = some (Value.slice A0_ x.f0.length c0_) from congrArg (fun l => l[0]?) he)) with ha_ _ _; rw [ha_]; exact g0_)⟩
theorem k24_mkF (W : World) (ok : Nat → Prop) (x : S24) {A0 : Option Addr} {c0 : Nat} (l0 : x.f0.length ≤ c0) (g0 : Kd.F k43 W ok A0 x.f0.length x.f0) : Kd.FK k24 W ok x [.slice A0 x.f0.length c0, .bool x.f1] := fun W2 hW => k24_mk W2 x l0 (g0 W2 hW)
theorem k24_mkFV (W : World) (ok : Nat → Prop) (x : S24) {v0 : Value} {b0 e0 : Nat} (g0 : Kd.V k43 e0 W b0 ok v0 x.f0) : Kd.FK k24 W ok x [v0, .bool x.f1] := by
 obtain ⟨A0, c0, rfl, l0, h0⟩ := g0
 exact k24_mkF W ok x l0 h0
def rd_T24 (xs : List S24) (i : Int) : S24 := xs.getD i.toNat z24
theorem at_T24 {w : World} {A : Option Addr} {n : Nat} {xs : List S24} (h : Kd.C k24 w A n xs) (i : Int) (h0 : 0 ≤ i) (h1 : i < n) : ∃ ad A0 c0, A = some ad ∧ w.cell? (ad.add (i.toNat * 2)) = some (.slice A0 (rd_T24 xs i).f0.length c0) ∧ w.cell? ⟨(ad.add (i.toNat * 2)).block, (ad.add (i.toNat * 2)).off + 1, none⟩ = some (.bool (rd_T24 xs i).f1) ∧ (rd_T24 xs i).f0.length ≤ c0 ∧ k43.C w A0 (rd_T24 xs i).f0.length (rd_T24 xs i).f0 := by
 obtain ⟨ad, c, e, _, hK, hc0⟩ := Kd.C_get h z24 i h0 h1
 have hc : ∀ j u, c[j]? = some u → w.cell? (ad.add (i.toNat * 2 + j)) = some u := hc0
 obtain ⟨A0, c0, rfl, l0, g0⟩ := k24_open hK
 exact ⟨ad, A0, c0, e, hc 0 _ rfl, by rw [← add_field _ _ 1 (by omega)]; exact hc 1 _ rfl, l0, g0⟩
end Go.Proofs.YthjnallbbhnndaaDoor.XWk
namespace Go.Proofs.YthjnallbbhnndaaDoor.XWk
open Go.Proofs.YthjnallbbhnndaaDoor.Short Go.RowKit Go.Proofs.YthjnallbbhnndaaDoorW.PrintWords Go.Proofs.YthjnallbbhnndaaDoorW.PrintLast Go.Proofs.YthjnallbbhnndaaDoorW.PrintMore
attribute [local go_sem] q27 q25 q2l q2k q1w q1v q26 q24   -- for this text's walks alone
set_option linter.unusedVariables false
set_option linter.unusedSimpArgs false
def q1o.f (l0_0 : List (S43)) (a0_1 : Bool) (a1 : Int) : Option ((List (S43)) × Bool) := if 0 ≤ (mn (l0_0.length : Int) a1) then (if (mn (l0_0.length : Int) a1) ≤ (l0_0.length : Int) then (some ((l0_0.take ((mn (l0_0.length : Int) a1) : Int).toNat), a0_1)) else (none)) else (none)
set_option maxHeartbeats 8000000 in
set_option maxRecDepth 100000 in
theorem q1o.calls (P0_0_ : Nat → Prop) (A0_0 : Option Addr) (c0_0 : Nat) (l0_0 : List (S43)) (a0_1 : Bool) (a1 : Int) (r1 : List (S43)) (r2 : Bool) (w : World) (hs0_0 : Kd.V k43 43 w w.heap.size (fun k_ => P0_0_ k_) (.slice A0_0 l0_0.length c0_0) l0_0) (h : q1o.f l0_0 a0_1 a1 = some (r1, r2)) :
 Calls Tryd.prog 15 #[.agg #[.slice A0_0 l0_0.length c0_0, .bool a0_1], .int .i64 a1] w fun e w' => ∃ v0_ : Value, e = .returned (.agg #[v0_, .bool r2]) ∧ Kd.V k43 43 w' w.heap.size (fun k_ => (P0_0_ k_ ∨ w.heap.size ≤ k_)) v0_ r1 ∧ Below w.heap.size w w' := by
 have hu24 := Tryd.underlying24
 have HO0_0 := aS (show Kd.V k43 43 w w.heap.size (fun k_ => (P0_0_ k_ ∨ w.heap.size ≤ k_)) (.slice A0_0 l0_0.length c0_0) l0_0 from Kd.V_mono hs0_0 (fun k_ hk => .inl hk))
 have HB := aS (Below.refl w.heap.size w)
 have H : (if 0 ≤ (mn (l0_0.length : Int) a1) then (if (mn (l0_0.length : Int) a1) ≤ (l0_0.length : Int) then (some ((l0_0.take ((mn (l0_0.length : Int) a1) : Int).toNat), a0_1)) else (none)) else (none)) = some (r1, r2) := h
 clear h
 obtain ⟨ji3, hji3⟩ : ∃ j_ : Int, (mn (l0_0.length : Int) a1) = j_ := ⟨_, rfl⟩
 replace H : (if 0 ≤ (ji3) then (if (ji3) ≤ (l0_0.length : Int) then (some ((l0_0.take ((ji3) : Int).toNat), a0_1)) else (none)) else (none)) = some (r1, r2) := by first | (rw [hji3] at H; exact H) | (simp only [hji3] at H ⊢; exact H)
 have hji3_ : (if a1 < (l0_0.length : Int) then a1 else (l0_0.length : Int)) = ji3 := hji3
 by_cases c4 : 0 ≤ (ji3)
 ·rw [if_pos c4] at H
  have c4b0 := eq_true c4
  have c4b1 : decide (0 ≤ (ji3)) = true := decide_eq_true c4
  clear c4
  by_cases c5 : (ji3) ≤ (l0_0.length : Int)
  ·rw [if_pos c5] at H
   have c5b0 := eq_true c5
   have c5b1 : decide ((ji3) ≤ (l0_0.length : Int)) = true := decide_eq_true c5
   clear c5
   obtain ⟨y103, hy103⟩ : ∃ y_ : List (S43), y_ = (l0_0.take ((ji3) : Int).toNat) := ⟨_, rfl⟩
   replace H : (some (y103, a0_1)) = some (r1, r2) := by first | (rw [hy103]; with_reducible exact H) | (have H2_ := (Option.bind_some _ _).symm.trans H; rw [hy103]; with_reducible exact H2_) | (have H2_ := (Option.bind_some _ _).symm.trans H; with_reducible exact H2_) | with_reducible exact H | (rw [hy103]; exact H) | exact H
   have Ny103 := aS hy103
   clear hy103
   simp only [Option.some.injEq, Prod.mk.injEq] at H
   obtain ⟨rfl, rfl⟩ := H
   go_enter Tryd.func15, Tryd.ntmps15
   go_wp2_with (first | ((with_reducible refine q15 (N := 2) rfl ?_); refine q0y ?hg (N := 2) ?hd (cs := #[.slice A0_0 l0_0.length c0_0, .bool a0_1]) (t := 24) ?hr ?_; (case hd => rfl); (case hg => rfl); (case hr => first | (go_simp; done) | (go_simp; rfl)); intro gb101 hg w6 hbox hb; have n0_ := aS (Kd.V_below (Kd.V_elderB (by (with_reducible repeat (first | apply vA | apply vN | apply vD)); exact HO0_0.out) gb101 (Nat.le_of_eq hg.symm)) hb); have n1_ := aS (q09 (by repeat (first | (with_reducible first | exact HB.out | apply bA | apply bN | apply bD) | exact HB.out)) hb); have n2_ := aS (hbox); have n3_ := aS ((by rw [hg]; exact (q0k (by repeat (first | (with_reducible first | exact HB.out | apply bA | apply bN | apply bD) | exact HB.out))) : w.heap.size ≤ gb101)); have n4_ := aS ((by rw [hg]; exact (q0k (by repeat (first | (with_reducible first | exact HB.out | apply bA | apply bN | apply bD) | exact HB.out))) : w.heap.size ≤ gb101)); clear HO0_0; clear HB; have HO0_0 := n0_; have HB := n1_; have BK101 := n2_; have GW101 := n3_; have GE101 := n4_; clear n0_ n1_ n2_ n3_ n4_; clear hb hbox hg) | ((with_reducible refine q15 (N := 4) rfl ?_); refine q0y ?hg (N := 4) ?hd (cs := #[.slice none 0 0, .bool false]) (t := 24) ?hr ?_; (case hd => rfl); (case hg => rfl); (case hr => first | (go_simp; done) | (go_simp; rfl)); intro gb102 hg w7 hbox hb; have n0_ := aS (Kd.V_below (Kd.V_elderB (by (with_reducible repeat (first | apply vA | apply vN | apply vD)); exact HO0_0.out) gb102 (Nat.le_of_eq hg.symm)) hb); have n1_ := aS (q16 (g := gb101) (o := .cells #[.slice A0_0 l0_0.length c0_0, .bool a0_1] 24 (0, 0)) (by (with_reducible repeat (first | refine kN ?_ _ | refine kD ?_ | refine kA ?_ _)); exact BK101.out) hb); have n2_ := aS (q09 (by repeat (first | (with_reducible first | exact HB.out | apply bA | apply bN | apply bD | refine bS ?_ GE101.out) | exact HB.out)) hb); have n3_ := aS (hbox); have n4_ := aS ((by rw [hg]; exact (q0k (by repeat (first | (with_reducible first | exact HB.out | apply bA | apply bN | apply bD | refine bS ?_ GE101.out) | exact HB.out))) : w.heap.size ≤ gb102)); have n5_ := aS ((by rw [hg]; exact (q0k (by repeat (first | (with_reducible first | exact HB.out | apply bA | apply bN | apply bD | refine bS ?_ GE101.out) | exact HB.out))) : w.heap.size ≤ gb102)); have n6_ := aS ((by rw [hg]; exact Nat.ne_of_lt (q2i (g := gb101) (o := .cells #[.slice A0_0 l0_0.length c0_0, .bool a0_1] 24 (0, 0)) (by (with_reducible repeat (first | refine kN ?_ _ | refine kD ?_ | refine kA ?_ _)); exact BK101.out)) : gb101 ≠ gb102)); have n7_ := aS ((by rw [hg]; exact Nat.ne_of_gt (q2i (g := gb101) (o := .cells #[.slice A0_0 l0_0.length c0_0, .bool a0_1] 24 (0, 0)) (by (with_reducible repeat (first | refine kN ?_ _ | refine kD ?_ | refine kA ?_ _)); exact BK101.out)) : gb102 ≠ gb101)); clear HO0_0; clear BK101; clear HB; have HO0_0 := n0_; have BK101 := n1_; have HB := n2_; have BK102 := n3_; have GW102 := n4_; have GE102 := n5_; have NB101_102 := n6_; have NB102_101 := n7_; clear n0_ n1_ n2_ n3_ n4_ n5_ n6_ n7_; clear hb hbox hg; have hnb8 := NB101_102.out; have hnc8 := NB102_101.out; have hcz9_0 : w7.cell? ⟨gb101, 0, none⟩ = some (.slice A0_0 l0_0.length c0_0) := (q02 BK101.out 0).trans rfl; have hcz9_1 : w7.cell? ⟨gb101, 1, none⟩ = some (.bool a0_1) := (q02 BK101.out 1).trans rfl; have hfz9_0 := q01 BK101.out 0; have hfz9_1 := q01 BK101.out 1; have q10 : ((ji3) : Int) ≤ ((l0_0.length : Int) : Int) := od (by first | (with_reducible assumption) | assumption); obtain ⟨i010, hi010, _, hsz10, _⟩ := info_parts info43; have hroom10 : l0_0.length ≤ c0_0 := (Kd.V_reads' HO0_0.out).2.1; have hC10 : Kd.F k43 _ _ A0_0 l0_0.length l0_0 := (Kd.V_at (base := w.heap.size) HO0_0.out).2.2; have hcut10 := cut_to (P := Tryd.prog) 22 43 .i64 Tryd.underlying22 hi010 A0_0 l0_0.length c0_0 (ji3) (od (by first | (with_reducible assumption) | assumption)) q10 hroom10; have hr10 := Kd.F_take (m := ((ji3) : Int).toNat) hC10 (by omega); have hy10 : y103.length = ((ji3) : Int).toNat := (by rw [Ny103.out, List.length_take]; omega); rw [← Ny103.out] at hr10; rw [← hy10] at hcut10; have HO107 := aS (show Kd.V k43 43 _ w.heap.size _ (.slice A0_0 y103.length c0_0) y103 from Kd.V_mk (by omega) hr10); have HC107 := aS (show y103.length ≤ c0_0 from by omega); clear hr10 hC10 hroom10 hi010 hsz10; have KY10 := aS hy10; clear hy10; replace q10 := eq_true q10; have hcz11_0 : w7.cell? ⟨gb102, 0, none⟩ = some (.slice none 0 0) := (q02 BK102.out 0).trans rfl; have hcz11_1 : w7.cell? ⟨gb102, 1, none⟩ = some (.bool false) := (q02 BK102.out 1).trans rfl; have hfz11_0 := q01 BK102.out 0; have hfz11_1 := q01 BK102.out 1))
   refine bodyPost_ret (results_cell_row rfl _ _ gb102 24 #[.slice A0_0 y103.length c0_0, .bool a0_1] (0, 0) _ rfl (by (with_reducible repeat (first | refine kN ?_ _ | refine kD ?_ | refine kA ?_ _)); refine q1p (cs := #[.slice A0_0 y103.length c0_0, .bool false]) ?_ 1 _ rfl; (with_reducible repeat (first | refine kN ?_ _ | refine kD ?_ | refine kA ?_ _)); refine q1p (cs := #[.slice none 0 0, .bool false]) ?_ 0 _ rfl; (with_reducible repeat (first | refine kN ?_ _ | refine kD ?_ | refine kA ?_ _)); refine q1q ?_ NB102_101.out _; (with_reducible repeat (first | refine kN ?_ _ | refine kD ?_ | refine kA ?_ _)); exact BK102.out) Tryd.underlying24 rfl (by kernel_rfl)) rfl ?_
   exact ⟨_, by first | rfl | (simp [q0b, q0a] <;> rfl) | (simp only [← hji3]; first | rfl | (simp [q0b, q0a] <;> rfl)) | (simp [*, q0b, q0a] <;> rfl), by (with_reducible repeat (first | apply vA | apply vN | apply vD)); exact Kd.V_mono (Kd.V_far (p := ⟨gb102, 1, none⟩) (Kd.V_far (p := ⟨gb102, 0, none⟩) (Kd.V_far (p := ⟨gb101, 0, none⟩) (Kd.V_mono (Kd.V_mono HO107.out (fun k_ hk => (⟨hk, hk.1.2⟩ : _ ∧ k_ ≠ gb101))) (fun k_ hk => (⟨hk, hk.1.2⟩ : _ ∧ k_ ≠ gb102))) (fun _ hk => hk.1.2) (.slice A0_0 y103.length c0_0)) (fun _ hk => hk.2) (.slice A0_0 y103.length c0_0)) (fun _ hk => hk.2) (.bool a0_1)) (fun _ hk => hk.1.1.1.1), by repeat (first | (with_reducible first | exact HB.out | apply bA | apply bN | apply bD | refine bS ?_ GE101.out | refine bS ?_ GE102.out) | exact HB.out)⟩
  ·rw [if_neg c5] at H
   exact absurd H (by simp)
 ·rw [if_neg c4] at H
  exact absurd H (by simp)
def q1f.f (a0 : Int) : Option (Bool) := if a0 = 1 then (some true) else (some (a0 == 2))
set_option maxHeartbeats 8000000 in
set_option maxRecDepth 100000 in
theorem q1f.calls (a0 : Int) (r : Bool) (w : World) (h : q1f.f a0 = some r) :
 Calls Tryd.prog 158 #[.int .i64 a0] w fun e w' => e = .returned (.bool r) ∧ Drawn0 w w' := by
 have H : (if a0 = 1 then (some true) else (some (a0 == 2))) = some r := h
 clear h
 by_cases c2 : a0 = 1
 ·rw [if_pos c2] at H
  have c2b0 : (a0 == 1) = true := beq_iff_eq.mpr c2
  have c2b1 : (a0 != 1) = false := bne_eq_false_iff_eq.mpr c2
  clear c2
  obtain rfl := Option.some.inj H
  go_enter Tryd.func158, Tryd.ntmps158
  go_wp2
  go_ret
  exact ⟨by first | rfl | (simp; done) | (simp [*]; done), by repeat (first | exact Drawn0.refl _ | apply Drawn0.step)⟩
 ·rw [if_neg c2] at H
  have c2b0 : (a0 == 1) = false := beq_eq_false_iff_ne.mpr c2
  have c2b1 : (a0 != 1) = true := bne_iff_ne.mpr c2
  obtain rfl := Option.some.inj H
  go_enter Tryd.func158, Tryd.ntmps158
  go_wp2
  go_ret
  exact ⟨by first | rfl | (simp; done) | (simp [*]; done), by repeat (first | exact Drawn0.refl _ | apply Drawn0.step)⟩
def q2y.f (a0_0 : Int) (a0_1 : ByteArray) (l0_2 : List (S122)) (a0_3 : ByteArray) (a0_4 : Int) (l0_5 : List Int) : Option (Bool) := if a0_0 = 3 then (if a0_0 = 2 then ((q1f.f a0_0).bind fun t109 => (if t109 = true then (some true) else (some ((l0_5.length : Int) == 0)))) else (if a0_0 = 5 then (if (l0_2.length : Int) = 0 then ((q1f.f a0_0).bind fun t110 => (if t110 = true then (some true) else (some ((l0_5.length : Int) == 0)))) else (some false)) else (if a0_1.toList = ([] : List UInt8) then (if (l0_2.length : Int) = 0 then ((q1f.f a0_0).bind fun t111 => (if t111 = true then (some true) else (some ((l0_5.length : Int) == 0)))) else (some false)) else (some false)))) else (if a0_0 = 2 then (if a0_0 = 4 then ((q1f.f a0_0).bind fun t112 => (if t112 = true then (some true) else (some ((l0_5.length : Int) == 0)))) else (if a0_3.toList = ([] : List UInt8) then ((q1f.f a0_0).bind fun t113 => (if t113 = true then (some true) else (some ((l0_5.length : Int) == 0)))) else (some false))) else (if a0_0 = 5 then (if (l0_2.length : Int) = 0 then (if a0_0 = 4 then ((q1f.f a0_0).bind fun t114 => (if t114 = true then (some true) else (some ((l0_5.length : Int) == 0)))) else (if a0_3.toList = ([] : List UInt8) then ((q1f.f a0_0).bind fun t115 => (if t115 = true then (some true) else (some ((l0_5.length : Int) == 0)))) else (some false))) else (some false)) else (if a0_1.toList = ([] : List UInt8) then (if (l0_2.length : Int) = 0 then (if a0_0 = 4 then ((q1f.f a0_0).bind fun t116 => (if t116 = true then (some true) else (some ((l0_5.length : Int) == 0)))) else (if a0_3.toList = ([] : List UInt8) then ((q1f.f a0_0).bind fun t117 => (if t117 = true then (some true) else (some ((l0_5.length : Int) == 0)))) else (some false))) else (some false)) else (some false))))
set_option maxHeartbeats 64000000 in
set_option maxRecDepth 100000 in
theorem q2y.core (a0_0 : Int) (a0_1 : ByteArray) (A0_2 : Option Addr) (c0_2 : Nat) (l0_2 : List (S122)) (a0_3 : ByteArray) (a0_4 : Int) (A0_5 : Option Addr) (c0_5 : Nat) (l0_5 : List Int) (b2 b3 b4 b5 bn ba bt bc pv : Bool) (w : World)
 (h2 : (a0_0 == 2) = b2) (h3 : (a0_0 == 3) = b3) (h4 : (a0_0 == 4) = b4) (h5 : (a0_0 == 5) = b5) (hn : (a0_1.toList == ([] : List UInt8)) = bn) (ha : ((l0_2.length : Int) == 0) = ba) (ht : (a0_3.toList == ([] : List UInt8)) = bt) (hc : ((l0_5.length : Int) == 0) = bc) (hp : q1f.f a0_0 = some pv)
 (hk : (b2 = true ∧ b3 = false ∧ b4 = false ∧ b5 = false) ∨ (b2 = false ∧ b3 = true ∧ b4 = false ∧ b5 = false) ∨ (b2 = false ∧ b3 = false ∧ b4 = true ∧ b5 = false) ∨ (b2 = false ∧ b3 = false ∧ b4 = false ∧ b5 = true) ∨ (b2 = false ∧ b3 = false ∧ b4 = false ∧ b5 = false)) :
 Calls Tryd.prog 135 #[.agg #[.int .i64 a0_0, .string a0_1, .slice A0_2 l0_2.length c0_2, .string a0_3, .int .i64 a0_4, .slice A0_5 l0_5.length c0_5]] w fun e w' => e = .returned (.bool ((b2 || b5 || bn) && (b2 || ba) && (b3 || b4 || bt) && (pv || bc))) ∧ Below w.heap.size w w' := by
 have hu43 := Tryd.underlying43
 have HB := aS (Below.refl w.heap.size w)
 rcases hk with ⟨rfl, rfl, rfl, rfl⟩ | ⟨rfl, rfl, rfl, rfl⟩ | ⟨rfl, rfl, rfl, rfl⟩ | ⟨rfl, rfl, rfl, rfl⟩ | ⟨rfl, rfl, rfl, rfl⟩
 ·cases bt
  case' true => (cases pv; case' false => cases bc)
  all_goals (go_enter Tryd.func135, Tryd.ntmps135; go_wp2_with (first | ((with_reducible refine q15 (N := 1) rfl ?_); refine q0y ?hg (N := 1) ?hd (cs := #[.int .i64 a0_0, .string a0_1, .slice A0_2 l0_2.length c0_2, .string a0_3, .int .i64 a0_4, .slice A0_5 l0_5.length c0_5]) (t := 43) ?hr ?_; (case hd => rfl); (case hg => rfl); (case hr => first | (go_simp; done) | (go_simp; rfl)); intro gb hg wb hbox hb; have n0_ := aS (q09 (by repeat (first | exact HB.out | apply bA | apply bN | apply bD)) hb); have BK := aS hbox; have hz0 : wb.cell? ⟨gb, 0, none⟩ = some (.int .i64 a0_0) := (q02 BK.out 0).trans rfl; have hz1 : wb.cell? ⟨gb, 1, none⟩ = some (.string a0_1) := (q02 BK.out 1).trans rfl; have hz2 : wb.cell? ⟨gb, 2, none⟩ = some (.slice A0_2 l0_2.length c0_2) := (q02 BK.out 2).trans rfl; have hz3 : wb.cell? ⟨gb, 3, none⟩ = some (.string a0_3) := (q02 BK.out 3).trans rfl; have hz4 : wb.cell? ⟨gb, 4, none⟩ = some (.int .i64 a0_4) := (q02 BK.out 4).trans rfl; have hz5 : wb.cell? ⟨gb, 5, none⟩ = some (.slice A0_5 l0_5.length c0_5) := (q02 BK.out 5).trans rfl; clear HB; have HB := n0_; clear n0_ hg hbox hb) | (go_at_call 158; (with_reducible refine (q1f.calls a0_0 _ _ hp).mono ?_); rintro e w' ⟨rfl, ⟨nd, rfl⟩⟩)); repeat (go_quiet ((go_at_call 158; (with_reducible refine (q1f.calls a0_0 _ _ hp).mono ?_); rintro e w' ⟨rfl, ⟨nd, rfl⟩⟩; (try first | exact ⟨rfl, _, World.drewN_drewN _ _ _⟩ | exact ⟨rfl, _, Eq.trans (World.drewN_drewN _ _ _) (congrArg (World.drewN _) (Nat.add_assoc _ _ _))⟩))); try go_wp2_with (first | (go_at_call 158; (with_reducible refine (q1f.calls a0_0 _ _ hp).mono ?_); rintro e w' ⟨rfl, ⟨nd, rfl⟩⟩))); go_ret; exact ⟨rfl, (by repeat (first | exact HB.out | apply bA | apply bN | apply bD))⟩)
 ·cases bn
  case' true => (cases ba; case' true => (cases pv; case' false => cases bc))
  all_goals (go_enter Tryd.func135, Tryd.ntmps135; go_wp2_with (first | ((with_reducible refine q15 (N := 1) rfl ?_); refine q0y ?hg (N := 1) ?hd (cs := #[.int .i64 a0_0, .string a0_1, .slice A0_2 l0_2.length c0_2, .string a0_3, .int .i64 a0_4, .slice A0_5 l0_5.length c0_5]) (t := 43) ?hr ?_; (case hd => rfl); (case hg => rfl); (case hr => first | (go_simp; done) | (go_simp; rfl)); intro gb hg wb hbox hb; have n0_ := aS (q09 (by repeat (first | exact HB.out | apply bA | apply bN | apply bD)) hb); have BK := aS hbox; have hz0 : wb.cell? ⟨gb, 0, none⟩ = some (.int .i64 a0_0) := (q02 BK.out 0).trans rfl; have hz1 : wb.cell? ⟨gb, 1, none⟩ = some (.string a0_1) := (q02 BK.out 1).trans rfl; have hz2 : wb.cell? ⟨gb, 2, none⟩ = some (.slice A0_2 l0_2.length c0_2) := (q02 BK.out 2).trans rfl; have hz3 : wb.cell? ⟨gb, 3, none⟩ = some (.string a0_3) := (q02 BK.out 3).trans rfl; have hz4 : wb.cell? ⟨gb, 4, none⟩ = some (.int .i64 a0_4) := (q02 BK.out 4).trans rfl; have hz5 : wb.cell? ⟨gb, 5, none⟩ = some (.slice A0_5 l0_5.length c0_5) := (q02 BK.out 5).trans rfl; clear HB; have HB := n0_; clear n0_ hg hbox hb) | (go_at_call 158; (with_reducible refine (q1f.calls a0_0 _ _ hp).mono ?_); rintro e w' ⟨rfl, ⟨nd, rfl⟩⟩)); repeat (go_quiet ((go_at_call 158; (with_reducible refine (q1f.calls a0_0 _ _ hp).mono ?_); rintro e w' ⟨rfl, ⟨nd, rfl⟩⟩; (try first | exact ⟨rfl, _, World.drewN_drewN _ _ _⟩ | exact ⟨rfl, _, Eq.trans (World.drewN_drewN _ _ _) (congrArg (World.drewN _) (Nat.add_assoc _ _ _))⟩))); try go_wp2_with (first | (go_at_call 158; (with_reducible refine (q1f.calls a0_0 _ _ hp).mono ?_); rintro e w' ⟨rfl, ⟨nd, rfl⟩⟩))); go_ret; exact ⟨rfl, (by repeat (first | exact HB.out | apply bA | apply bN | apply bD))⟩)
 ·cases bn
  case' true => (cases ba; case' true => (cases pv; case' false => cases bc))
  all_goals (go_enter Tryd.func135, Tryd.ntmps135; go_wp2_with (first | ((with_reducible refine q15 (N := 1) rfl ?_); refine q0y ?hg (N := 1) ?hd (cs := #[.int .i64 a0_0, .string a0_1, .slice A0_2 l0_2.length c0_2, .string a0_3, .int .i64 a0_4, .slice A0_5 l0_5.length c0_5]) (t := 43) ?hr ?_; (case hd => rfl); (case hg => rfl); (case hr => first | (go_simp; done) | (go_simp; rfl)); intro gb hg wb hbox hb; have n0_ := aS (q09 (by repeat (first | exact HB.out | apply bA | apply bN | apply bD)) hb); have BK := aS hbox; have hz0 : wb.cell? ⟨gb, 0, none⟩ = some (.int .i64 a0_0) := (q02 BK.out 0).trans rfl; have hz1 : wb.cell? ⟨gb, 1, none⟩ = some (.string a0_1) := (q02 BK.out 1).trans rfl; have hz2 : wb.cell? ⟨gb, 2, none⟩ = some (.slice A0_2 l0_2.length c0_2) := (q02 BK.out 2).trans rfl; have hz3 : wb.cell? ⟨gb, 3, none⟩ = some (.string a0_3) := (q02 BK.out 3).trans rfl; have hz4 : wb.cell? ⟨gb, 4, none⟩ = some (.int .i64 a0_4) := (q02 BK.out 4).trans rfl; have hz5 : wb.cell? ⟨gb, 5, none⟩ = some (.slice A0_5 l0_5.length c0_5) := (q02 BK.out 5).trans rfl; clear HB; have HB := n0_; clear n0_ hg hbox hb) | (go_at_call 158; (with_reducible refine (q1f.calls a0_0 _ _ hp).mono ?_); rintro e w' ⟨rfl, ⟨nd, rfl⟩⟩)); repeat (go_quiet ((go_at_call 158; (with_reducible refine (q1f.calls a0_0 _ _ hp).mono ?_); rintro e w' ⟨rfl, ⟨nd, rfl⟩⟩; (try first | exact ⟨rfl, _, World.drewN_drewN _ _ _⟩ | exact ⟨rfl, _, Eq.trans (World.drewN_drewN _ _ _) (congrArg (World.drewN _) (Nat.add_assoc _ _ _))⟩))); try go_wp2_with (first | (go_at_call 158; (with_reducible refine (q1f.calls a0_0 _ _ hp).mono ?_); rintro e w' ⟨rfl, ⟨nd, rfl⟩⟩))); go_ret; exact ⟨rfl, (by repeat (first | exact HB.out | apply bA | apply bN | apply bD))⟩)
 ·cases ba
  case' true => (cases bt; case' true => (cases pv; case' false => cases bc))
  all_goals (go_enter Tryd.func135, Tryd.ntmps135; go_wp2_with (first | ((with_reducible refine q15 (N := 1) rfl ?_); refine q0y ?hg (N := 1) ?hd (cs := #[.int .i64 a0_0, .string a0_1, .slice A0_2 l0_2.length c0_2, .string a0_3, .int .i64 a0_4, .slice A0_5 l0_5.length c0_5]) (t := 43) ?hr ?_; (case hd => rfl); (case hg => rfl); (case hr => first | (go_simp; done) | (go_simp; rfl)); intro gb hg wb hbox hb; have n0_ := aS (q09 (by repeat (first | exact HB.out | apply bA | apply bN | apply bD)) hb); have BK := aS hbox; have hz0 : wb.cell? ⟨gb, 0, none⟩ = some (.int .i64 a0_0) := (q02 BK.out 0).trans rfl; have hz1 : wb.cell? ⟨gb, 1, none⟩ = some (.string a0_1) := (q02 BK.out 1).trans rfl; have hz2 : wb.cell? ⟨gb, 2, none⟩ = some (.slice A0_2 l0_2.length c0_2) := (q02 BK.out 2).trans rfl; have hz3 : wb.cell? ⟨gb, 3, none⟩ = some (.string a0_3) := (q02 BK.out 3).trans rfl; have hz4 : wb.cell? ⟨gb, 4, none⟩ = some (.int .i64 a0_4) := (q02 BK.out 4).trans rfl; have hz5 : wb.cell? ⟨gb, 5, none⟩ = some (.slice A0_5 l0_5.length c0_5) := (q02 BK.out 5).trans rfl; clear HB; have HB := n0_; clear n0_ hg hbox hb) | (go_at_call 158; (with_reducible refine (q1f.calls a0_0 _ _ hp).mono ?_); rintro e w' ⟨rfl, ⟨nd, rfl⟩⟩)); repeat (go_quiet ((go_at_call 158; (with_reducible refine (q1f.calls a0_0 _ _ hp).mono ?_); rintro e w' ⟨rfl, ⟨nd, rfl⟩⟩; (try first | exact ⟨rfl, _, World.drewN_drewN _ _ _⟩ | exact ⟨rfl, _, Eq.trans (World.drewN_drewN _ _ _) (congrArg (World.drewN _) (Nat.add_assoc _ _ _))⟩))); try go_wp2_with (first | (go_at_call 158; (with_reducible refine (q1f.calls a0_0 _ _ hp).mono ?_); rintro e w' ⟨rfl, ⟨nd, rfl⟩⟩))); go_ret; exact ⟨rfl, (by repeat (first | exact HB.out | apply bA | apply bN | apply bD))⟩)
 ·cases bn
  case' true => (cases ba; case' true => (cases bt; case' true => (cases pv; case' false => cases bc)))
  all_goals (go_enter Tryd.func135, Tryd.ntmps135; go_wp2_with (first | ((with_reducible refine q15 (N := 1) rfl ?_); refine q0y ?hg (N := 1) ?hd (cs := #[.int .i64 a0_0, .string a0_1, .slice A0_2 l0_2.length c0_2, .string a0_3, .int .i64 a0_4, .slice A0_5 l0_5.length c0_5]) (t := 43) ?hr ?_; (case hd => rfl); (case hg => rfl); (case hr => first | (go_simp; done) | (go_simp; rfl)); intro gb hg wb hbox hb; have n0_ := aS (q09 (by repeat (first | exact HB.out | apply bA | apply bN | apply bD)) hb); have BK := aS hbox; have hz0 : wb.cell? ⟨gb, 0, none⟩ = some (.int .i64 a0_0) := (q02 BK.out 0).trans rfl; have hz1 : wb.cell? ⟨gb, 1, none⟩ = some (.string a0_1) := (q02 BK.out 1).trans rfl; have hz2 : wb.cell? ⟨gb, 2, none⟩ = some (.slice A0_2 l0_2.length c0_2) := (q02 BK.out 2).trans rfl; have hz3 : wb.cell? ⟨gb, 3, none⟩ = some (.string a0_3) := (q02 BK.out 3).trans rfl; have hz4 : wb.cell? ⟨gb, 4, none⟩ = some (.int .i64 a0_4) := (q02 BK.out 4).trans rfl; have hz5 : wb.cell? ⟨gb, 5, none⟩ = some (.slice A0_5 l0_5.length c0_5) := (q02 BK.out 5).trans rfl; clear HB; have HB := n0_; clear n0_ hg hbox hb) | (go_at_call 158; (with_reducible refine (q1f.calls a0_0 _ _ hp).mono ?_); rintro e w' ⟨rfl, ⟨nd, rfl⟩⟩)); repeat (go_quiet ((go_at_call 158; (with_reducible refine (q1f.calls a0_0 _ _ hp).mono ?_); rintro e w' ⟨rfl, ⟨nd, rfl⟩⟩; (try first | exact ⟨rfl, _, World.drewN_drewN _ _ _⟩ | exact ⟨rfl, _, Eq.trans (World.drewN_drewN _ _ _) (congrArg (World.drewN _) (Nat.add_assoc _ _ _))⟩))); try go_wp2_with (first | (go_at_call 158; (with_reducible refine (q1f.calls a0_0 _ _ hp).mono ?_); rintro e w' ⟨rfl, ⟨nd, rfl⟩⟩))); go_ret; exact ⟨rfl, (by repeat (first | exact HB.out | apply bA | apply bN | apply bD))⟩)
set_option maxHeartbeats 8000000 in
theorem q2y.calls (a0_0 : Int) (a0_1 : ByteArray) (A0_2 : Option Addr) (c0_2 : Nat) (l0_2 : List (S122)) (a0_3 : ByteArray) (a0_4 : Int) (A0_5 : Option Addr) (c0_5 : Nat) (l0_5 : List Int) (r : Bool) (w : World) (hr0_2 : Kd.C k122 w A0_2 l0_2.length l0_2) (hc0_2 : l0_2.length ≤ c0_2) (hr0_5 : Kd.C (Kd.int .i64) w A0_5 l0_5.length l0_5) (hc0_5 : l0_5.length ≤ c0_5) (h : q2y.f a0_0 a0_1 l0_2 a0_3 a0_4 l0_5 = some r) :
 Calls Tryd.prog 135 #[.agg #[.int .i64 a0_0, .string a0_1, .slice A0_2 l0_2.length c0_2, .string a0_3, .int .i64 a0_4, .slice A0_5 l0_5.length c0_5]] w fun e w' => e = .returned (.bool r) ∧ Below w.heap.size w w' := by
  obtain ⟨pv, hp⟩ : ∃ pv, q1f.f a0_0 = some pv := by unfold q1f.f; split <;> exact ⟨_, rfl⟩
  have hr : r = ((decide (a0_0 = 2) || decide (a0_0 = 5) || (a0_1.toList == ([] : List UInt8))) && (decide (a0_0 = 2) || ((l0_2.length : Int) == 0)) && (decide (a0_0 = 3) || decide (a0_0 = 4) || (a0_3.toList == ([] : List UInt8))) && (pv || ((l0_5.length : Int) == 0))) := by
   unfold q2y.f at h
   rw [hp] at h
   simp only [Option.bind_some] at h
   clear hp
   generalize ((l0_5.length : Int) == 0) = bc at h ⊢
   have bs : ∀ s : ByteArray, (s.toList == ([] : List UInt8)) = decide (s.toList = []) := fun s => by by_cases c : s.toList = [] <;> simp [c]
   have bl : ((l0_2.length : Int) == 0) = decide ((l0_2.length : Int) = 0) := rfl
   rw [bs, bs, bl]
   generalize (l0_2.length : Int) = L at h ⊢
   generalize a0_1.toList = X at h ⊢
   generalize a0_3.toList = Y at h ⊢
   by_cases k2 : a0_0 = 2
   ·subst k2; by_cases x : Y = [] <;> cases pv <;> simp [x] at h ⊢ <;> first | exact h.symm | exact h
   by_cases k3 : a0_0 = 3
   ·subst k3; by_cases x : X = [] <;> by_cases y : L = 0 <;> cases pv <;> simp [x, y] at h ⊢ <;> first | exact h.symm | exact h
   by_cases k4 : a0_0 = 4
   ·subst k4; by_cases x : X = [] <;> by_cases y : L = 0 <;> cases pv <;> simp [x, y] at h ⊢ <;> first | exact h.symm | exact h
   by_cases k5 : a0_0 = 5
   ·subst k5; by_cases x : Y = [] <;> by_cases y : L = 0 <;> cases pv <;> simp [x, y] at h ⊢ <;> first | exact h.symm | exact h
   by_cases x : X = [] <;> by_cases y : L = 0 <;> by_cases z : Y = [] <;> cases pv <;> simp [k2, k3, k4, k5, x, y, z] at h ⊢ <;> first | exact h.symm | exact h
  subst hr
  refine q2y.core a0_0 a0_1 A0_2 c0_2 l0_2 a0_3 a0_4 A0_5 c0_5 l0_5 _ _ _ _ _ _ _ _ pv w rfl rfl rfl rfl rfl rfl rfl rfl hp ?_
  by_cases k2 : a0_0 = 2
  ·subst k2; simp
  by_cases k3 : a0_0 = 3
  ·subst k3; simp
  by_cases k4 : a0_0 = 4
  ·subst k4; simp
  by_cases k5 : a0_0 = 5
  ·subst k5; simp
  simp [k2, k3, k4, k5]
def strings_IndexByte.f (a0 : ByteArray) (a1 : Int) : Option Int := some (Lib.indexByte a0.data.toList (UInt8.ofNat a1.toNat))
theorem strings_IndexByte.calls (a0 : ByteArray) (a1 : Int) (r : Int) (w : World) (h : strings_IndexByte.f a0 a1 = some r) :
 Calls Tryd.prog 154 #[.string a0, .int .u8 a1] w fun e w' => e = .returned (.int .i64 r) ∧ Drawn0 w w' := by
 obtain rfl := Option.some.inj h
 exact (Tryd.strings_IndexByte a0 a1 w).mono fun e w' ⟨he, hw⟩ => ⟨he, hw ▸ Drawn0.refl _⟩
def strings_Trim.f (a0 a1 : ByteArray) : Option ByteArray := if a0.size ≤ 140737488355328 ∧ a1.size ≤ 1000 ∧ a1.data.toList.all (fun b => decide (b.toNat < 128)) = true then some ⟨(Lib.trimS a0.data.toList a1.data.toList).toArray⟩ else none
theorem strings_Trim.calls (a0 a1 : ByteArray) (r : ByteArray) (w : World) (h : strings_Trim.f a0 a1 = some r) :
 Calls Tryd.prog 177 #[.string a0, .string a1] w fun e w' => e = .returned (.string r) ∧ Below w.heap.size w w' := by
 unfold strings_Trim.f at h
 split at h
 ·rename_i hs
  obtain rfl := Option.some.inj h
  exact Tryd.strings_Trim a0 a1 w (by omega) (by omega) (ascii_of_all hs.2.2)
 ·cases h
def q2m.f (a0 : ByteArray) (a1 : ByteArray) : Option (Bool) := if a0.toList = ([] : List UInt8) then (some false) else (if (a0.size : Int) ≤ 40 then (if 0 < (a0.size : Int) then ((strings_IndexByte.f a1 (bt a0 0)).bind fun t108 => (if t108 ≥ 0 then ((strings_Trim.f a0 (⟨#[97, 98, 99, 100, 101, 102, 103, 104, 105, 106, 107, 108, 109, 110, 111, 112, 113, 114, 115, 116, 117, 118, 119, 120, 121, 122, 48, 49, 50, 51, 52, 53, 54, 55, 56, 57, 45, 95, 58]⟩ : ByteArray)).bind fun t109 => (some (t109.toList == ([] : List UInt8)))) else (some false))) else (none)) else (some false))
set_option maxHeartbeats 8000000 in
set_option maxRecDepth 100000 in
theorem q2m.calls (a0 : ByteArray) (a1 : ByteArray) (r : Bool) (w : World) (h : q2m.f a0 a1 = some r) :
 Calls Tryd.prog 159 #[.string a0, .string a1] w fun e w' => e = .returned (.bool r) ∧ Below w.heap.size w w' := by
 have HB := aS (Below.refl w.heap.size w)
 have H : (if a0.toList = ([] : List UInt8) then (some false) else (if (a0.size : Int) ≤ 40 then (if 0 < (a0.size : Int) then ((strings_IndexByte.f a1 (bt a0 0)).bind fun t108 => (if t108 ≥ 0 then ((strings_Trim.f a0 (⟨#[97, 98, 99, 100, 101, 102, 103, 104, 105, 106, 107, 108, 109, 110, 111, 112, 113, 114, 115, 116, 117, 118, 119, 120, 121, 122, 48, 49, 50, 51, 52, 53, 54, 55, 56, 57, 45, 95, 58]⟩ : ByteArray)).bind fun t109 => (some (t109.toList == ([] : List UInt8)))) else (some false))) else (none)) else (some false))) = some r := h
 clear h
 by_cases c3 : a0.toList = ([] : List UInt8)
 ·rw [if_pos c3] at H
  have c3b0 : (a0.toList == ([] : List UInt8)) = true := beq_iff_eq.mpr c3
  have c3b1 : (a0.toList != ([] : List UInt8)) = false := bne_eq_false_iff_eq.mpr c3
  clear c3
  obtain rfl := Option.some.inj H
  go_enter Tryd.func159, Tryd.ntmps159
  go_wp2
  go_ret
  exact ⟨by first | rfl | (simp [q0b, q0a] <;> rfl) | (simp [*, q0b, q0a] <;> rfl), by repeat (first | (with_reducible first | exact HB.out | apply bA | apply bN | apply bD) | exact HB.out)⟩
 ·rw [if_neg c3] at H
  have c3b0 : (a0.toList == ([] : List UInt8)) = false := beq_eq_false_iff_ne.mpr c3
  have c3b1 : (a0.toList != ([] : List UInt8)) = true := bne_iff_ne.mpr c3
  by_cases c4 : (a0.size : Int) ≤ 40
  ·rw [if_pos c4] at H
   have c4b0 : decide ((a0.size : Int) ≤ 40) = true := decide_eq_true c4
   have c4b1 : decide (a0.size ≤ 40) = true := decide_eq_true (by omega)
   clear c4
   by_cases c5 : 0 < (a0.size : Int)
   ·rw [if_pos c5] at H
    have c5b0 : decide (0 < (a0.size : Int)) = true := decide_eq_true c5
    have c5b1 : decide (0 < a0.size) = true := decide_eq_true (by omega)
    clear c5
    replace H := Option.bind_eq_some_iff.mp H
    obtain ⟨t108, A70, H⟩ := H
    replace H : (if t108 ≥ 0 then ((strings_Trim.f a0 (⟨#[97, 98, 99, 100, 101, 102, 103, 104, 105, 106, 107, 108, 109, 110, 111, 112, 113, 114, 115, 116, 117, 118, 119, 120, 121, 122, 48, 49, 50, 51, 52, 53, 54, 55, 56, 57, 45, 95, 58]⟩ : ByteArray)).bind fun t109 => (some (t109.toList == ([] : List UInt8)))) else (some false)) = some r := H
    have A7 := aS A70
    clear A70
    by_cases c8 : t108 ≥ 0
    ·rw [if_pos c8] at H
     have c8b0 : decide (0 ≤ t108) = true := decide_eq_true c8
     clear c8
     replace H := Option.bind_eq_some_iff.mp H
     obtain ⟨t109, A90, H⟩ := H
     replace H : (some (t109.toList == ([] : List UInt8))) = some r := H
     have A9 := aS A90
     clear A90
     obtain rfl := Option.some.inj H
     have p6 : 0 ≤ (0 : Int) := (by omega)
     have q6 : 0 < a0.size := (by have : (0 : Int) < (a0.size : Int) := od (by first | (with_reducible assumption) | assumption); omega)
     have hx6 : ∀ h : 0 < a0.size, ((a0[0]'h).toNat : Int) = bt a0 0 := bt_at a0 0
     clear p6
     have qi6 : (0 < (a0.size : Int)) = True := eq_true (od (by first | (with_reducible assumption) | assumption))
     replace q6 := eq_true q6
     go_enter Tryd.func159, Tryd.ntmps159
     go_wp2_with (first | (go_at_call 154; (with_reducible refine (strings_IndexByte.calls a1 (bt a0 0) t108 _ A7.out).mono ?_); rintro e w' ⟨rfl, ⟨nd, rfl⟩⟩) | (go_at_call 177; (with_reducible refine (strings_Trim.calls a0 (⟨#[97, 98, 99, 100, 101, 102, 103, 104, 105, 106, 107, 108, 109, 110, 111, 112, 113, 114, 115, 116, 117, 118, 119, 120, 121, 122, 48, 49, 50, 51, 52, 53, 54, 55, 56, 57, 45, 95, 58]⟩ : ByteArray) t109 _ A9.out).mono ?_); rintro e w10 ⟨rfl, hb⟩; have n0_ := aS (q09 (by repeat (first | (with_reducible first | exact HB.out | apply bA | apply bN | apply bD) | exact HB.out)) hb); clear HB; have HB := n0_; clear n0_; (try clear hb); (try clear hb2); (try clear hk); (try clear hi)))
     go_ret
     exact ⟨by first | rfl | (simp [q0b, q0a] <;> rfl) | (simp [*, q0b, q0a] <;> rfl), by repeat (first | (with_reducible first | exact HB.out | apply bA | apply bN | apply bD) | exact HB.out)⟩
    ·rw [if_neg c8] at H
     have c8b0 : decide (0 ≤ t108) = false := decide_eq_false c8
     clear c8
     obtain rfl := Option.some.inj H
     have p6 : 0 ≤ (0 : Int) := (by omega)
     have q6 : 0 < a0.size := (by have : (0 : Int) < (a0.size : Int) := od (by first | (with_reducible assumption) | assumption); omega)
     have hx6 : ∀ h : 0 < a0.size, ((a0[0]'h).toNat : Int) = bt a0 0 := bt_at a0 0
     clear p6
     have qi6 : (0 < (a0.size : Int)) = True := eq_true (od (by first | (with_reducible assumption) | assumption))
     replace q6 := eq_true q6
     go_enter Tryd.func159, Tryd.ntmps159
     go_wp2_with (first | (go_at_call 154; (with_reducible refine (strings_IndexByte.calls a1 (bt a0 0) t108 _ A7.out).mono ?_); rintro e w' ⟨rfl, ⟨nd, rfl⟩⟩))
     go_ret
     exact ⟨by first | rfl | (simp [q0b, q0a] <;> rfl) | (simp [*, q0b, q0a] <;> rfl), by repeat (first | (with_reducible first | exact HB.out | apply bA | apply bN | apply bD) | exact HB.out)⟩
   ·rw [if_neg c5] at H
    exact absurd H (by simp)
  ·rw [if_neg c4] at H
   have c4b0 : decide ((a0.size : Int) ≤ 40) = false := decide_eq_false c4
   have c4b1 : decide (a0.size ≤ 40) = false := decide_eq_false (by omega)
   clear c4
   obtain rfl := Option.some.inj H
   go_enter Tryd.func159, Tryd.ntmps159
   go_wp2
   go_ret
   exact ⟨by first | rfl | (simp [q0b, q0a] <;> rfl) | (simp [*, q0b, q0a] <;> rfl), by repeat (first | (with_reducible first | exact HB.out | apply bA | apply bN | apply bD) | exact HB.out)⟩
def dom_Name.f (a0 : ByteArray) : Option (Bool) := if 0 ≤ 26 then (if 26 ≤ 39 then ((q2m.f a0 ((⟨#[97, 98, 99, 100, 101, 102, 103, 104, 105, 106, 107, 108, 109, 110, 111, 112, 113, 114, 115, 116, 117, 118, 119, 120, 121, 122, 48, 49, 50, 51, 52, 53, 54, 55, 56, 57, 45, 95, 58]⟩ : ByteArray).extract 0 26)).bind fun t110 => (some t110)) else (none)) else (none)
set_option maxHeartbeats 8000000 in
set_option maxRecDepth 100000 in
theorem dom_Name.calls (a0 : ByteArray) (r : Bool) (w : World) (h : dom_Name.f a0 = some r) :
 Calls Tryd.prog 136 #[.string a0] w fun e w' => e = .returned (.bool r) ∧ Below w.heap.size w w' := by
 have HB := aS (Below.refl w.heap.size w)
 have H : (if 0 ≤ 26 then (if 26 ≤ 39 then ((q2m.f a0 ((⟨#[97, 98, 99, 100, 101, 102, 103, 104, 105, 106, 107, 108, 109, 110, 111, 112, 113, 114, 115, 116, 117, 118, 119, 120, 121, 122, 48, 49, 50, 51, 52, 53, 54, 55, 56, 57, 45, 95, 58]⟩ : ByteArray).extract 0 26)).bind fun t110 => (some t110)) else (none)) else (none)) = some r := h
 clear h
 by_cases c2 : 0 ≤ 26
 ·rw [if_pos c2] at H
  have c2b0 := eq_true c2
  have c2b1 : decide (0 ≤ 26) = true := decide_eq_true c2
  clear c2
  by_cases c3 : 26 ≤ 39
  ·rw [if_pos c3] at H
   have c3b0 := eq_true c3
   have c3b1 : decide (26 ≤ 39) = true := decide_eq_true c3
   clear c3
   replace H := Option.bind_eq_some_iff.mp H
   obtain ⟨t110, A40, H⟩ := H
   replace H : (some t110) = some r := H
   have A4 := aS A40
   clear A40
   obtain rfl := Option.some.inj H
   go_enter Tryd.func136, Tryd.ntmps136
   go_wp2_with (first | ((with_reducible refine q0l (f := 159) rfl ?_); refine q1d (some 5) rfl rfl Tryd.func159 (by kernel_rfl) rfl #[.string a0, .string ((⟨#[97, 98, 99, 100, 101, 102, 103, 104, 105, 106, 107, 108, 109, 110, 111, 112, 113, 114, 115, 116, 117, 118, 119, 120, 121, 122, 48, 49, 50, 51, 52, 53, 54, 55, 56, 57, 45, 95, 58]⟩ : ByteArray).extract 0 26)] rfl (by (try simp only [List.map_toArray, List.map_cons, List.map_nil]); first | done | rfl | (simp only [List.length_drop, List.length_take]; rfl)) ?_; (with_reducible refine (q2m.calls a0 ((⟨#[97, 98, 99, 100, 101, 102, 103, 104, 105, 106, 107, 108, 109, 110, 111, 112, 113, 114, 115, 116, 117, 118, 119, 120, 121, 122, 48, 49, 50, 51, 52, 53, 54, 55, 56, 57, 45, 95, 58]⟩ : ByteArray).extract 0 26) t110 _ A4.out).mono ?_); rintro e w5 ⟨rfl, hb⟩; refine ⟨_, rfl, ?_⟩; have n0_ := aS (q09 (by repeat (first | (with_reducible first | exact HB.out | apply bA | apply bN | apply bD) | exact HB.out)) hb); clear HB; have HB := n0_; clear n0_; (try clear hb); (try clear hb2); (try clear hk); (try clear hi)))
   go_ret
   exact ⟨by first | rfl | (simp [q0b, q0a] <;> rfl) | (simp [*, q0b, q0a] <;> rfl), by repeat (first | (with_reducible first | exact HB.out | apply bA | apply bN | apply bD) | exact HB.out)⟩
  ·rw [if_neg c3] at H
   exact absurd H (by simp)
 ·rw [if_neg c2] at H
  exact absurd H (by simp)
set_option maxHeartbeats 2000000 in
theorem api_Attr.idx (A0 : Option Addr) (c0 : Nat) (l0 : List S122) (p : S122 → Bool) (g : Nat) (lb : Array Value) (eg : ∀ args w, (callFunc g args).run Tryd.prog w = .ok (.enter g args) w) (w : World) (hr0 : Kd.C k122 w A0 l0.length l0) (hn : l0.length ≤ 9223372036854775807)
 (hp : ∀ W x cs, x ∈ l0 → Below w.heap.size w W → (k122).K W x cs → Calls Tryd.prog g (#[.agg cs.toArray] ++ lb) W fun e w' => e = .returned (.bool (p x)) ∧ Below W.heap.size W w') :
 Calls Tryd.prog 141 #[.slice A0 l0.length c0, .func (.func g) #[] lb] w fun e w' => e = .returned (.int .i64 (Cl.idxOf p l0)) ∧ Below w.heap.size w w' := by
 have hC := aS hr0
 have HP := aS hp
 have HN := aS hn
 clear hr0 hp
 go_enter Tryd.func141, Tryd.ntmps141
 go_wp2
 go_loopg [5, 8] l0.length (fun gg _ s8 wr => ∃ kk : Nat, kk ≤ l0.length ∧ l0.length - kk ≤ gg ∧ s8 = .int .i64 kk ∧ Aside0 (Below w.heap.size w wr) ∧ Aside0 (∀ j, j < kk → p (l0.getD j z122) = false))
 case atStart => exact ⟨0, Nat.zero_le _, by omega, rfl, ⟨Below.refl _ w⟩, ⟨fun j hj => absurd hj (Nat.not_lt_zero _)⟩⟩
 case round =>
  obtain ⟨kk, hkk, hg, rfl, BW, HA⟩ := hrel
  by_cases hlt : kk < l0.length
  ·have hltz : (kk : Int) < (l0.length : Int) := by omega
   obtain ⟨ad, cs, rfl, hcl, hK, hcc⟩ := Cl.getC (Kd.C_below hC.out BW.out) z122 kk hlt
   have hcall := HP.out wr (l0.getD kk z122) cs (Cl.mem_getD l0 kk z122 hlt) BW.out hK
   have hcl' : cs.length = 2 := hcl
   have hcc' : ∀ j u, cs[j]? = some u → wr.cell? (ad.add (kk * 2 + j)) = some u := hcc
   obtain ⟨u0_, u1_, rfl⟩ : ∃ u0_ u1_, cs = [u0_, u1_] := by
    match cs, hcl' with
    | [u0_, u1_], _ => exact ⟨u0_, u1_, rfl⟩
   have hz0 : wr.cell? (ad.add (kk * 2)) = some u0_ := hcc' 0 _ rfl
   have hz1 : wr.cell? ⟨(ad.add (kk * 2)).block, (ad.add (kk * 2)).off + 1, none⟩ = some u1_ := by rw [← add_field _ _ 1 (by omega)]; exact hcc' 1 _ rfl
   replace hcall : Calls Tryd.prog g (#[.agg #[u0_, u1_]] ++ lb) wr _ := hcall
   clear hcl hcc hK hcc'
   obtain ⟨x, hx⟩ : ∃ x, l0.getD kk z122 = x := ⟨_, rfl⟩
   rw [hx] at hcall
   have HX := aS hx
   clear hx
   cases hq : p x with
   | true =>
    rw [hq] at hcall
    have HQ := aS hq
    clear hq
    go_wp2_with (go_at_fn g; refine hcall.mono ?_; rintro e w' ⟨rfl, hb'⟩)
    go_ret
    refine ⟨?_, BW.out.trans (hb'.mono BW.out.size)⟩
    rw [Cl.idxOf_hit p z122 l0 kk hlt (by rw [HX.out]; exact HQ.out) HA.out]
    rfl
   | false =>
    rw [hq] at hcall
    have HQ := aS hq
    clear hq
    go_wp2_with (go_at_fn g; refine hcall.mono ?_; rintro e w' ⟨rfl, hb'⟩)
    go_roundg (l0.length - (kk + 1))
    case measure => omega
    case rel =>
     refine ⟨kk + 1, by omega, by omega, by go_num, ⟨BW.out.trans (hb'.mono BW.out.size)⟩, ⟨fun j hj => ?_⟩⟩
     by_cases e : j = kk
     ·subst e
      rw [HX.out]; exact HQ.out
     ·exact HA.out j (by omega)
  ·have hltz : ¬ (kk : Int) < (l0.length : Int) := by omega
   have : kk = l0.length := by omega
   subst this
   go_wp2
   go_ret
   refine ⟨?_, BW.out⟩
   rw [Cl.idxOf_miss p z122 l0 HA.out]
   rfl
def q2s.f (l0 : List S122) (a1 : ByteArray) : Option Int := if l0.length * 32 ≤ 140737488355328 then some (Cl.idxOf (fun x => x.f0.toList == a1.toList) l0) else none
theorem q2s.calls (A0 : Option Addr) (c0 : Nat) (l0 : List S122) (a1 : ByteArray) (r : Int) (w : World) (hr0 : Kd.C k122 w A0 l0.length l0) (hc0 : l0.length ≤ c0) (h : q2s.f l0 a1 = some r) :
 Calls Tryd.prog 112 #[.slice A0 l0.length c0, .string a1] w fun e w' => e = .returned (.int .i64 r) ∧ Below w.heap.size w w' := by
 unfold q2s.f at h
 split at h
 ·rename_i hs0
  have hr := Option.some.inj h
  clear h
  have eg : ∀ args w, (callFunc 142 args).run Tryd.prog w = .ok (.enter 142 args) w := enters_of Tryd.func142 (by kernel_rfl) rfl
  have hb0 : Below w.heap.size w (w.alloc (.cells #[.string a1] 9)) := (Below.refl _ w).alloc (Nat.le_refl _) _
  have hH := api_Attr.idx A0 c0 l0 (fun x => x.f0.toList == a1.toList) 142 #[.pointer (some ⟨w.heap.size, 0, none⟩)] eg _ (Kd.C_below hr0 hb0) (by omega) (fun W x cs hx hb hK => by
   obtain rfl := k122_open hK
   have hcell : W.cell? ⟨w.heap.size, 0, none⟩ = some (.string a1) := (hb.cell (p := ⟨w.heap.size, 0, none⟩) (by simp)).trans (by simp)
   have hlt : w.heap.size < W.heap.size := Nat.lt_of_lt_of_le (by simp) hb.size
   show Calls Tryd.prog 142 #[.agg #[.string x.f0, .string x.f1], .pointer (some ⟨w.heap.size, 0, none⟩)] W _
   have hne : w.heap.size ≠ W.heap.size := by omega
   clear hb hr hr0 hb0 hx hK
   go_enter Tryd.func142, Tryd.ntmps142
   go_wp2
   go_ret
   exact ⟨by first | rfl | simp, (Below.refl _ W).alloc (Nat.le_refl _) _⟩)
  rw [hr] at hH
  clear hr hr0
  go_enter Tryd.func112, Tryd.ntmps112
  go_wp2_with (go_at_call 141; refine hH.mono ?_; rintro e w' ⟨rfl, hb'⟩)
  go_ret
  exact ⟨rfl, ((Below.refl _ w).alloc (Nat.le_refl _) _).trans (hb'.mono (by simp))⟩
 ·cases h
def q20.f (a0 : ByteArray) : Option (Bool) := if 0 ≤ 26 then (if 26 ≤ 39 then (if ((⟨#[97, 98, 99, 100, 101, 102, 103, 104, 105, 106, 107, 108, 109, 110, 111, 112, 113, 114, 115, 116, 117, 118, 119, 120, 121, 122, 48, 49, 50, 51, 52, 53, 54, 55, 56, 57, 45, 95, 58]⟩ : ByteArray).extract 0 26).size + 2 ≤ 9223372036854775807 then ((q2m.f a0 (((⟨#[97, 98, 99, 100, 101, 102, 103, 104, 105, 106, 107, 108, 109, 110, 111, 112, 113, 114, 115, 116, 117, 118, 119, 120, 121, 122, 48, 49, 50, 51, 52, 53, 54, 55, 56, 57, 45, 95, 58]⟩ : ByteArray).extract 0 26) ++ (⟨#[45, 95]⟩ : ByteArray))).bind fun t111 => (some t111)) else (none)) else (none)) else (none)
set_option maxHeartbeats 8000000 in
set_option maxRecDepth 100000 in
theorem q20.calls (a0 : ByteArray) (r : Bool) (w : World) (h : q20.f a0 = some r) :
 Calls Tryd.prog 160 #[.string a0] w fun e w' => e = .returned (.bool r) ∧ Below w.heap.size w w' := by
 have HB := aS (Below.refl w.heap.size w)
 have H : (if 0 ≤ 26 then (if 26 ≤ 39 then (if ((⟨#[97, 98, 99, 100, 101, 102, 103, 104, 105, 106, 107, 108, 109, 110, 111, 112, 113, 114, 115, 116, 117, 118, 119, 120, 121, 122, 48, 49, 50, 51, 52, 53, 54, 55, 56, 57, 45, 95, 58]⟩ : ByteArray).extract 0 26).size + 2 ≤ 9223372036854775807 then ((q2m.f a0 (((⟨#[97, 98, 99, 100, 101, 102, 103, 104, 105, 106, 107, 108, 109, 110, 111, 112, 113, 114, 115, 116, 117, 118, 119, 120, 121, 122, 48, 49, 50, 51, 52, 53, 54, 55, 56, 57, 45, 95, 58]⟩ : ByteArray).extract 0 26) ++ (⟨#[45, 95]⟩ : ByteArray))).bind fun t111 => (some t111)) else (none)) else (none)) else (none)) = some r := h
 clear h
 by_cases c2 : 0 ≤ 26
 ·rw [if_pos c2] at H
  have c2b0 := eq_true c2
  have c2b1 : decide (0 ≤ 26) = true := decide_eq_true c2
  clear c2
  by_cases c3 : 26 ≤ 39
  ·rw [if_pos c3] at H
   have c3b0 := eq_true c3
   have c3b1 : decide (26 ≤ 39) = true := decide_eq_true c3
   clear c3
   by_cases c4 : ((⟨#[97, 98, 99, 100, 101, 102, 103, 104, 105, 106, 107, 108, 109, 110, 111, 112, 113, 114, 115, 116, 117, 118, 119, 120, 121, 122, 48, 49, 50, 51, 52, 53, 54, 55, 56, 57, 45, 95, 58]⟩ : ByteArray).extract 0 26).size + 2 ≤ 9223372036854775807
   ·rw [if_pos c4] at H
    have c4b0 := eq_true c4
    have c4b1 : decide (((⟨#[97, 98, 99, 100, 101, 102, 103, 104, 105, 106, 107, 108, 109, 110, 111, 112, 113, 114, 115, 116, 117, 118, 119, 120, 121, 122, 48, 49, 50, 51, 52, 53, 54, 55, 56, 57, 45, 95, 58]⟩ : ByteArray).extract 0 26).size + 2 ≤ 9223372036854775807) = true := decide_eq_true c4
    try have c4b2 : (9223372036854775807 < ((⟨#[97, 98, 99, 100, 101, 102, 103, 104, 105, 106, 107, 108, 109, 110, 111, 112, 113, 114, 115, 116, 117, 118, 119, 120, 121, 122, 48, 49, 50, 51, 52, 53, 54, 55, 56, 57, 45, 95, 58]⟩ : ByteArray).extract 0 26).size + 2) = False := eq_false (Nat.not_lt.2 c4)
    replace H := Option.bind_eq_some_iff.mp H
    obtain ⟨t111, A50, H⟩ := H
    replace H : (some t111) = some r := H
    have A5 := aS A50
    clear A50
    obtain rfl := Option.some.inj H
    go_enter Tryd.func160, Tryd.ntmps160
    go_wp2_with (first | ((with_reducible refine q0l (f := 159) rfl ?_); refine q1d (some 6) rfl rfl Tryd.func159 (by kernel_rfl) rfl #[.string a0, .string (((⟨#[97, 98, 99, 100, 101, 102, 103, 104, 105, 106, 107, 108, 109, 110, 111, 112, 113, 114, 115, 116, 117, 118, 119, 120, 121, 122, 48, 49, 50, 51, 52, 53, 54, 55, 56, 57, 45, 95, 58]⟩ : ByteArray).extract 0 26) ++ (⟨#[45, 95]⟩ : ByteArray))] rfl (by (try simp only [List.map_toArray, List.map_cons, List.map_nil]); first | done | rfl | (simp only [List.length_drop, List.length_take]; rfl)) ?_; (with_reducible refine (q2m.calls a0 (((⟨#[97, 98, 99, 100, 101, 102, 103, 104, 105, 106, 107, 108, 109, 110, 111, 112, 113, 114, 115, 116, 117, 118, 119, 120, 121, 122, 48, 49, 50, 51, 52, 53, 54, 55, 56, 57, 45, 95, 58]⟩ : ByteArray).extract 0 26) ++ (⟨#[45, 95]⟩ : ByteArray)) t111 _ A5.out).mono ?_); rintro e w6 ⟨rfl, hb⟩; refine ⟨_, rfl, ?_⟩; have n0_ := aS (q09 (by repeat (first | (with_reducible first | exact HB.out | apply bA | apply bN | apply bD) | exact HB.out)) hb); clear HB; have HB := n0_; clear n0_; (try clear hb); (try clear hb2); (try clear hk); (try clear hi)))
    go_ret
    exact ⟨by first | rfl | (simp [q0b, q0a] <;> rfl) | (simp [*, q0b, q0a] <;> rfl), by repeat (first | (with_reducible first | exact HB.out | apply bA | apply bN | apply bD) | exact HB.out)⟩
   ·rw [if_neg c4] at H
    exact absurd H (by simp)
  ·rw [if_neg c3] at H
   exact absurd H (by simp)
 ·rw [if_neg c2] at H
  exact absurd H (by simp)
def q19.l0 : Nat → List (S122) → List (S122) → Int → Int → Option (Int)
 | 0, _, _, _, _ => none
 | k + 1, x0, x8, x9, x10 => if x10 < x9 then (if 0 ≤ x10 then (if x10 < (x8.length : Int) then ((q20.f ((q0v x8 x10).f0)).bind fun t114 => (if t114 = true then (if (((q0v x8 x10).f1).size : Int) > 400 then (some 2) else (if x10 ≤ (x0.length : Int) then ((q2s.f (x0.take (x10 : Int).toNat) ((q0v x8 x10).f0)).bind fun t119 => (if t119 ≥ 0 then (some 3) else (q19.l0 k x0 x8 x9 (wrap64 (x10 + 1))))) else (none))) else (some 3))) else (none)) else (none)) else (some 0)
def q19.f (k : Nat) (l0 : List (S122)) : Option (Int) := if (l0.length : Int) > 12 then (some 2) else (q19.l0 k l0 l0 (l0.length : Int) 0)
theorem q19.mono_l : ∀ k, (∀ y0 y1 y2 y3, LeO (q19.l0 k y0 y1 y2 y3) (q19.l0 (k + 1) y0 y1 y2 y3))
 | 0 => fun _ _ _ _ r h => by simp [q19.l0] at h
 | k + 1 => by
  have ih0 := q19.mono_l k
  ·intro y0 y1 y2 y3
   unfold q19.l0
   repeat' first
   | (with_reducible exact ih0 _ _ _ _)
   | (with_reducible exact LeO.refl _)
   | (with_reducible exact LeO.none _)
   | (with_reducible refine LeO.ite ?_ ?_)
   | (with_reducible refine LeO.bind ?_ (fun _ => ?_))
   | exact ih0 _ _ _ _
   | exact LeO.none _
   | refine LeO.ite ?_ ?_
   | refine LeO.bind ?_ (fun _ => ?_)
theorem q19.mono : ∀ a0 k, LeO (q19.f k a0) (q19.f (k + 1) a0) := by
 intro a0 k
 have ih0 := q19.mono_l k
 unfold q19.f
 repeat' first
  | (with_reducible exact ih0 _ _ _ _)
  | (with_reducible exact LeO.refl _)
  | (with_reducible exact LeO.none _)
  | (with_reducible refine LeO.ite ?_ ?_)
  | (with_reducible refine LeO.bind ?_ (fun _ => ?_))
  | exact ih0 _ _ _ _
  | exact LeO.none _
  | refine LeO.ite ?_ ?_
  | refine LeO.bind ?_ (fun _ => ?_)
def q19.T10 : Bool × List (List Nat × List Nat) := (true, [([], []), ([], []), ([0, 1], [0, 1]), ([], []), ([3], [3]), ([2, 4], [2, 4]), ([5], [5]), ([6, 5], [6])])
def q19.B10 : List Nat := [0, 0, 3, 0, 8, 31, 63, 127]
theorem q19.tab10 : rtab .any (opsOf Tryd.f137 10) = q19.T10 := by kernel_rfl
theorem q19.bits10 : waitsOk q19.T10.2 q19.B10 = true := by kernel_rfl
set_option maxHeartbeats 8000000 in
set_option maxRecDepth 100000 in
theorem q19.calls (k : Nat) (A0 : Option Addr) (c0 : Nat) (l0 : List (S122)) (r : Int) (w : World) (hr0 : Kd.C k122 w A0 l0.length l0) (hc0 : l0.length ≤ c0) (h : q19.f k l0 = some r) :
 Calls Tryd.prog 137 #[.slice A0 l0.length c0] w fun e w' => e = .returned (.int .i64 r) ∧ Below w.heap.size w w' := by
 have hu122 := Tryd.underlying122
 have HR0 := aS hr0
 have HC0 := aS hc0
 clear hr0 hc0
 have HB := aS (Below.refl w.heap.size w)
 have H : (if (l0.length : Int) > 12 then (some 2) else (q19.l0 k l0 l0 (l0.length : Int) 0)) = some r := h
 clear h
 by_cases c2 : (l0.length : Int) > 12
 ·rw [if_pos c2] at H
  have c2b0 : decide (12 < (l0.length : Int)) = true := decide_eq_true c2
  have c2b1 : decide (12 < l0.length) = true := decide_eq_true (by omega)
  clear c2
  obtain rfl := Option.some.inj H
  go_enter Tryd.func137, Tryd.ntmps137
  go_wp2
  go_ret
  exact ⟨by first | rfl | (simp [q0b, q0a] <;> rfl) | (simp [*, q0b, q0a] <;> rfl), by repeat (first | (with_reducible first | exact HB.out | apply bA | apply bN | apply bD) | exact HB.out)⟩
 ·rw [if_neg c2] at H
  have c2b0 : decide (12 < (l0.length : Int)) = false := decide_eq_false c2
  have c2b1 : decide (12 < l0.length) = false := decide_eq_false (by omega)
  clear c2
  have H' := aS H
  clear H
  go_enter Tryd.func137, Tryd.ntmps137
  go_wp2
  go_loopg [10] k (fun kq v10 w' => ∃ (x10_1 : Int), v10 = .int .i64 x10_1 ∧ Aside0 (q19.l0 kq l0 l0 (l0.length : Int) x10_1 = some r) ∧ Aside0 (kq ≤ k) ∧ Aside0 (Below w.heap.size w w'))
  case atStart => exact ⟨(0), (by first | rfl | (simp; done) | simp [*]), H', ⟨Nat.le_refl _⟩, ⟨by repeat (first | (with_reducible first | exact HB.out | apply bA | apply bN | apply bD) | exact HB.out)⟩⟩
  case round =>
   clear H'
   try clear c1
   try clear c2
   try clear c2b0
   try clear c2b1
   try clear p2
   obtain ⟨x10_1, rfl, HA, HK1, HB⟩ := hrel
   cases gk with
   | zero => exact absurd HA.out (by simp [q19.l0])
   | succ k1 =>
    have H := HA.out
    clear HA
    simp only [q19.l0] at H
    by_cases c3 : x10_1 < (l0.length : Int)
    ·rw [if_pos c3] at H
     have c3b0 : decide (x10_1 < (l0.length : Int)) = true := decide_eq_true c3
     clear c3
     by_cases c4 : 0 ≤ x10_1
     ·rw [if_pos c4] at H
      have c4b0 : decide (0 ≤ x10_1) = true := decide_eq_true c4
      clear c4
      by_cases c5 : x10_1 < (l0.length : Int)
      ·rw [if_pos c5] at H
       have c5b0 : decide (x10_1 < (l0.length : Int)) = true := decide_eq_true c5
       clear c5
       replace H := Option.bind_eq_some_iff.mp H
       obtain ⟨t114, A60, H⟩ := H
       replace H : (if t114 = true then (if (((q0v l0 x10_1).f1).size : Int) > 400 then (some 2) else (if x10_1 ≤ (l0.length : Int) then ((q2s.f (l0.take (x10_1 : Int).toNat) ((q0v l0 x10_1).f0)).bind fun t119 => (if t119 ≥ 0 then (some 3) else (q19.l0 k1 l0 l0 (l0.length : Int) (wrap64 (x10_1 + 1))))) else (none))) else (some 3)) = some r := H
       have A6 := aS A60
       clear A60
       by_cases c7 : t114 = true
       ·subst c7
        have H1 : (if (((q0v l0 x10_1).f1).size : Int) > 400 then (some 2) else (if x10_1 ≤ (l0.length : Int) then ((q2s.f (l0.take (x10_1 : Int).toNat) ((q0v l0 x10_1).f0)).bind fun t119 => (if t119 ≥ 0 then (some 3) else (q19.l0 k1 l0 l0 (l0.length : Int) (wrap64 (x10_1 + 1))))) else (none))) = some r := by rw [if_pos rfl] at H; exact H
        clear H
        have H := H1
        clear H1
        by_cases c8 : (((q0v l0 x10_1).f1).size : Int) > 400
        ·rw [if_pos c8] at H
         have c8b0 : decide (400 < (((q0v l0 x10_1).f1).size : Int)) = true := decide_eq_true c8
         have c8b1 : decide (400 < ((q0v l0 x10_1).f1).size) = true := decide_eq_true (by omega)
         clear c8
         obtain rfl := Option.some.inj H
         have p112 : 0 ≤ (x10_1 : Int) := od (by first | (with_reducible assumption) | assumption)
         have q112 : x10_1 < (l0.length : Int) := od (by first | (with_reducible assumption) | assumption)
         obtain ⟨ad112, e112, hx112_0, hx112_1⟩ := q1y HR0.out x10_1 p112 q112
         cases e112
         replace hx112_0 := (HB.out.cell (World.block_lt_of_cell? w _ hx112_0)).trans hx112_0
         replace hx112_1 := (HB.out.cell (World.block_lt_of_cell? w _ hx112_1)).trans hx112_1
         replace p112 := eq_true p112
         replace q112 := eq_true q112
         go_wp2_with (first | ((with_reducible refine q15 (N := 4) rfl ?_); refine q0y ?hg (N := 4) ?hd (cs := #[.string (⟨#[]⟩ : ByteArray), .string (⟨#[]⟩ : ByteArray)]) (t := 122) ?hr ?_; (case hd => rfl); (case hg => rfl); (case hr => first | (go_simp; done) | (go_simp; rfl)); intro gb113 hg w9 hbox hb; have n0_ := aS (q09 (by repeat (first | (with_reducible first | exact HB.out | apply bA | apply bN | apply bD) | exact HB.out)) hb); have n1_ := aS (hbox); have n2_ := aS ((by rw [hg]; exact (q0k (by repeat (first | (with_reducible first | exact HB.out | apply bA | apply bN | apply bD) | exact HB.out))) : w.heap.size ≤ gb113)); have n3_ := aS ((by rw [hg]; exact (q0k (by repeat (first | (with_reducible first | exact HB.out | apply bA | apply bN | apply bD) | exact HB.out))) : w.heap.size ≤ gb113)); clear HB; have HB := n0_; have BK113 := n1_; have GW113 := n2_; have GE113 := n3_; clear n0_ n1_ n2_ n3_; clear hb hbox hg; have hcz10_0 : w9.cell? ⟨gb113, 0, none⟩ = some (.string (⟨#[]⟩ : ByteArray)) := (q02 BK113.out 0).trans rfl; have hcz10_1 : w9.cell? ⟨gb113, 1, none⟩ = some (.string (⟨#[]⟩ : ByteArray)) := (q02 BK113.out 1).trans rfl; have hfz10_0 := q01 BK113.out 0; have hfz10_1 := q01 BK113.out 1) | ((with_reducible refine q0l (f := 160) rfl ?_); refine q1d (some 18) rfl rfl Tryd.func160 (by kernel_rfl) rfl #[.string ((q0v l0 x10_1).f0)] rfl (by (try simp only [List.map_toArray, List.map_cons, List.map_nil]); first | done | rfl | (simp only [List.length_drop, List.length_take]; rfl)) ?_; (with_reducible refine (q20.calls ((q0v l0 x10_1).f0) true _ A6.out).mono ?_); rintro e w11 ⟨rfl, hb⟩; refine ⟨_, rfl, ?_⟩; have n0_ := aS (q16 (g := gb113) (o := .cells #[.string ((q0v l0 x10_1).f0), .string ((q0v l0 x10_1).f1)] 122 (0, 0)) (by (with_reducible repeat (first | refine kN ?_ _ | refine kD ?_ | refine kA ?_ _)); refine q1p (cs := #[.string ((q0v l0 x10_1).f0), .string (⟨#[]⟩ : ByteArray)]) ?_ 1 _ rfl; (with_reducible repeat (first | refine kN ?_ _ | refine kD ?_ | refine kA ?_ _)); refine q1p (cs := #[.string (⟨#[]⟩ : ByteArray), .string (⟨#[]⟩ : ByteArray)]) ?_ 0 _ rfl; (with_reducible repeat (first | refine kN ?_ _ | refine kD ?_ | refine kA ?_ _)); exact BK113.out) hb); have n1_ := aS (q09 (by repeat (first | (with_reducible first | exact HB.out | apply bA | apply bN | apply bD | refine bS ?_ GE113.out) | exact HB.out)) hb); clear BK113; clear HB; have BK113 := n0_; have HB := n1_; clear n0_ n1_; (try clear hb); (try clear hb2); (try clear hk); (try clear hi); have hcz12_0 : w11.cell? ⟨gb113, 0, none⟩ = some (.string ((q0v l0 x10_1).f0)) := (q02 BK113.out 0).trans rfl; have hcz12_1 : w11.cell? ⟨gb113, 1, none⟩ = some (.string ((q0v l0 x10_1).f1)) := (q02 BK113.out 1).trans rfl; have hfz12_0 := q01 BK113.out 0; have hfz12_1 := q01 BK113.out 1))
         go_ret
         exact ⟨by first | rfl | (simp [q0b, q0a] <;> rfl) | (simp [*, q0b, q0a] <;> rfl), by repeat (first | (with_reducible first | exact HB.out | apply bA | apply bN | apply bD | refine bS ?_ GE113.out) | exact HB.out)⟩
        ·rw [if_neg c8] at H
         have c8b0 : decide (400 < (((q0v l0 x10_1).f1).size : Int)) = false := decide_eq_false c8
         have c8b1 : decide (400 < ((q0v l0 x10_1).f1).size) = false := decide_eq_false (by omega)
         clear c8
         have c13b0 := eq_true (od (by first | (with_reducible assumption) | assumption) : 0 ≤ x10_1)
         by_cases c14 : x10_1 ≤ (l0.length : Int)
         ·rw [if_pos c14] at H
          have c14b0 := eq_true c14
          have c14b1 : decide (x10_1 ≤ (l0.length : Int)) = true := decide_eq_true c14
          clear c14
          obtain ⟨y115, hy115⟩ : ∃ y_ : List (S122), y_ = (l0.take (x10_1 : Int).toNat) := ⟨_, rfl⟩
          replace H : ((q2s.f y115 ((q0v l0 x10_1).f0)).bind fun t119 => (if t119 ≥ 0 then (some 3) else (q19.l0 k1 l0 l0 (l0.length : Int) (wrap64 (x10_1 + 1))))) = some r := by first | (rw [hy115]; with_reducible exact H) | (have H2_ := (Option.bind_some _ _).symm.trans H; rw [hy115]; with_reducible exact H2_) | (have H2_ := (Option.bind_some _ _).symm.trans H; with_reducible exact H2_) | with_reducible exact H | (rw [hy115]; exact H) | exact H
          have Ny115 := aS hy115
          clear hy115
          replace H := Option.bind_eq_some_iff.mp H
          obtain ⟨t119, A150, H⟩ := H
          replace H : (if t119 ≥ 0 then (some 3) else (q19.l0 k1 l0 l0 (l0.length : Int) (wrap64 (x10_1 + 1)))) = some r := H
          have A15 := aS A150
          clear A150
          by_cases c16 : t119 ≥ 0
          ·rw [if_pos c16] at H
           have c16b0 : decide (0 ≤ t119) = true := decide_eq_true c16
           clear c16
           obtain rfl := Option.some.inj H
           have p112 : 0 ≤ (x10_1 : Int) := od (by first | (with_reducible assumption) | assumption)
           have q112 : x10_1 < (l0.length : Int) := od (by first | (with_reducible assumption) | assumption)
           obtain ⟨ad112, e112, hx112_0, hx112_1⟩ := q1y HR0.out x10_1 p112 q112
           cases e112
           replace hx112_0 := (HB.out.cell (World.block_lt_of_cell? w _ hx112_0)).trans hx112_0
           replace hx112_1 := (HB.out.cell (World.block_lt_of_cell? w _ hx112_1)).trans hx112_1
           replace p112 := eq_true p112
           replace q112 := eq_true q112
           try go_wp2_with (first | ((with_reducible refine q15 (N := 4) rfl ?_); refine q0y ?hg (N := 4) ?hd (cs := #[.string (⟨#[]⟩ : ByteArray), .string (⟨#[]⟩ : ByteArray)]) (t := 122) ?hr ?_; (case hd => rfl); (case hg => rfl); (case hr => first | (go_simp; done) | (go_simp; rfl)); intro gb113 hg w17 hbox hb; have n0_ := aS (q09 (by repeat (first | (with_reducible first | exact HB.out | apply bA | apply bN | apply bD) | exact HB.out)) hb); have n1_ := aS (hbox); have n2_ := aS ((by rw [hg]; exact (q0k (by repeat (first | (with_reducible first | exact HB.out | apply bA | apply bN | apply bD) | exact HB.out))) : w.heap.size ≤ gb113)); have n3_ := aS ((by rw [hg]; exact (q0k (by repeat (first | (with_reducible first | exact HB.out | apply bA | apply bN | apply bD) | exact HB.out))) : w.heap.size ≤ gb113)); clear HB; have HB := n0_; have BK113 := n1_; have GW113 := n2_; have GE113 := n3_; clear n0_ n1_ n2_ n3_; clear hb hbox hg; have hcz18_0 : w17.cell? ⟨gb113, 0, none⟩ = some (.string (⟨#[]⟩ : ByteArray)) := (q02 BK113.out 0).trans rfl; have hcz18_1 : w17.cell? ⟨gb113, 1, none⟩ = some (.string (⟨#[]⟩ : ByteArray)) := (q02 BK113.out 1).trans rfl; have hfz18_0 := q01 BK113.out 0; have hfz18_1 := q01 BK113.out 1) | ((with_reducible refine q0l (f := 160) rfl ?_); refine q1d (some 18) rfl rfl Tryd.func160 (by kernel_rfl) rfl #[.string ((q0v l0 x10_1).f0)] rfl (by (try simp only [List.map_toArray, List.map_cons, List.map_nil]); first | done | rfl | (simp only [List.length_drop, List.length_take]; rfl)) ?_; (with_reducible refine (q20.calls ((q0v l0 x10_1).f0) true _ A6.out).mono ?_); rintro e w19 ⟨rfl, hb⟩; refine ⟨_, rfl, ?_⟩; have n0_ := aS (q16 (g := gb113) (o := .cells #[.string ((q0v l0 x10_1).f0), .string ((q0v l0 x10_1).f1)] 122 (0, 0)) (by (with_reducible repeat (first | refine kN ?_ _ | refine kD ?_ | refine kA ?_ _)); refine q1p (cs := #[.string ((q0v l0 x10_1).f0), .string (⟨#[]⟩ : ByteArray)]) ?_ 1 _ rfl; (with_reducible repeat (first | refine kN ?_ _ | refine kD ?_ | refine kA ?_ _)); refine q1p (cs := #[.string (⟨#[]⟩ : ByteArray), .string (⟨#[]⟩ : ByteArray)]) ?_ 0 _ rfl; (with_reducible repeat (first | refine kN ?_ _ | refine kD ?_ | refine kA ?_ _)); exact BK113.out) hb); have n1_ := aS (q09 (by repeat (first | (with_reducible first | exact HB.out | apply bA | apply bN | apply bD | refine bS ?_ GE113.out) | exact HB.out)) hb); clear BK113; clear HB; have BK113 := n0_; have HB := n1_; clear n0_ n1_; (try clear hb); (try clear hb2); (try clear hk); (try clear hi); have hcz20_0 : w19.cell? ⟨gb113, 0, none⟩ = some (.string ((q0v l0 x10_1).f0)) := (q02 BK113.out 0).trans rfl; have hcz20_1 : w19.cell? ⟨gb113, 1, none⟩ = some (.string ((q0v l0 x10_1).f1)) := (q02 BK113.out 1).trans rfl; have hfz20_0 := q01 BK113.out 0; have hfz20_1 := q01 BK113.out 1))
           have n0_ := aS (blk_drew BK113.out)
           have n1_ := aS (q2f HB.out)
           clear BK113
           clear HB
           have BK113 := n0_
           have HB := n1_
           clear n0_ n1_
           have q22 : (x10_1 : Int) ≤ ((l0.length : Int) : Int) := od (by first | (with_reducible assumption) | assumption)
           obtain ⟨i022, hi022, _, hsz22, _⟩ := info_parts info122
           have hroom22 : l0.length ≤ c0 := HC0.out
           have hC22 : Kd.C k122 _ (some ad112) l0.length l0 := HR0.out
           have hcut22 := cut_to (P := Tryd.prog) 41 122 .i64 Tryd.underlying41 hi022 (some ad112) l0.length c0 x10_1 (od (by first | (with_reducible assumption) | assumption)) q22 hroom22
           have hr22 := Kd.C_take (m := (x10_1 : Int).toNat) hC22 (by omega)
           have hy22 : y115.length = (x10_1 : Int).toNat := (by rw [Ny115.out, List.length_take]; omega)
           rw [← Ny115.out] at hr22
           rw [← hy22] at hcut22
           have HR118 := aS hr22
           have HC118 := aS (show y115.length ≤ c0 from by omega)
           clear hr22 hC22 hroom22 hi022 hsz22
           have KY22 := aS hy22
           clear hy22
           replace q22 := eq_true q22
           refine start_ (n := 8) (S := fun w' => w'.cell? ⟨gb113, 0, none⟩ = some (.string ((q0v l0 x10_1).f0)) ∧ w'.cell? ⟨gb113, 1, none⟩ = some (.string ((q0v l0 x10_1).f1))) (ds := []) #[false, false, false, false, false, false, false, false] (by kernel_rfl) rfl rfl ⟨(q02 BK113.out 0).trans rfl, (q02 BK113.out 1).trans rfl⟩ (fun hHeld => ?_); refine with_tabW q19.tab10 q19.bits10 (fun HT_ HW_ => ?_)
           generalize w19.drew = w21 at BK113 HB HR118 hHeld ⊢
           refine q1u (i := 0) (N := some 26) (v := ?_) (a' := ?_) #[true, false, false, false, false, false, false, false] rfl rfl (q1n HT_.out (by kernel_rfl)) (fun _ _ _ h => h) (Or.inl ⟨by rfl, ?_⟩) ?_ ?_
           rotate_left
           ·intro w'
            go_simp
            with_reducible rfl
           rotate_left
           ·simp only [Act.put, s1, s2, s3, q1e, q1i]
            rfl
           refine q1u (i := 1) (N := some 27) (v := ?_) (a' := ?_) #[true, true, false, false, false, false, false, false] rfl rfl (q1n HT_.out (by kernel_rfl)) (fun _ _ _ h => h) (Or.inl ⟨by rfl, ?_⟩) ?_ ?_
           rotate_left
           ·intro w'
            go_simp
            with_reducible rfl
           rotate_left
           ·simp only [Act.put, s1, s2, s3, q1e, q1i]
            rfl
           refine q1u (i := 2) (N := some 28) (v := ?_) (a' := ?_) #[true, true, true, false, false, false, false, false] rfl rfl (q1n HT_.out (by kernel_rfl)) (fun _ _ _ h => h) (Or.inl ⟨by rfl, ?_⟩) ?_ ?_
           rotate_left
           ·intro w'
            go_simp
            with_reducible rfl
           rotate_left
           ·simp only [Act.put, s1, s2, s3, q1e, q1i]
            rfl
           refine q1u (i := 3) (N := some 29) (v := ?_) (a' := ?_) #[true, true, true, true, false, false, false, false] rfl rfl (q1n HT_.out (by kernel_rfl)) (fun _ _ _ h => h) (Or.inl ⟨by rfl, ?_⟩) ?_ ?_
           rotate_left
           ·intro w'
            go_simp
            with_reducible rfl
           rotate_left
           ·simp only [Act.put, s1, s2, s3, q1e, q1i]
            rfl
           refine take_ (i := 4) (N := some 30) (v := ?_) (a' := ?_) #[true, true, true, true, true, false, false, false] rfl rfl (q2q HT_.out HW_.out (by kernel_rfl)) (fun _ _ _ h => h) (Or.inl ⟨by rfl, ?_⟩) hHeld ?_ ?_
           rotate_left
           ·rintro w' ⟨s0, s1⟩
            go_simp
            with_reducible rfl
           rotate_left
           ·simp only [Act.put, s1, s2, s3, q1e, q1i]
            rfl
           refine one_ (i := 5) (N := some 31) #[true, true, true, true, true, true, false, false] rfl rfl (one_of HT_.out (by kernel_rfl)) (by decide) (fun K hK => ?_)
           refine goes_ Tryd.func112 (by kernel_rfl) rfl #[.slice (some ad112) y115.length c0, .string ((q0v l0 x10_1).f0)] (by rfl) rfl rfl (by (try simp only [List.map_toArray, List.map_cons, List.map_nil]); first | done | rfl | (simp only [List.length_drop, List.length_take]; rfl)) ?_
           with_reducible refine (q2s.calls _ _ y115 ((q0v l0 x10_1).f0) t119 _ ?side1 ?side2 A15.out).mono ?_
           (case side1 => repeat (first | exact (Kd.C_below HR118.out HB.out) | (with_reducible refine cA ?_ _) | (with_reducible refine cN ?_ _) | (with_reducible refine cD ?_)))
           (case side2 => exact HC118.out)
           rintro e w23 ⟨rfl, hb⟩
           refine ⟨_, rfl, ?_⟩
           have n0_ := aS (q16 (g := gb113) (o := .cells #[.string ((q0v l0 x10_1).f0), .string ((q0v l0 x10_1).f1)] 122 (0, 0)) (by (with_reducible repeat (first | refine kN ?_ _ | refine kD ?_ | refine kA ?_ _)); exact BK113.out) hb)
           have n1_ := aS (q09 (by repeat (first | (with_reducible first | exact HB.out | apply bA | apply bN | apply bD | refine bS ?_ GE113.out) | exact HB.out)) hb)
           clear BK113
           clear HB
           have BK113 := n0_
           have HB := n1_
           clear n0_ n1_
           (try clear hb)
           (try clear hb2)
           (try clear hk)
           (try clear hi)
           refine hK.out _ _ ⟨(q02 BK113.out 0).trans rfl, (q02 BK113.out 1).trans rfl⟩ (fun hHeld => ?_)
           clear hK K
           refine norm_ (a' := ?_) ?_ ?_
           rotate_left
           ·show Act.put _ (some 31) _ = _
            simp only [Act.put, s1, s2, s3, q1e, q1i]
            rfl
           refine q1u (i := 6) (N := some 32) (v := ?_) (a' := ?_) #[true, true, true, true, true, true, true, false] rfl rfl (q1n HT_.out (by kernel_rfl)) (fun _ _ _ h => h) (Or.inl ⟨by rfl, ?_⟩) ?_ ?_
           rotate_left
           ·intro w'
            go_simp
            with_reducible rfl
           rotate_left
           ·simp only [Act.put, s1, s2, s3, q1e, q1i]
            rfl
           refine q1u (i := 7) (N := some 25) (v := ?_) (a' := ?_) #[true, true, true, true, true, true, true, true] rfl rfl (q1n HT_.out (by kernel_rfl)) (fun _ _ _ h => h) (Or.inl ⟨by rfl, ?_⟩) ?_ ?_
           rotate_left
           ·intro w'
            go_simp
            with_reducible rfl
           rotate_left
           ·simp only [Act.put, s1, s2, s3, q1e, q1i]
            rfl
           refine done_ (done_of HT_.out (by kernel_rfl)) ?_
           try go_wp2
           go_ret
           exact ⟨by first | rfl | (simp [q0b, q0a] <;> rfl) | (simp [*, q0b, q0a] <;> rfl), by repeat (first | (with_reducible first | exact HB.out | apply bA | apply bN | apply bD | refine bS ?_ GE113.out) | exact HB.out)⟩
          ·rw [if_neg c16] at H
           have c16b0 : decide (0 ≤ t119) = false := decide_eq_false c16
           clear c16
           have H' := aS H
           clear H
           have p112 : 0 ≤ (x10_1 : Int) := od (by first | (with_reducible assumption) | assumption)
           have q112 : x10_1 < (l0.length : Int) := od (by first | (with_reducible assumption) | assumption)
           obtain ⟨ad112, e112, hx112_0, hx112_1⟩ := q1y HR0.out x10_1 p112 q112
           cases e112
           replace hx112_0 := (HB.out.cell (World.block_lt_of_cell? w _ hx112_0)).trans hx112_0
           replace hx112_1 := (HB.out.cell (World.block_lt_of_cell? w _ hx112_1)).trans hx112_1
           replace p112 := eq_true p112
           replace q112 := eq_true q112
           try go_wp2_with (first | ((with_reducible refine q15 (N := 4) rfl ?_); refine q0y ?hg (N := 4) ?hd (cs := #[.string (⟨#[]⟩ : ByteArray), .string (⟨#[]⟩ : ByteArray)]) (t := 122) ?hr ?_; (case hd => rfl); (case hg => rfl); (case hr => first | (go_simp; done) | (go_simp; rfl)); intro gb113 hg w24 hbox hb; have n0_ := aS (q09 (by repeat (first | (with_reducible first | exact HB.out | apply bA | apply bN | apply bD) | exact HB.out)) hb); have n1_ := aS (hbox); have n2_ := aS ((by rw [hg]; exact (q0k (by repeat (first | (with_reducible first | exact HB.out | apply bA | apply bN | apply bD) | exact HB.out))) : w.heap.size ≤ gb113)); have n3_ := aS ((by rw [hg]; exact (q0k (by repeat (first | (with_reducible first | exact HB.out | apply bA | apply bN | apply bD) | exact HB.out))) : w.heap.size ≤ gb113)); clear HB; have HB := n0_; have BK113 := n1_; have GW113 := n2_; have GE113 := n3_; clear n0_ n1_ n2_ n3_; clear hb hbox hg; have hcz25_0 : w24.cell? ⟨gb113, 0, none⟩ = some (.string (⟨#[]⟩ : ByteArray)) := (q02 BK113.out 0).trans rfl; have hcz25_1 : w24.cell? ⟨gb113, 1, none⟩ = some (.string (⟨#[]⟩ : ByteArray)) := (q02 BK113.out 1).trans rfl; have hfz25_0 := q01 BK113.out 0; have hfz25_1 := q01 BK113.out 1) | ((with_reducible refine q0l (f := 160) rfl ?_); refine q1d (some 18) rfl rfl Tryd.func160 (by kernel_rfl) rfl #[.string ((q0v l0 x10_1).f0)] rfl (by (try simp only [List.map_toArray, List.map_cons, List.map_nil]); first | done | rfl | (simp only [List.length_drop, List.length_take]; rfl)) ?_; (with_reducible refine (q20.calls ((q0v l0 x10_1).f0) true _ A6.out).mono ?_); rintro e w26 ⟨rfl, hb⟩; refine ⟨_, rfl, ?_⟩; have n0_ := aS (q16 (g := gb113) (o := .cells #[.string ((q0v l0 x10_1).f0), .string ((q0v l0 x10_1).f1)] 122 (0, 0)) (by (with_reducible repeat (first | refine kN ?_ _ | refine kD ?_ | refine kA ?_ _)); refine q1p (cs := #[.string ((q0v l0 x10_1).f0), .string (⟨#[]⟩ : ByteArray)]) ?_ 1 _ rfl; (with_reducible repeat (first | refine kN ?_ _ | refine kD ?_ | refine kA ?_ _)); refine q1p (cs := #[.string (⟨#[]⟩ : ByteArray), .string (⟨#[]⟩ : ByteArray)]) ?_ 0 _ rfl; (with_reducible repeat (first | refine kN ?_ _ | refine kD ?_ | refine kA ?_ _)); exact BK113.out) hb); have n1_ := aS (q09 (by repeat (first | (with_reducible first | exact HB.out | apply bA | apply bN | apply bD | refine bS ?_ GE113.out) | exact HB.out)) hb); clear BK113; clear HB; have BK113 := n0_; have HB := n1_; clear n0_ n1_; (try clear hb); (try clear hb2); (try clear hk); (try clear hi); have hcz27_0 : w26.cell? ⟨gb113, 0, none⟩ = some (.string ((q0v l0 x10_1).f0)) := (q02 BK113.out 0).trans rfl; have hcz27_1 : w26.cell? ⟨gb113, 1, none⟩ = some (.string ((q0v l0 x10_1).f1)) := (q02 BK113.out 1).trans rfl; have hfz27_0 := q01 BK113.out 0; have hfz27_1 := q01 BK113.out 1))
           have n0_ := aS (blk_drew BK113.out)
           have n1_ := aS (q2f HB.out)
           clear BK113
           clear HB
           have BK113 := n0_
           have HB := n1_
           clear n0_ n1_
           have q29 : (x10_1 : Int) ≤ ((l0.length : Int) : Int) := od (by first | (with_reducible assumption) | assumption)
           obtain ⟨i029, hi029, _, hsz29, _⟩ := info_parts info122
           have hroom29 : l0.length ≤ c0 := HC0.out
           have hC29 : Kd.C k122 _ (some ad112) l0.length l0 := HR0.out
           have hcut29 := cut_to (P := Tryd.prog) 41 122 .i64 Tryd.underlying41 hi029 (some ad112) l0.length c0 x10_1 (od (by first | (with_reducible assumption) | assumption)) q29 hroom29
           have hr29 := Kd.C_take (m := (x10_1 : Int).toNat) hC29 (by omega)
           have hy29 : y115.length = (x10_1 : Int).toNat := (by rw [Ny115.out, List.length_take]; omega)
           rw [← Ny115.out] at hr29
           rw [← hy29] at hcut29
           have HR118 := aS hr29
           have HC118 := aS (show y115.length ≤ c0 from by omega)
           clear hr29 hC29 hroom29 hi029 hsz29
           have KY29 := aS hy29
           clear hy29
           replace q29 := eq_true q29
           refine start_ (n := 8) (S := fun w' => w'.cell? ⟨gb113, 0, none⟩ = some (.string ((q0v l0 x10_1).f0)) ∧ w'.cell? ⟨gb113, 1, none⟩ = some (.string ((q0v l0 x10_1).f1))) (ds := []) #[false, false, false, false, false, false, false, false] (by kernel_rfl) rfl rfl ⟨(q02 BK113.out 0).trans rfl, (q02 BK113.out 1).trans rfl⟩ (fun hHeld => ?_); refine with_tabW q19.tab10 q19.bits10 (fun HT_ HW_ => ?_)
           generalize w26.drew = w28 at BK113 HB HR118 hHeld ⊢
           refine q1u (i := 0) (N := some 26) (v := ?_) (a' := ?_) #[true, false, false, false, false, false, false, false] rfl rfl (q1n HT_.out (by kernel_rfl)) (fun _ _ _ h => h) (Or.inl ⟨by rfl, ?_⟩) ?_ ?_
           rotate_left
           ·intro w'
            go_simp
            with_reducible rfl
           rotate_left
           ·simp only [Act.put, s1, s2, s3, q1e, q1i]
            rfl
           refine q1u (i := 1) (N := some 27) (v := ?_) (a' := ?_) #[true, true, false, false, false, false, false, false] rfl rfl (q1n HT_.out (by kernel_rfl)) (fun _ _ _ h => h) (Or.inl ⟨by rfl, ?_⟩) ?_ ?_
           rotate_left
           ·intro w'
            go_simp
            with_reducible rfl
           rotate_left
           ·simp only [Act.put, s1, s2, s3, q1e, q1i]
            rfl
           refine q1u (i := 2) (N := some 28) (v := ?_) (a' := ?_) #[true, true, true, false, false, false, false, false] rfl rfl (q1n HT_.out (by kernel_rfl)) (fun _ _ _ h => h) (Or.inl ⟨by rfl, ?_⟩) ?_ ?_
           rotate_left
           ·intro w'
            go_simp
            with_reducible rfl
           rotate_left
           ·simp only [Act.put, s1, s2, s3, q1e, q1i]
            rfl
           refine q1u (i := 3) (N := some 29) (v := ?_) (a' := ?_) #[true, true, true, true, false, false, false, false] rfl rfl (q1n HT_.out (by kernel_rfl)) (fun _ _ _ h => h) (Or.inl ⟨by rfl, ?_⟩) ?_ ?_
           rotate_left
           ·intro w'
            go_simp
            with_reducible rfl
           rotate_left
           ·simp only [Act.put, s1, s2, s3, q1e, q1i]
            rfl
           refine take_ (i := 4) (N := some 30) (v := ?_) (a' := ?_) #[true, true, true, true, true, false, false, false] rfl rfl (q2q HT_.out HW_.out (by kernel_rfl)) (fun _ _ _ h => h) (Or.inl ⟨by rfl, ?_⟩) hHeld ?_ ?_
           rotate_left
           ·rintro w' ⟨s0, s1⟩
            go_simp
            with_reducible rfl
           rotate_left
           ·simp only [Act.put, s1, s2, s3, q1e, q1i]
            rfl
           refine one_ (i := 5) (N := some 31) #[true, true, true, true, true, true, false, false] rfl rfl (one_of HT_.out (by kernel_rfl)) (by decide) (fun K hK => ?_)
           refine goes_ Tryd.func112 (by kernel_rfl) rfl #[.slice (some ad112) y115.length c0, .string ((q0v l0 x10_1).f0)] (by rfl) rfl rfl (by (try simp only [List.map_toArray, List.map_cons, List.map_nil]); first | done | rfl | (simp only [List.length_drop, List.length_take]; rfl)) ?_
           with_reducible refine (q2s.calls _ _ y115 ((q0v l0 x10_1).f0) t119 _ ?side1 ?side2 A15.out).mono ?_
           (case side1 => repeat (first | exact (Kd.C_below HR118.out HB.out) | (with_reducible refine cA ?_ _) | (with_reducible refine cN ?_ _) | (with_reducible refine cD ?_)))
           (case side2 => exact HC118.out)
           rintro e w30 ⟨rfl, hb⟩
           refine ⟨_, rfl, ?_⟩
           have n0_ := aS (q16 (g := gb113) (o := .cells #[.string ((q0v l0 x10_1).f0), .string ((q0v l0 x10_1).f1)] 122 (0, 0)) (by (with_reducible repeat (first | refine kN ?_ _ | refine kD ?_ | refine kA ?_ _)); exact BK113.out) hb)
           have n1_ := aS (q09 (by repeat (first | (with_reducible first | exact HB.out | apply bA | apply bN | apply bD | refine bS ?_ GE113.out) | exact HB.out)) hb)
           clear BK113
           clear HB
           have BK113 := n0_
           have HB := n1_
           clear n0_ n1_
           (try clear hb)
           (try clear hb2)
           (try clear hk)
           (try clear hi)
           refine hK.out _ _ ⟨(q02 BK113.out 0).trans rfl, (q02 BK113.out 1).trans rfl⟩ (fun hHeld => ?_)
           clear hK K
           refine norm_ (a' := ?_) ?_ ?_
           rotate_left
           ·show Act.put _ (some 31) _ = _
            simp only [Act.put, s1, s2, s3, q1e, q1i]
            rfl
           refine q1u (i := 6) (N := some 32) (v := ?_) (a' := ?_) #[true, true, true, true, true, true, true, false] rfl rfl (q1n HT_.out (by kernel_rfl)) (fun _ _ _ h => h) (Or.inl ⟨by rfl, ?_⟩) ?_ ?_
           rotate_left
           ·intro w'
            go_simp
            with_reducible rfl
           rotate_left
           ·simp only [Act.put, s1, s2, s3, q1e, q1i]
            rfl
           refine q1u (i := 7) (N := some 25) (v := ?_) (a' := ?_) #[true, true, true, true, true, true, true, true] rfl rfl (q1n HT_.out (by kernel_rfl)) (fun _ _ _ h => h) (Or.inl ⟨by rfl, ?_⟩) ?_ ?_
           rotate_left
           ·intro w'
            go_simp
            with_reducible rfl
           rotate_left
           ·simp only [Act.put, s1, s2, s3, q1e, q1i]
            rfl
           refine done_ (done_of HT_.out (by kernel_rfl)) ?_
           try go_wp2
           go_roundg k1
           case measure => have := HK1.out; omega
           case rel => exact ⟨(wrap64 (x10_1 + 1)), (by first | rfl | (simp; done) | simp [*]), H', ⟨by have := HK1.out; omega⟩, ⟨by repeat (first | (with_reducible first | exact HB.out | apply bA | apply bN | apply bD | refine bS ?_ GE113.out) | exact HB.out)⟩⟩
         ·rw [if_neg c14] at H
          exact absurd H (by simp)
       ·replace c7 := Bool.eq_false_iff.mpr c7
        subst c7
        have H1 : (some 3) = some r := by rw [if_neg (show ¬ (false = true) by decide)] at H; exact H
        clear H
        have H := H1
        clear H1
        obtain rfl := Option.some.inj H
        have p112 : 0 ≤ (x10_1 : Int) := od (by first | (with_reducible assumption) | assumption)
        have q112 : x10_1 < (l0.length : Int) := od (by first | (with_reducible assumption) | assumption)
        obtain ⟨ad112, e112, hx112_0, hx112_1⟩ := q1y HR0.out x10_1 p112 q112
        cases e112
        replace hx112_0 := (HB.out.cell (World.block_lt_of_cell? w _ hx112_0)).trans hx112_0
        replace hx112_1 := (HB.out.cell (World.block_lt_of_cell? w _ hx112_1)).trans hx112_1
        replace p112 := eq_true p112
        replace q112 := eq_true q112
        go_wp2_with (first | ((with_reducible refine q15 (N := 4) rfl ?_); refine q0y ?hg (N := 4) ?hd (cs := #[.string (⟨#[]⟩ : ByteArray), .string (⟨#[]⟩ : ByteArray)]) (t := 122) ?hr ?_; (case hd => rfl); (case hg => rfl); (case hr => first | (go_simp; done) | (go_simp; rfl)); intro gb113 hg w31 hbox hb; have n0_ := aS (q09 (by repeat (first | (with_reducible first | exact HB.out | apply bA | apply bN | apply bD) | exact HB.out)) hb); have n1_ := aS (hbox); have n2_ := aS ((by rw [hg]; exact (q0k (by repeat (first | (with_reducible first | exact HB.out | apply bA | apply bN | apply bD) | exact HB.out))) : w.heap.size ≤ gb113)); have n3_ := aS ((by rw [hg]; exact (q0k (by repeat (first | (with_reducible first | exact HB.out | apply bA | apply bN | apply bD) | exact HB.out))) : w.heap.size ≤ gb113)); clear HB; have HB := n0_; have BK113 := n1_; have GW113 := n2_; have GE113 := n3_; clear n0_ n1_ n2_ n3_; clear hb hbox hg; have hcz32_0 : w31.cell? ⟨gb113, 0, none⟩ = some (.string (⟨#[]⟩ : ByteArray)) := (q02 BK113.out 0).trans rfl; have hcz32_1 : w31.cell? ⟨gb113, 1, none⟩ = some (.string (⟨#[]⟩ : ByteArray)) := (q02 BK113.out 1).trans rfl; have hfz32_0 := q01 BK113.out 0; have hfz32_1 := q01 BK113.out 1) | ((with_reducible refine q0l (f := 160) rfl ?_); refine q1d (some 18) rfl rfl Tryd.func160 (by kernel_rfl) rfl #[.string ((q0v l0 x10_1).f0)] rfl (by (try simp only [List.map_toArray, List.map_cons, List.map_nil]); first | done | rfl | (simp only [List.length_drop, List.length_take]; rfl)) ?_; (with_reducible refine (q20.calls ((q0v l0 x10_1).f0) false _ A6.out).mono ?_); rintro e w33 ⟨rfl, hb⟩; refine ⟨_, rfl, ?_⟩; have n0_ := aS (q16 (g := gb113) (o := .cells #[.string ((q0v l0 x10_1).f0), .string ((q0v l0 x10_1).f1)] 122 (0, 0)) (by (with_reducible repeat (first | refine kN ?_ _ | refine kD ?_ | refine kA ?_ _)); refine q1p (cs := #[.string ((q0v l0 x10_1).f0), .string (⟨#[]⟩ : ByteArray)]) ?_ 1 _ rfl; (with_reducible repeat (first | refine kN ?_ _ | refine kD ?_ | refine kA ?_ _)); refine q1p (cs := #[.string (⟨#[]⟩ : ByteArray), .string (⟨#[]⟩ : ByteArray)]) ?_ 0 _ rfl; (with_reducible repeat (first | refine kN ?_ _ | refine kD ?_ | refine kA ?_ _)); exact BK113.out) hb); have n1_ := aS (q09 (by repeat (first | (with_reducible first | exact HB.out | apply bA | apply bN | apply bD | refine bS ?_ GE113.out) | exact HB.out)) hb); clear BK113; clear HB; have BK113 := n0_; have HB := n1_; clear n0_ n1_; (try clear hb); (try clear hb2); (try clear hk); (try clear hi)))
        go_ret
        exact ⟨by first | rfl | (simp [q0b, q0a] <;> rfl) | (simp [*, q0b, q0a] <;> rfl), by repeat (first | (with_reducible first | exact HB.out | apply bA | apply bN | apply bD | refine bS ?_ GE113.out) | exact HB.out)⟩
      ·rw [if_neg c5] at H
       exact absurd H (by simp)
     ·rw [if_neg c4] at H
      exact absurd H (by simp)
    ·rw [if_neg c3] at H
     have c3b0 : decide (x10_1 < (l0.length : Int)) = false := decide_eq_false c3
     clear c3
     obtain rfl := Option.some.inj H
     go_wp2
     go_ret
     exact ⟨by first | rfl | (simp [q0b, q0a] <;> rfl) | (simp [*, q0b, q0a] <;> rfl), by repeat (first | (with_reducible first | exact HB.out | apply bA | apply bN | apply bD) | exact HB.out)⟩
end Go.Proofs.YthjnallbbhnndaaDoor.XWk
namespace Go.Proofs.YthjnallbbhnndaaDoor.XWk
open Go.Proofs.YthjnallbbhnndaaDoor.Short Go.RowKit Go.Proofs.YthjnallbbhnndaaDoorW.PrintWords Go.Proofs.YthjnallbbhnndaaDoorW.PrintLast Go.Proofs.YthjnallbbhnndaaDoorW.PrintMore
attribute [local go_sem] q27 q25 q2l q2k q1w q1v q26 q24   -- for this text's walks alone
set_option linter.unusedVariables false
set_option linter.unusedSimpArgs false
mutual
def q1h.j1 : Nat → Int → ByteArray → List (S122) → ByteArray → Int → List Int → Option (Int)
 | 0, _, _, _, _, _, _ => none
 | k + 1, x121000, x121001, x121002, x121003, x121004, x121005 => (q19.f k x121002).bind fun t123 => (if t123 = 0 then (if (x121003.size : Int) > 400 then (some 2) else (if (x121001.size : Int) > 400 then (some 2) else (some 0))) else (some t123))
def q1h.j0 : Nat → Bool → Int → ByteArray → List (S122) → ByteArray → Int → List Int → Option (Int)
 | 0, _, _, _, _, _, _, _ => none
 | k + 1, x4, x121000, x121001, x121002, x121003, x121004, x121005 => if x4 = true then (some 7) else (if x121000 = 2 then ((dom_Name.f x121001).bind fun t122 => (if t122 = true then (q1h.j1 k x121000 x121001 x121002 x121003 x121004 x121005) else (some 3))) else (q1h.j1 k x121000 x121001 x121002 x121003 x121004 x121005))
end
def q1h.f (k : Nat) (a0_0 : Int) (a0_1 : ByteArray) (l0_2 : List (S122)) (a0_3 : ByteArray) (a0_4 : Int) (l0_5 : List Int) : Option (Int) := if a0_0 < 1 then (q1h.j0 k true a0_0 a0_1 l0_2 a0_3 a0_4 l0_5) else (if a0_0 > 5 then (q1h.j0 k true a0_0 a0_1 l0_2 a0_3 a0_4 l0_5) else ((q2y.f a0_0 a0_1 l0_2 a0_3 a0_4 l0_5).bind fun t121 => (q1h.j0 k (!t121) a0_0 a0_1 l0_2 a0_3 a0_4 l0_5)))
theorem q1h.mono_l : ∀ k, (∀ y0 y1 y2 y3 y4 y5, LeO (q1h.j1 k y0 y1 y2 y3 y4 y5) (q1h.j1 (k + 1) y0 y1 y2 y3 y4 y5)) ∧ (∀ y0 y1 y2 y3 y4 y5 y6, LeO (q1h.j0 k y0 y1 y2 y3 y4 y5 y6) (q1h.j0 (k + 1) y0 y1 y2 y3 y4 y5 y6))
 | 0 => ⟨fun _ _ _ _ _ _ r h => by simp [q1h.j1] at h, fun _ _ _ _ _ _ _ r h => by simp [q1h.j0] at h⟩
 | k + 1 => by
  obtain ⟨ih0, ih1⟩ := q1h.mono_l k
  refine ⟨?_, ?_⟩
  ·intro y0 y1 y2 y3 y4 y5
   unfold q1h.j1
   repeat' first
   | (with_reducible exact ih0 _ _ _ _ _ _)
   | (with_reducible exact ih1 _ _ _ _ _ _ _)
   | (with_reducible exact q19.mono _ _)
   | (with_reducible exact LeO.refl _)
   | (with_reducible exact LeO.none _)
   | (with_reducible refine LeO.ite ?_ ?_)
   | (with_reducible refine LeO.bind ?_ (fun _ => ?_))
   | exact ih0 _ _ _ _ _ _
   | exact ih1 _ _ _ _ _ _ _
   | exact q19.mono _ _
   | exact LeO.none _
   | refine LeO.ite ?_ ?_
   | refine LeO.bind ?_ (fun _ => ?_)
  ·intro y0 y1 y2 y3 y4 y5 y6
   unfold q1h.j0
   repeat' first
   | (with_reducible exact ih0 _ _ _ _ _ _)
   | (with_reducible exact ih1 _ _ _ _ _ _ _)
   | (with_reducible exact q19.mono _ _)
   | (with_reducible exact LeO.refl _)
   | (with_reducible exact LeO.none _)
   | (with_reducible refine LeO.ite ?_ ?_)
   | (with_reducible refine LeO.bind ?_ (fun _ => ?_))
   | exact ih0 _ _ _ _ _ _
   | exact ih1 _ _ _ _ _ _ _
   | exact q19.mono _ _
   | exact LeO.none _
   | refine LeO.ite ?_ ?_
   | refine LeO.bind ?_ (fun _ => ?_)
theorem q1h.mono : ∀ a0 a1 a2 a3 a4 a5 k, LeO (q1h.f k a0 a1 a2 a3 a4 a5) (q1h.f (k + 1) a0 a1 a2 a3 a4 a5) := by
 intro a0 a1 a2 a3 a4 a5 k
 obtain ⟨ih0, ih1⟩ := q1h.mono_l k
 unfold q1h.f
 repeat' first
  | (with_reducible exact ih0 _ _ _ _ _ _)
  | (with_reducible exact ih1 _ _ _ _ _ _ _)
  | (with_reducible exact q19.mono _ _)
  | (with_reducible exact LeO.refl _)
  | (with_reducible exact LeO.none _)
  | (with_reducible refine LeO.ite ?_ ?_)
  | (with_reducible refine LeO.bind ?_ (fun _ => ?_))
  | exact ih0 _ _ _ _ _ _
  | exact ih1 _ _ _ _ _ _ _
  | exact q19.mono _ _
  | exact LeO.none _
  | refine LeO.ite ?_ ?_
  | refine LeO.bind ?_ (fun _ => ?_)
set_option maxHeartbeats 8000000 in
set_option maxRecDepth 100000 in
theorem q1h.calls (k : Nat) (a0_0 : Int) (a0_1 : ByteArray) (A0_2 : Option Addr) (c0_2 : Nat) (l0_2 : List (S122)) (a0_3 : ByteArray) (a0_4 : Int) (A0_5 : Option Addr) (c0_5 : Nat) (l0_5 : List Int) (r : Int) (w : World) (hr0_2 : Kd.C k122 w A0_2 l0_2.length l0_2) (hc0_2 : l0_2.length ≤ c0_2) (hr0_5 : Kd.C (Kd.int .i64) w A0_5 l0_5.length l0_5) (hc0_5 : l0_5.length ≤ c0_5) (h : q1h.f k a0_0 a0_1 l0_2 a0_3 a0_4 l0_5 = some r) :
 Calls Tryd.prog 100 #[.agg #[.int .i64 a0_0, .string a0_1, .slice A0_2 l0_2.length c0_2, .string a0_3, .int .i64 a0_4, .slice A0_5 l0_5.length c0_5]] w fun e w' => e = .returned (.int .i64 r) ∧ Below w.heap.size w w' := by
 have hu43 := Tryd.underlying43
 have HR0_2 := aS hr0_2
 have HC0_2 := aS hc0_2
 clear hr0_2 hc0_2
 have HR0_5 := aS hr0_5
 have HC0_5 := aS hc0_5
 clear hr0_5 hc0_5
 have HB := aS (Below.refl w.heap.size w)
 have H : (if a0_0 < 1 then (q1h.j0 k true a0_0 a0_1 l0_2 a0_3 a0_4 l0_5) else (if a0_0 > 5 then (q1h.j0 k true a0_0 a0_1 l0_2 a0_3 a0_4 l0_5) else ((q2y.f a0_0 a0_1 l0_2 a0_3 a0_4 l0_5).bind fun t121 => (q1h.j0 k (!t121) a0_0 a0_1 l0_2 a0_3 a0_4 l0_5)))) = some r := h
 clear h
 have HC2 := aS H
 clear H
 go_enter Tryd.func100, Tryd.ntmps100
 go_upto_block 0 with (first | ((with_reducible refine q15 (N := 1) rfl ?_); (try (refine q1t (by rfl) ?_; dsimp only)); refine q0y ?hg (N := 1) ?hd (cs := #[.int .i64 a0_0, .string a0_1, .slice A0_2 l0_2.length c0_2, .string a0_3, .int .i64 a0_4, .slice A0_5 l0_5.length c0_5]) (t := 43) ?hr ?_; (case hd => rfl); (case hg => rfl); (case hr => first | (go_simp; done) | (go_simp; rfl)); intro gb120 hg w3 hbox hb; have n0_ := aS (q09 (by repeat (first | (with_reducible first | exact HB.out | apply bA | apply bN | apply bD) | exact HB.out)) hb); have n1_ := aS (hbox); have n2_ := aS ((by rw [hg]; exact (q0k (by repeat (first | (with_reducible first | exact HB.out | apply bA | apply bN | apply bD) | exact HB.out))) : w.heap.size ≤ gb120)); have n3_ := aS ((by rw [hg]; exact (q0k (by repeat (first | (with_reducible first | exact HB.out | apply bA | apply bN | apply bD) | exact HB.out))) : w.heap.size ≤ gb120)); clear HB; have HB := n0_; have BK120 := n1_; have GW120 := n2_; have GE120 := n3_; clear n0_ n1_ n2_ n3_; clear hb hbox hg))
 (try simp only [Act.put, s1, s2, s3])
 go_cut [] (fun wc => ∃ (kq : Nat), Aside0 (q1h.j1 kq a0_0 a0_1 l0_2 a0_3 a0_4 l0_5 = some r) ∧ Aside0 (kq ≤ k) ∧ Aside0 (wc.heap[gb120]? = some (.cells #[.int .i64 a0_0, .string a0_1, (.slice A0_2 l0_2.length c0_2), .string a0_3, .int .i64 a0_4, (.slice A0_5 l0_5.length c0_5)] 43 (0, 0))) ∧ Aside0 (Below w.heap.size w wc))
 case first =>
  have H := HC2.out
  clear HC2
  have HC4 := aS H
  clear H
  go_upto_region 1 with (fail)
  go_cut [4] (fun v4 wc => ∃ (kq : Nat) (x4_3 : Bool), v4 = .bool x4_3 ∧ Aside0 (q1h.j0 kq x4_3 a0_0 a0_1 l0_2 a0_3 a0_4 l0_5 = some r) ∧ Aside0 (kq ≤ k) ∧ Aside0 (wc.heap[gb120]? = some (.cells #[.int .i64 a0_0, .string a0_1, (.slice A0_2 l0_2.length c0_2), .string a0_3, .int .i64 a0_4, (.slice A0_5 l0_5.length c0_5)] 43 (0, 0))) ∧ Aside0 (Below w.heap.size w wc))
  case first =>
   have H := HC4.out
   clear HC4
   by_cases c5 : a0_0 < 1
   ·rw [if_pos c5] at H
    have c5b0 : decide (a0_0 < 1) = true := decide_eq_true c5
    clear c5
    (first | rw [c5b0] | (simp only [q1e, q1i]; rw [c5b0]) | skip)
    have H' := aS H
    clear H
    have hcz6_0 : w3.cell? ⟨gb120, 0, none⟩ = some (.int .i64 a0_0) := (q02 BK120.out 0).trans rfl
    have hcz6_1 : w3.cell? ⟨gb120, 1, none⟩ = some (.string a0_1) := (q02 BK120.out 1).trans rfl
    have hcz6_2 : w3.cell? ⟨gb120, 2, none⟩ = some (.slice A0_2 l0_2.length c0_2) := (q02 BK120.out 2).trans rfl
    have hcz6_3 : w3.cell? ⟨gb120, 3, none⟩ = some (.string a0_3) := (q02 BK120.out 3).trans rfl
    have hcz6_4 : w3.cell? ⟨gb120, 4, none⟩ = some (.int .i64 a0_4) := (q02 BK120.out 4).trans rfl
    have hcz6_5 : w3.cell? ⟨gb120, 5, none⟩ = some (.slice A0_5 l0_5.length c0_5) := (q02 BK120.out 5).trans rfl
    have hfz6_0 := q01 BK120.out 0
    have hfz6_1 := q01 BK120.out 1
    have hfz6_2 := q01 BK120.out 2
    have hfz6_3 := q01 BK120.out 3
    have hfz6_4 := q01 BK120.out 4
    have hfz6_5 := q01 BK120.out 5
    go_wp2
    go_meet
    case rel => exact ⟨_, (true), (by first | rfl | (simp; done) | simp [*]), H', ⟨by first | omega | exact Nat.le_refl _⟩, ⟨by (with_reducible repeat (first | refine kN ?_ _ | refine kD ?_ | refine kA ?_ _)); exact BK120.out⟩, ⟨by repeat (first | (with_reducible first | exact HB.out | apply bA | apply bN | apply bD | refine bS ?_ GE120.out) | exact HB.out)⟩⟩
   ·rw [if_neg c5] at H
    have c5b0 : decide (a0_0 < 1) = false := decide_eq_false c5
    clear c5
    (first | rw [c5b0] | (simp only [q1e, q1i]; rw [c5b0]) | skip)
    by_cases c7 : a0_0 > 5
    ·rw [if_pos c7] at H
     have c7b0 : decide (5 < a0_0) = true := decide_eq_true c7
     clear c7
     have H' := aS H
     clear H
     have hcz8_0 : w3.cell? ⟨gb120, 0, none⟩ = some (.int .i64 a0_0) := (q02 BK120.out 0).trans rfl
     have hcz8_1 : w3.cell? ⟨gb120, 1, none⟩ = some (.string a0_1) := (q02 BK120.out 1).trans rfl
     have hcz8_2 : w3.cell? ⟨gb120, 2, none⟩ = some (.slice A0_2 l0_2.length c0_2) := (q02 BK120.out 2).trans rfl
     have hcz8_3 : w3.cell? ⟨gb120, 3, none⟩ = some (.string a0_3) := (q02 BK120.out 3).trans rfl
     have hcz8_4 : w3.cell? ⟨gb120, 4, none⟩ = some (.int .i64 a0_4) := (q02 BK120.out 4).trans rfl
     have hcz8_5 : w3.cell? ⟨gb120, 5, none⟩ = some (.slice A0_5 l0_5.length c0_5) := (q02 BK120.out 5).trans rfl
     have hfz8_0 := q01 BK120.out 0
     have hfz8_1 := q01 BK120.out 1
     have hfz8_2 := q01 BK120.out 2
     have hfz8_3 := q01 BK120.out 3
     have hfz8_4 := q01 BK120.out 4
     have hfz8_5 := q01 BK120.out 5
     go_wp2
     go_meet
     case rel => exact ⟨_, (true), (by first | rfl | (simp; done) | simp [*]), H', ⟨by first | omega | exact Nat.le_refl _⟩, ⟨by (with_reducible repeat (first | refine kN ?_ _ | refine kD ?_ | refine kA ?_ _)); exact BK120.out⟩, ⟨by repeat (first | (with_reducible first | exact HB.out | apply bA | apply bN | apply bD | refine bS ?_ GE120.out) | exact HB.out)⟩⟩
    ·rw [if_neg c7] at H
     have c7b0 : decide (5 < a0_0) = false := decide_eq_false c7
     clear c7
     replace H := Option.bind_eq_some_iff.mp H
     obtain ⟨t121, A90, H⟩ := H
     replace H : (q1h.j0 k (!t121) a0_0 a0_1 l0_2 a0_3 a0_4 l0_5) = some r := H
     have A9 := aS A90
     clear A90
     have H' := aS H
     clear H
     have hcz10_0 : w3.cell? ⟨gb120, 0, none⟩ = some (.int .i64 a0_0) := (q02 BK120.out 0).trans rfl
     have hcz10_1 : w3.cell? ⟨gb120, 1, none⟩ = some (.string a0_1) := (q02 BK120.out 1).trans rfl
     have hcz10_2 : w3.cell? ⟨gb120, 2, none⟩ = some (.slice A0_2 l0_2.length c0_2) := (q02 BK120.out 2).trans rfl
     have hcz10_3 : w3.cell? ⟨gb120, 3, none⟩ = some (.string a0_3) := (q02 BK120.out 3).trans rfl
     have hcz10_4 : w3.cell? ⟨gb120, 4, none⟩ = some (.int .i64 a0_4) := (q02 BK120.out 4).trans rfl
     have hcz10_5 : w3.cell? ⟨gb120, 5, none⟩ = some (.slice A0_5 l0_5.length c0_5) := (q02 BK120.out 5).trans rfl
     have hfz10_0 := q01 BK120.out 0
     have hfz10_1 := q01 BK120.out 1
     have hfz10_2 := q01 BK120.out 2
     have hfz10_3 := q01 BK120.out 3
     have hfz10_4 := q01 BK120.out 4
     have hfz10_5 := q01 BK120.out 5
     go_wp2_with (first | (go_at_call 135; (with_reducible refine (q2y.calls a0_0 a0_1 _ _ l0_2 a0_3 a0_4 _ _ l0_5 t121 _ ?side1 ?side2 ?side3 ?side4 A9.out).mono ?_); (case side1 => repeat (first | exact (Kd.C_below HR0_2.out HB.out) | (with_reducible refine cA ?_ _) | (with_reducible refine cN ?_ _) | (with_reducible refine cD ?_))); (case side2 => exact HC0_2.out); (case side3 => repeat (first | exact (Kd.C_below HR0_5.out HB.out) | (with_reducible refine cA ?_ _) | (with_reducible refine cN ?_ _) | (with_reducible refine cD ?_))); (case side4 => exact HC0_5.out); rintro e w11 ⟨rfl, hb⟩; have n0_ := aS (q16 (g := gb120) (o := .cells #[.int .i64 a0_0, .string a0_1, .slice A0_2 l0_2.length c0_2, .string a0_3, .int .i64 a0_4, .slice A0_5 l0_5.length c0_5] 43 (0, 0)) (by (with_reducible repeat (first | refine kN ?_ _ | refine kD ?_ | refine kA ?_ _)); exact BK120.out) hb); have n1_ := aS (q09 (by repeat (first | (with_reducible first | exact HB.out | apply bA | apply bN | apply bD | refine bS ?_ GE120.out) | exact HB.out)) hb); clear BK120; clear HB; have BK120 := n0_; have HB := n1_; clear n0_ n1_; (try clear hb); (try clear hb2); (try clear hk); (try clear hi)))
     go_meet
     case rel => exact ⟨_, (!t121), (by first | rfl | (simp; done) | simp [*]), H', ⟨by first | omega | exact Nat.le_refl _⟩, ⟨by (with_reducible repeat (first | refine kN ?_ _ | refine kD ?_ | refine kA ?_ _)); exact BK120.out⟩, ⟨by repeat (first | (with_reducible first | exact HB.out | apply bA | apply bN | apply bD | refine bS ?_ GE120.out) | exact HB.out)⟩⟩
  case rest =>
   clear HC4
   try clear c1
   try clear p2
   try clear c5
   try clear c5b0
   try clear c7
   try clear c7b0
   try clear c10
   try clear hcz10_0
   try clear hcz10_1
   try clear hcz10_2
   try clear hcz10_3
   try clear hcz10_4
   try clear hcz10_5
   try clear hcz6_0
   try clear hcz6_1
   try clear hcz6_2
   try clear hcz6_3
   try clear hcz6_4
   try clear hcz6_5
   try clear hcz8_0
   try clear hcz8_1
   try clear hcz8_2
   try clear hcz8_3
   try clear hcz8_4
   try clear hcz8_5
   try clear hfz10_0
   try clear hfz10_1
   try clear hfz10_2
   try clear hfz10_3
   try clear hfz10_4
   try clear hfz10_5
   try clear hfz6_0
   try clear hfz6_1
   try clear hfz6_2
   try clear hfz6_3
   try clear hfz6_4
   try clear hfz6_5
   try clear hfz8_0
   try clear hfz8_1
   try clear hfz8_2
   try clear hfz8_3
   try clear hfz8_4
   try clear hfz8_5
   obtain ⟨kq, x4_3, rfl, HA, HJ3, BK120, HB⟩ := hcut
   cases kq with
   | zero => exact absurd HA.out (by simp [q1h.j0])
   | succ kj3 =>
    have H := HA.out
    clear HA
    simp only [q1h.j0] at H
    by_cases c12 : x4_3 = true
    ·subst c12
     have H1 : (some 7) = some r := by rw [if_pos rfl] at H; exact H
     clear H
     have H := H1
     clear H1
     obtain rfl := Option.some.inj H
     go_wp2
     go_ret
     exact ⟨by first | rfl | (simp [q0b, q0a] <;> rfl) | (simp [*, q0b, q0a] <;> rfl), by repeat (first | (with_reducible first | exact HB.out | apply bA | apply bN | apply bD | refine bS ?_ GE120.out) | exact HB.out)⟩
    ·replace c12 := Bool.eq_false_iff.mpr c12
     subst c12
     have H1 : (if a0_0 = 2 then ((dom_Name.f a0_1).bind fun t122 => (if t122 = true then (q1h.j1 kj3 a0_0 a0_1 l0_2 a0_3 a0_4 l0_5) else (some 3))) else (q1h.j1 kj3 a0_0 a0_1 l0_2 a0_3 a0_4 l0_5)) = some r := by rw [if_neg (show ¬ (false = true) by decide)] at H; exact H
     clear H
     have H := H1
     clear H1
     by_cases c13 : a0_0 = 2
     ·rw [if_pos c13] at H
      have c13b0 : (a0_0 == 2) = true := beq_iff_eq.mpr c13
      have c13b1 : (a0_0 != 2) = false := bne_eq_false_iff_eq.mpr c13
      clear c13
      replace H := Option.bind_eq_some_iff.mp H
      obtain ⟨t122, A140, H⟩ := H
      replace H : (if t122 = true then (q1h.j1 kj3 a0_0 a0_1 l0_2 a0_3 a0_4 l0_5) else (some 3)) = some r := H
      have A14 := aS A140
      clear A140
      by_cases c15 : t122 = true
      ·subst c15
       have H1 : (q1h.j1 kj3 a0_0 a0_1 l0_2 a0_3 a0_4 l0_5) = some r := by rw [if_pos rfl] at H; exact H
       clear H
       have H := H1
       clear H1
       have H' := aS H
       clear H
       have hcz16_0 : wc.cell? ⟨gb120, 0, none⟩ = some (.int .i64 a0_0) := (q02 BK120.out 0).trans rfl
       have hcz16_1 : wc.cell? ⟨gb120, 1, none⟩ = some (.string a0_1) := (q02 BK120.out 1).trans rfl
       have hcz16_2 : wc.cell? ⟨gb120, 2, none⟩ = some (.slice A0_2 l0_2.length c0_2) := (q02 BK120.out 2).trans rfl
       have hcz16_3 : wc.cell? ⟨gb120, 3, none⟩ = some (.string a0_3) := (q02 BK120.out 3).trans rfl
       have hcz16_4 : wc.cell? ⟨gb120, 4, none⟩ = some (.int .i64 a0_4) := (q02 BK120.out 4).trans rfl
       have hcz16_5 : wc.cell? ⟨gb120, 5, none⟩ = some (.slice A0_5 l0_5.length c0_5) := (q02 BK120.out 5).trans rfl
       have hfz16_0 := q01 BK120.out 0
       have hfz16_1 := q01 BK120.out 1
       have hfz16_2 := q01 BK120.out 2
       have hfz16_3 := q01 BK120.out 3
       have hfz16_4 := q01 BK120.out 4
       have hfz16_5 := q01 BK120.out 5
       go_wp2_with (first | (go_at_call 136; (with_reducible refine (dom_Name.calls a0_1 true _ A14.out).mono ?_); rintro e w17 ⟨rfl, hb⟩; have n0_ := aS (q16 (g := gb120) (o := .cells #[.int .i64 a0_0, .string a0_1, .slice A0_2 l0_2.length c0_2, .string a0_3, .int .i64 a0_4, .slice A0_5 l0_5.length c0_5] 43 (0, 0)) (by (with_reducible repeat (first | refine kN ?_ _ | refine kD ?_ | refine kA ?_ _)); exact BK120.out) hb); have n1_ := aS (q09 (by repeat (first | (with_reducible first | exact HB.out | apply bA | apply bN | apply bD | refine bS ?_ GE120.out) | exact HB.out)) hb); clear BK120; clear HB; have BK120 := n0_; have HB := n1_; clear n0_ n1_; (try clear hb); (try clear hb2); (try clear hk); (try clear hi)))
       go_meet
       case rel => exact ⟨_, H', ⟨by have := HJ3.out; first | omega | exact Nat.le_refl _⟩, ⟨by (with_reducible repeat (first | refine kN ?_ _ | refine kD ?_ | refine kA ?_ _)); exact BK120.out⟩, ⟨by repeat (first | (with_reducible first | exact HB.out | apply bA | apply bN | apply bD | refine bS ?_ GE120.out) | exact HB.out)⟩⟩
      ·replace c15 := Bool.eq_false_iff.mpr c15
       subst c15
       have H1 : (some 3) = some r := by rw [if_neg (show ¬ (false = true) by decide)] at H; exact H
       clear H
       have H := H1
       clear H1
       obtain rfl := Option.some.inj H
       have hcz18_0 : wc.cell? ⟨gb120, 0, none⟩ = some (.int .i64 a0_0) := (q02 BK120.out 0).trans rfl
       have hcz18_1 : wc.cell? ⟨gb120, 1, none⟩ = some (.string a0_1) := (q02 BK120.out 1).trans rfl
       have hcz18_2 : wc.cell? ⟨gb120, 2, none⟩ = some (.slice A0_2 l0_2.length c0_2) := (q02 BK120.out 2).trans rfl
       have hcz18_3 : wc.cell? ⟨gb120, 3, none⟩ = some (.string a0_3) := (q02 BK120.out 3).trans rfl
       have hcz18_4 : wc.cell? ⟨gb120, 4, none⟩ = some (.int .i64 a0_4) := (q02 BK120.out 4).trans rfl
       have hcz18_5 : wc.cell? ⟨gb120, 5, none⟩ = some (.slice A0_5 l0_5.length c0_5) := (q02 BK120.out 5).trans rfl
       have hfz18_0 := q01 BK120.out 0
       have hfz18_1 := q01 BK120.out 1
       have hfz18_2 := q01 BK120.out 2
       have hfz18_3 := q01 BK120.out 3
       have hfz18_4 := q01 BK120.out 4
       have hfz18_5 := q01 BK120.out 5
       go_wp2_with (first | (go_at_call 136; (with_reducible refine (dom_Name.calls a0_1 false _ A14.out).mono ?_); rintro e w19 ⟨rfl, hb⟩; have n0_ := aS (q16 (g := gb120) (o := .cells #[.int .i64 a0_0, .string a0_1, .slice A0_2 l0_2.length c0_2, .string a0_3, .int .i64 a0_4, .slice A0_5 l0_5.length c0_5] 43 (0, 0)) (by (with_reducible repeat (first | refine kN ?_ _ | refine kD ?_ | refine kA ?_ _)); exact BK120.out) hb); have n1_ := aS (q09 (by repeat (first | (with_reducible first | exact HB.out | apply bA | apply bN | apply bD | refine bS ?_ GE120.out) | exact HB.out)) hb); clear BK120; clear HB; have BK120 := n0_; have HB := n1_; clear n0_ n1_; (try clear hb); (try clear hb2); (try clear hk); (try clear hi)))
       go_ret
       exact ⟨by first | rfl | (simp [q0b, q0a] <;> rfl) | (simp [*, q0b, q0a] <;> rfl), by repeat (first | (with_reducible first | exact HB.out | apply bA | apply bN | apply bD | refine bS ?_ GE120.out) | exact HB.out)⟩
     ·rw [if_neg c13] at H
      have c13b0 : (a0_0 == 2) = false := beq_eq_false_iff_ne.mpr c13
      have c13b1 : (a0_0 != 2) = true := bne_iff_ne.mpr c13
      have H' := aS H
      clear H
      have hcz20_0 : wc.cell? ⟨gb120, 0, none⟩ = some (.int .i64 a0_0) := (q02 BK120.out 0).trans rfl
      have hcz20_1 : wc.cell? ⟨gb120, 1, none⟩ = some (.string a0_1) := (q02 BK120.out 1).trans rfl
      have hcz20_2 : wc.cell? ⟨gb120, 2, none⟩ = some (.slice A0_2 l0_2.length c0_2) := (q02 BK120.out 2).trans rfl
      have hcz20_3 : wc.cell? ⟨gb120, 3, none⟩ = some (.string a0_3) := (q02 BK120.out 3).trans rfl
      have hcz20_4 : wc.cell? ⟨gb120, 4, none⟩ = some (.int .i64 a0_4) := (q02 BK120.out 4).trans rfl
      have hcz20_5 : wc.cell? ⟨gb120, 5, none⟩ = some (.slice A0_5 l0_5.length c0_5) := (q02 BK120.out 5).trans rfl
      have hfz20_0 := q01 BK120.out 0
      have hfz20_1 := q01 BK120.out 1
      have hfz20_2 := q01 BK120.out 2
      have hfz20_3 := q01 BK120.out 3
      have hfz20_4 := q01 BK120.out 4
      have hfz20_5 := q01 BK120.out 5
      go_wp2
      go_meet
      case rel => exact ⟨_, H', ⟨by have := HJ3.out; first | omega | exact Nat.le_refl _⟩, ⟨by (with_reducible repeat (first | refine kN ?_ _ | refine kD ?_ | refine kA ?_ _)); exact BK120.out⟩, ⟨by repeat (first | (with_reducible first | exact HB.out | apply bA | apply bN | apply bD | refine bS ?_ GE120.out) | exact HB.out)⟩⟩
 case rest =>
  clear HC2
  try clear c1
  try clear p2
  try clear c5
  try clear c5b0
  try clear c7
  try clear c7b0
  try clear c10
  try clear c12
  try clear c13
  try clear c13b0
  try clear c13b1
  try clear c15
  try clear hcz10_0
  try clear hcz10_1
  try clear hcz10_2
  try clear hcz10_3
  try clear hcz10_4
  try clear hcz10_5
  try clear hcz16_0
  try clear hcz16_1
  try clear hcz16_2
  try clear hcz16_3
  try clear hcz16_4
  try clear hcz16_5
  try clear hcz18_0
  try clear hcz18_1
  try clear hcz18_2
  try clear hcz18_3
  try clear hcz18_4
  try clear hcz18_5
  try clear hcz20_0
  try clear hcz20_1
  try clear hcz20_2
  try clear hcz20_3
  try clear hcz20_4
  try clear hcz20_5
  try clear hcz6_0
  try clear hcz6_1
  try clear hcz6_2
  try clear hcz6_3
  try clear hcz6_4
  try clear hcz6_5
  try clear hcz8_0
  try clear hcz8_1
  try clear hcz8_2
  try clear hcz8_3
  try clear hcz8_4
  try clear hcz8_5
  try clear hfz10_0
  try clear hfz10_1
  try clear hfz10_2
  try clear hfz10_3
  try clear hfz10_4
  try clear hfz10_5
  try clear hfz16_0
  try clear hfz16_1
  try clear hfz16_2
  try clear hfz16_3
  try clear hfz16_4
  try clear hfz16_5
  try clear hfz18_0
  try clear hfz18_1
  try clear hfz18_2
  try clear hfz18_3
  try clear hfz18_4
  try clear hfz18_5
  try clear hfz20_0
  try clear hfz20_1
  try clear hfz20_2
  try clear hfz20_3
  try clear hfz20_4
  try clear hfz20_5
  try clear hfz6_0
  try clear hfz6_1
  try clear hfz6_2
  try clear hfz6_3
  try clear hfz6_4
  try clear hfz6_5
  try clear hfz8_0
  try clear hfz8_1
  try clear hfz8_2
  try clear hfz8_3
  try clear hfz8_4
  try clear hfz8_5
  try clear p2
  obtain ⟨kq, HA, HJ1, BK120, HB⟩ := hcut
  cases kq with
  | zero => exact absurd HA.out (by simp [q1h.j1])
  | succ kj1 =>
   have H := HA.out
   clear HA
   simp only [q1h.j1] at H
   replace H := Option.bind_eq_some_iff.mp H
   obtain ⟨t123, A210, H⟩ := H
   replace H : (if t123 = 0 then (if (a0_3.size : Int) > 400 then (some 2) else (if (a0_1.size : Int) > 400 then (some 2) else (some 0))) else (some t123)) = some r := H
   have A21 := aS A210
   clear A210
   by_cases c22 : t123 = 0
   ·rw [if_pos c22] at H
    have c22b0 : (t123 == 0) = true := beq_iff_eq.mpr c22
    have c22b1 : (t123 != 0) = false := bne_eq_false_iff_eq.mpr c22
    clear c22
    by_cases c23 : (a0_3.size : Int) > 400
    ·rw [if_pos c23] at H
     have c23b0 : decide (400 < (a0_3.size : Int)) = true := decide_eq_true c23
     have c23b1 : decide (400 < a0_3.size) = true := decide_eq_true (by omega)
     clear c23
     obtain rfl := Option.some.inj H
     have hcz24_0 : wc.cell? ⟨gb120, 0, none⟩ = some (.int .i64 a0_0) := (q02 BK120.out 0).trans rfl
     have hcz24_1 : wc.cell? ⟨gb120, 1, none⟩ = some (.string a0_1) := (q02 BK120.out 1).trans rfl
     have hcz24_2 : wc.cell? ⟨gb120, 2, none⟩ = some (.slice A0_2 l0_2.length c0_2) := (q02 BK120.out 2).trans rfl
     have hcz24_3 : wc.cell? ⟨gb120, 3, none⟩ = some (.string a0_3) := (q02 BK120.out 3).trans rfl
     have hcz24_4 : wc.cell? ⟨gb120, 4, none⟩ = some (.int .i64 a0_4) := (q02 BK120.out 4).trans rfl
     have hcz24_5 : wc.cell? ⟨gb120, 5, none⟩ = some (.slice A0_5 l0_5.length c0_5) := (q02 BK120.out 5).trans rfl
     have hfz24_0 := q01 BK120.out 0
     have hfz24_1 := q01 BK120.out 1
     have hfz24_2 := q01 BK120.out 2
     have hfz24_3 := q01 BK120.out 3
     have hfz24_4 := q01 BK120.out 4
     have hfz24_5 := q01 BK120.out 5
     go_wp2_with (first | ((with_reducible refine q0l (f := 137) rfl ?_); refine q1d (some 30) rfl rfl Tryd.func137 (by kernel_rfl) rfl #[.slice A0_2 l0_2.length c0_2] rfl (by (try simp only [List.map_toArray, List.map_cons, List.map_nil]); first | done | rfl | (simp only [List.length_drop, List.length_take]; rfl)) ?_; (with_reducible refine (q19.calls kj1 _ _ l0_2 t123 _ ?side1 ?side2 A21.out).mono ?_); (case side1 => repeat (first | exact (Kd.C_below HR0_2.out HB.out) | (with_reducible refine cA ?_ _) | (with_reducible refine cN ?_ _) | (with_reducible refine cD ?_))); (case side2 => exact HC0_2.out); rintro e w25 ⟨rfl, hb⟩; refine ⟨_, rfl, ?_⟩; have n0_ := aS (q16 (g := gb120) (o := .cells #[.int .i64 a0_0, .string a0_1, .slice A0_2 l0_2.length c0_2, .string a0_3, .int .i64 a0_4, .slice A0_5 l0_5.length c0_5] 43 (0, 0)) (by (with_reducible repeat (first | refine kN ?_ _ | refine kD ?_ | refine kA ?_ _)); exact BK120.out) hb); have n1_ := aS (q09 (by repeat (first | (with_reducible first | exact HB.out | apply bA | apply bN | apply bD | refine bS ?_ GE120.out) | exact HB.out)) hb); clear BK120; clear HB; have BK120 := n0_; have HB := n1_; clear n0_ n1_; (try clear hb); (try clear hb2); (try clear hk); (try clear hi); have hcz26_0 : w25.cell? ⟨gb120, 0, none⟩ = some (.int .i64 a0_0) := (q02 BK120.out 0).trans rfl; have hcz26_1 : w25.cell? ⟨gb120, 1, none⟩ = some (.string a0_1) := (q02 BK120.out 1).trans rfl; have hcz26_2 : w25.cell? ⟨gb120, 2, none⟩ = some (.slice A0_2 l0_2.length c0_2) := (q02 BK120.out 2).trans rfl; have hcz26_3 : w25.cell? ⟨gb120, 3, none⟩ = some (.string a0_3) := (q02 BK120.out 3).trans rfl; have hcz26_4 : w25.cell? ⟨gb120, 4, none⟩ = some (.int .i64 a0_4) := (q02 BK120.out 4).trans rfl; have hcz26_5 : w25.cell? ⟨gb120, 5, none⟩ = some (.slice A0_5 l0_5.length c0_5) := (q02 BK120.out 5).trans rfl; have hfz26_0 := q01 BK120.out 0; have hfz26_1 := q01 BK120.out 1; have hfz26_2 := q01 BK120.out 2; have hfz26_3 := q01 BK120.out 3; have hfz26_4 := q01 BK120.out 4; have hfz26_5 := q01 BK120.out 5))
     go_ret
     exact ⟨by first | rfl | (simp [q0b, q0a] <;> rfl) | (simp [*, q0b, q0a] <;> rfl), by repeat (first | (with_reducible first | exact HB.out | apply bA | apply bN | apply bD | refine bS ?_ GE120.out) | exact HB.out)⟩
    ·rw [if_neg c23] at H
     have c23b0 : decide (400 < (a0_3.size : Int)) = false := decide_eq_false c23
     have c23b1 : decide (400 < a0_3.size) = false := decide_eq_false (by omega)
     clear c23
     by_cases c27 : (a0_1.size : Int) > 400
     ·rw [if_pos c27] at H
      have c27b0 : decide (400 < (a0_1.size : Int)) = true := decide_eq_true c27
      have c27b1 : decide (400 < a0_1.size) = true := decide_eq_true (by omega)
      clear c27
      obtain rfl := Option.some.inj H
      have hcz28_0 : wc.cell? ⟨gb120, 0, none⟩ = some (.int .i64 a0_0) := (q02 BK120.out 0).trans rfl
      have hcz28_1 : wc.cell? ⟨gb120, 1, none⟩ = some (.string a0_1) := (q02 BK120.out 1).trans rfl
      have hcz28_2 : wc.cell? ⟨gb120, 2, none⟩ = some (.slice A0_2 l0_2.length c0_2) := (q02 BK120.out 2).trans rfl
      have hcz28_3 : wc.cell? ⟨gb120, 3, none⟩ = some (.string a0_3) := (q02 BK120.out 3).trans rfl
      have hcz28_4 : wc.cell? ⟨gb120, 4, none⟩ = some (.int .i64 a0_4) := (q02 BK120.out 4).trans rfl
      have hcz28_5 : wc.cell? ⟨gb120, 5, none⟩ = some (.slice A0_5 l0_5.length c0_5) := (q02 BK120.out 5).trans rfl
      have hfz28_0 := q01 BK120.out 0
      have hfz28_1 := q01 BK120.out 1
      have hfz28_2 := q01 BK120.out 2
      have hfz28_3 := q01 BK120.out 3
      have hfz28_4 := q01 BK120.out 4
      have hfz28_5 := q01 BK120.out 5
      go_wp2_with (first | ((with_reducible refine q0l (f := 137) rfl ?_); refine q1d (some 30) rfl rfl Tryd.func137 (by kernel_rfl) rfl #[.slice A0_2 l0_2.length c0_2] rfl (by (try simp only [List.map_toArray, List.map_cons, List.map_nil]); first | done | rfl | (simp only [List.length_drop, List.length_take]; rfl)) ?_; (with_reducible refine (q19.calls kj1 _ _ l0_2 t123 _ ?side1 ?side2 A21.out).mono ?_); (case side1 => repeat (first | exact (Kd.C_below HR0_2.out HB.out) | (with_reducible refine cA ?_ _) | (with_reducible refine cN ?_ _) | (with_reducible refine cD ?_))); (case side2 => exact HC0_2.out); rintro e w29 ⟨rfl, hb⟩; refine ⟨_, rfl, ?_⟩; have n0_ := aS (q16 (g := gb120) (o := .cells #[.int .i64 a0_0, .string a0_1, .slice A0_2 l0_2.length c0_2, .string a0_3, .int .i64 a0_4, .slice A0_5 l0_5.length c0_5] 43 (0, 0)) (by (with_reducible repeat (first | refine kN ?_ _ | refine kD ?_ | refine kA ?_ _)); exact BK120.out) hb); have n1_ := aS (q09 (by repeat (first | (with_reducible first | exact HB.out | apply bA | apply bN | apply bD | refine bS ?_ GE120.out) | exact HB.out)) hb); clear BK120; clear HB; have BK120 := n0_; have HB := n1_; clear n0_ n1_; (try clear hb); (try clear hb2); (try clear hk); (try clear hi); have hcz30_0 : w29.cell? ⟨gb120, 0, none⟩ = some (.int .i64 a0_0) := (q02 BK120.out 0).trans rfl; have hcz30_1 : w29.cell? ⟨gb120, 1, none⟩ = some (.string a0_1) := (q02 BK120.out 1).trans rfl; have hcz30_2 : w29.cell? ⟨gb120, 2, none⟩ = some (.slice A0_2 l0_2.length c0_2) := (q02 BK120.out 2).trans rfl; have hcz30_3 : w29.cell? ⟨gb120, 3, none⟩ = some (.string a0_3) := (q02 BK120.out 3).trans rfl; have hcz30_4 : w29.cell? ⟨gb120, 4, none⟩ = some (.int .i64 a0_4) := (q02 BK120.out 4).trans rfl; have hcz30_5 : w29.cell? ⟨gb120, 5, none⟩ = some (.slice A0_5 l0_5.length c0_5) := (q02 BK120.out 5).trans rfl; have hfz30_0 := q01 BK120.out 0; have hfz30_1 := q01 BK120.out 1; have hfz30_2 := q01 BK120.out 2; have hfz30_3 := q01 BK120.out 3; have hfz30_4 := q01 BK120.out 4; have hfz30_5 := q01 BK120.out 5))
      go_ret
      exact ⟨by first | rfl | (simp [q0b, q0a] <;> rfl) | (simp [*, q0b, q0a] <;> rfl), by repeat (first | (with_reducible first | exact HB.out | apply bA | apply bN | apply bD | refine bS ?_ GE120.out) | exact HB.out)⟩
     ·rw [if_neg c27] at H
      have c27b0 : decide (400 < (a0_1.size : Int)) = false := decide_eq_false c27
      have c27b1 : decide (400 < a0_1.size) = false := decide_eq_false (by omega)
      clear c27
      obtain rfl := Option.some.inj H
      have hcz31_0 : wc.cell? ⟨gb120, 0, none⟩ = some (.int .i64 a0_0) := (q02 BK120.out 0).trans rfl
      have hcz31_1 : wc.cell? ⟨gb120, 1, none⟩ = some (.string a0_1) := (q02 BK120.out 1).trans rfl
      have hcz31_2 : wc.cell? ⟨gb120, 2, none⟩ = some (.slice A0_2 l0_2.length c0_2) := (q02 BK120.out 2).trans rfl
      have hcz31_3 : wc.cell? ⟨gb120, 3, none⟩ = some (.string a0_3) := (q02 BK120.out 3).trans rfl
      have hcz31_4 : wc.cell? ⟨gb120, 4, none⟩ = some (.int .i64 a0_4) := (q02 BK120.out 4).trans rfl
      have hcz31_5 : wc.cell? ⟨gb120, 5, none⟩ = some (.slice A0_5 l0_5.length c0_5) := (q02 BK120.out 5).trans rfl
      have hfz31_0 := q01 BK120.out 0
      have hfz31_1 := q01 BK120.out 1
      have hfz31_2 := q01 BK120.out 2
      have hfz31_3 := q01 BK120.out 3
      have hfz31_4 := q01 BK120.out 4
      have hfz31_5 := q01 BK120.out 5
      go_wp2_with (first | ((with_reducible refine q0l (f := 137) rfl ?_); refine q1d (some 30) rfl rfl Tryd.func137 (by kernel_rfl) rfl #[.slice A0_2 l0_2.length c0_2] rfl (by (try simp only [List.map_toArray, List.map_cons, List.map_nil]); first | done | rfl | (simp only [List.length_drop, List.length_take]; rfl)) ?_; (with_reducible refine (q19.calls kj1 _ _ l0_2 t123 _ ?side1 ?side2 A21.out).mono ?_); (case side1 => repeat (first | exact (Kd.C_below HR0_2.out HB.out) | (with_reducible refine cA ?_ _) | (with_reducible refine cN ?_ _) | (with_reducible refine cD ?_))); (case side2 => exact HC0_2.out); rintro e w32 ⟨rfl, hb⟩; refine ⟨_, rfl, ?_⟩; have n0_ := aS (q16 (g := gb120) (o := .cells #[.int .i64 a0_0, .string a0_1, .slice A0_2 l0_2.length c0_2, .string a0_3, .int .i64 a0_4, .slice A0_5 l0_5.length c0_5] 43 (0, 0)) (by (with_reducible repeat (first | refine kN ?_ _ | refine kD ?_ | refine kA ?_ _)); exact BK120.out) hb); have n1_ := aS (q09 (by repeat (first | (with_reducible first | exact HB.out | apply bA | apply bN | apply bD | refine bS ?_ GE120.out) | exact HB.out)) hb); clear BK120; clear HB; have BK120 := n0_; have HB := n1_; clear n0_ n1_; (try clear hb); (try clear hb2); (try clear hk); (try clear hi); have hcz33_0 : w32.cell? ⟨gb120, 0, none⟩ = some (.int .i64 a0_0) := (q02 BK120.out 0).trans rfl; have hcz33_1 : w32.cell? ⟨gb120, 1, none⟩ = some (.string a0_1) := (q02 BK120.out 1).trans rfl; have hcz33_2 : w32.cell? ⟨gb120, 2, none⟩ = some (.slice A0_2 l0_2.length c0_2) := (q02 BK120.out 2).trans rfl; have hcz33_3 : w32.cell? ⟨gb120, 3, none⟩ = some (.string a0_3) := (q02 BK120.out 3).trans rfl; have hcz33_4 : w32.cell? ⟨gb120, 4, none⟩ = some (.int .i64 a0_4) := (q02 BK120.out 4).trans rfl; have hcz33_5 : w32.cell? ⟨gb120, 5, none⟩ = some (.slice A0_5 l0_5.length c0_5) := (q02 BK120.out 5).trans rfl; have hfz33_0 := q01 BK120.out 0; have hfz33_1 := q01 BK120.out 1; have hfz33_2 := q01 BK120.out 2; have hfz33_3 := q01 BK120.out 3; have hfz33_4 := q01 BK120.out 4; have hfz33_5 := q01 BK120.out 5))
      go_ret
      exact ⟨by first | rfl | (simp [q0b, q0a] <;> rfl) | (simp [*, q0b, q0a] <;> rfl), by repeat (first | (with_reducible first | exact HB.out | apply bA | apply bN | apply bD | refine bS ?_ GE120.out) | exact HB.out)⟩
   ·rw [if_neg c22] at H
    have c22b0 : (t123 == 0) = false := beq_eq_false_iff_ne.mpr c22
    have c22b1 : (t123 != 0) = true := bne_iff_ne.mpr c22
    obtain rfl := Option.some.inj H
    have hcz34_0 : wc.cell? ⟨gb120, 0, none⟩ = some (.int .i64 a0_0) := (q02 BK120.out 0).trans rfl
    have hcz34_1 : wc.cell? ⟨gb120, 1, none⟩ = some (.string a0_1) := (q02 BK120.out 1).trans rfl
    have hcz34_2 : wc.cell? ⟨gb120, 2, none⟩ = some (.slice A0_2 l0_2.length c0_2) := (q02 BK120.out 2).trans rfl
    have hcz34_3 : wc.cell? ⟨gb120, 3, none⟩ = some (.string a0_3) := (q02 BK120.out 3).trans rfl
    have hcz34_4 : wc.cell? ⟨gb120, 4, none⟩ = some (.int .i64 a0_4) := (q02 BK120.out 4).trans rfl
    have hcz34_5 : wc.cell? ⟨gb120, 5, none⟩ = some (.slice A0_5 l0_5.length c0_5) := (q02 BK120.out 5).trans rfl
    have hfz34_0 := q01 BK120.out 0
    have hfz34_1 := q01 BK120.out 1
    have hfz34_2 := q01 BK120.out 2
    have hfz34_3 := q01 BK120.out 3
    have hfz34_4 := q01 BK120.out 4
    have hfz34_5 := q01 BK120.out 5
    go_wp2_with (first | ((with_reducible refine q0l (f := 137) rfl ?_); refine q1d (some 30) rfl rfl Tryd.func137 (by kernel_rfl) rfl #[.slice A0_2 l0_2.length c0_2] rfl (by (try simp only [List.map_toArray, List.map_cons, List.map_nil]); first | done | rfl | (simp only [List.length_drop, List.length_take]; rfl)) ?_; (with_reducible refine (q19.calls kj1 _ _ l0_2 t123 _ ?side1 ?side2 A21.out).mono ?_); (case side1 => repeat (first | exact (Kd.C_below HR0_2.out HB.out) | (with_reducible refine cA ?_ _) | (with_reducible refine cN ?_ _) | (with_reducible refine cD ?_))); (case side2 => exact HC0_2.out); rintro e w35 ⟨rfl, hb⟩; refine ⟨_, rfl, ?_⟩; have n0_ := aS (q16 (g := gb120) (o := .cells #[.int .i64 a0_0, .string a0_1, .slice A0_2 l0_2.length c0_2, .string a0_3, .int .i64 a0_4, .slice A0_5 l0_5.length c0_5] 43 (0, 0)) (by (with_reducible repeat (first | refine kN ?_ _ | refine kD ?_ | refine kA ?_ _)); exact BK120.out) hb); have n1_ := aS (q09 (by repeat (first | (with_reducible first | exact HB.out | apply bA | apply bN | apply bD | refine bS ?_ GE120.out) | exact HB.out)) hb); clear BK120; clear HB; have BK120 := n0_; have HB := n1_; clear n0_ n1_; (try clear hb); (try clear hb2); (try clear hk); (try clear hi)))
    go_ret
    exact ⟨by first | rfl | (simp [q0b, q0a] <;> rfl) | (simp [*, q0b, q0a] <;> rfl), by repeat (first | (with_reducible first | exact HB.out | apply bA | apply bN | apply bD | refine bS ?_ GE120.out) | exact HB.out)⟩
end Go.Proofs.YthjnallbbhnndaaDoor.XWk
namespace Go.Proofs.YthjnallbbhnndaaDoor.XWk
open Go.Proofs.YthjnallbbhnndaaDoor.Short Go.RowKit Go.Proofs.YthjnallbbhnndaaDoorW.PrintWords Go.Proofs.YthjnallbbhnndaaDoorW.PrintLast Go.Proofs.YthjnallbbhnndaaDoorW.PrintMore
attribute [local go_sem] q27 q25 q2l q2k q1w q1v q26 q24   -- for this text's walks alone
set_option linter.unusedVariables false
set_option linter.unusedSimpArgs false
mutual
def q0w.l0 : Nat → List Bool → List (S43) → Int → Int → List (S43) → Bool → Option (Int)
 | 0, _, _, _, _, _, _ => none
 | k + 1, x3, x15, x16, x17, x125000, x125001 => if x17 < x16 then (if 0 ≤ x17 then (if x17 < (x15.length : Int) then (q0w.l1 k x3 x17 x15 x16 x17 ((q05 x15 x17).f5) (((q05 x15 x17).f5).length : Int) 0 x125000 x125001) else (none)) else (none)) else (q0w.l2 k x3 x125000 (x125000.length : Int) 0 x125000 x125001)
def q0w.l1 : Nat → List Bool → Int → List (S43) → Int → Int → List Int → Int → Int → List (S43) → Bool → Option (Int)
 | 0, _, _, _, _, _, _, _, _, _, _ => none
 | k + 1, x3, x4, x15, x16, x17, x23, x24, x25, x125000, x125001 => if x25 < x24 then (if 0 ≤ x25 then (if x25 < (x23.length : Int) then (if (rd x23 x25) < 0 then (q0w.j2 k x3 x4 (rd x23 x25) x15 x16 x17 x23 x24 x25 true x125000 x125001) else (if (rd x23 x25) ≥ (x3.length : Int) then (q0w.j2 k x3 x4 (rd x23 x25) x15 x16 x17 x23 x24 x25 true x125000 x125001) else (if 0 ≤ (rd x23 x25) then (if (rd x23 x25) < (x125000.length : Int) then (if ((q05 x125000 (rd x23 x25)).f4) = x4 then (if (rd x23 x25) < (x3.length : Int) then (q0w.j2 k x3 x4 (rd x23 x25) x15 x16 x17 x23 x24 x25 (rdOf false x3 (rd x23 x25)) x125000 x125001) else (none)) else (q0w.j2 k x3 x4 (rd x23 x25) x15 x16 x17 x23 x24 x25 true x125000 x125001)) else (none)) else (none)))) else (none)) else (none)) else (q0w.l0 k x3 x15 x16 (wrap64 (x17 + 1)) x125000 x125001)
def q0w.j2 : Nat → List Bool → Int → Int → List (S43) → Int → Int → List Int → Int → Int → Bool → List (S43) → Bool → Option (Int)
 | 0, _, _, _, _, _, _, _, _, _, _, _, _ => none
 | k + 1, x3, x4, x7, x15, x16, x17, x23, x24, x25, x29, x125000, x125001 => if x29 = true then (some 3) else (if x4 = 0 then (if 0 ≤ x7 then (if x7 < (x125000.length : Int) then (if ((q05 x125000 x7).f0) = 3 then (some 7) else (if x7 < (x3.length : Int) then (q0w.l1 k (x3.set (x7 : Int).toNat true) x4 x15 x16 x17 x23 x24 (wrap64 (x25 + 1)) x125000 x125001) else (none))) else (none)) else (none)) else (if 0 ≤ x7 then (if x7 < (x3.length : Int) then (q0w.l1 k (x3.set (x7 : Int).toNat true) x4 x15 x16 x17 x23 x24 (wrap64 (x25 + 1)) x125000 x125001) else (none)) else (none)))
def q0w.l2 : Nat → List Bool → List (S43) → Int → Int → List (S43) → Bool → Option (Int)
 | 0, _, _, _, _, _, _ => none
 | k + 1, x3, x72, x73, x74, x125000, x125001 => if x74 < x73 then (if 0 ≤ x74 then (if x74 < (x72.length : Int) then (if ((q05 x72 x74).f4) = (-1) then (q0w.l2 k x3 x72 x73 (wrap64 (x74 + 1)) x125000 x125001) else (if x74 < (x3.length : Int) then (if rdOf false x3 x74 = true then (q0w.l2 k x3 x72 x73 (wrap64 (x74 + 1)) x125000 x125001) else (some 3)) else (none))) else (none)) else (none)) else (if 0 < (x125000.length : Int) then (if ((q05 x125000 0).f4) = (-1) then (some 0) else (some 3)) else (none))
end
def q0w.f (k : Nat) (l0_0 : List (S43)) (a0_1 : Bool) : Option (Int) := if 0 ≤ (l0_0.length : Int) then (if ((l0_0.length : Int) : Int).toNat ≤ 281474976710656 then (q0w.l0 k (List.replicate ((l0_0.length : Int) : Int).toNat false) l0_0 (l0_0.length : Int) 0 l0_0 a0_1) else (none)) else (none)
theorem q0w.mono_l : ∀ k, (∀ y0 y1 y2 y3 y4 y5, LeO (q0w.l0 k y0 y1 y2 y3 y4 y5) (q0w.l0 (k + 1) y0 y1 y2 y3 y4 y5)) ∧ (∀ y0 y1 y2 y3 y4 y5 y6 y7 y8 y9, LeO (q0w.l1 k y0 y1 y2 y3 y4 y5 y6 y7 y8 y9) (q0w.l1 (k + 1) y0 y1 y2 y3 y4 y5 y6 y7 y8 y9)) ∧ (∀ y0 y1 y2 y3 y4 y5 y6 y7 y8 y9 y10 y11, LeO (q0w.j2 k y0 y1 y2 y3 y4 y5 y6 y7 y8 y9 y10 y11) (q0w.j2 (k + 1) y0 y1 y2 y3 y4 y5 y6 y7 y8 y9 y10 y11)) ∧ (∀ y0 y1 y2 y3 y4 y5, LeO (q0w.l2 k y0 y1 y2 y3 y4 y5) (q0w.l2 (k + 1) y0 y1 y2 y3 y4 y5))
 | 0 => ⟨fun _ _ _ _ _ _ r h => by simp [q0w.l0] at h, fun _ _ _ _ _ _ _ _ _ _ r h => by simp [q0w.l1] at h, fun _ _ _ _ _ _ _ _ _ _ _ _ r h => by simp [q0w.j2] at h, fun _ _ _ _ _ _ r h => by simp [q0w.l2] at h⟩
 | k + 1 => by
  obtain ⟨ih0, ih1, ih2, ih3⟩ := q0w.mono_l k
  refine ⟨?_, ?_, ?_, ?_⟩
  ·intro y0 y1 y2 y3 y4 y5
   unfold q0w.l0
   repeat' first
   | (with_reducible exact ih0 _ _ _ _ _ _)
   | (with_reducible exact ih1 _ _ _ _ _ _ _ _ _ _)
   | (with_reducible exact ih2 _ _ _ _ _ _ _ _ _ _ _ _)
   | (with_reducible exact ih3 _ _ _ _ _ _)
   | (with_reducible exact LeO.refl _)
   | (with_reducible exact LeO.none _)
   | (with_reducible refine LeO.ite ?_ ?_)
   | (with_reducible refine LeO.bind ?_ (fun _ => ?_))
   | exact ih0 _ _ _ _ _ _
   | exact ih1 _ _ _ _ _ _ _ _ _ _
   | exact ih2 _ _ _ _ _ _ _ _ _ _ _ _
   | exact ih3 _ _ _ _ _ _
   | exact LeO.none _
   | refine LeO.ite ?_ ?_
   | refine LeO.bind ?_ (fun _ => ?_)
  ·intro y0 y1 y2 y3 y4 y5 y6 y7 y8 y9
   unfold q0w.l1
   repeat' first
   | (with_reducible exact ih0 _ _ _ _ _ _)
   | (with_reducible exact ih1 _ _ _ _ _ _ _ _ _ _)
   | (with_reducible exact ih2 _ _ _ _ _ _ _ _ _ _ _ _)
   | (with_reducible exact ih3 _ _ _ _ _ _)
   | (with_reducible exact LeO.refl _)
   | (with_reducible exact LeO.none _)
   | (with_reducible refine LeO.ite ?_ ?_)
   | (with_reducible refine LeO.bind ?_ (fun _ => ?_))
   | exact ih0 _ _ _ _ _ _
   | exact ih1 _ _ _ _ _ _ _ _ _ _
   | exact ih2 _ _ _ _ _ _ _ _ _ _ _ _
   | exact ih3 _ _ _ _ _ _
   | exact LeO.none _
   | refine LeO.ite ?_ ?_
   | refine LeO.bind ?_ (fun _ => ?_)
  ·intro y0 y1 y2 y3 y4 y5 y6 y7 y8 y9 y10 y11
   unfold q0w.j2
   repeat' first
   | (with_reducible exact ih0 _ _ _ _ _ _)
   | (with_reducible exact ih1 _ _ _ _ _ _ _ _ _ _)
   | (with_reducible exact ih2 _ _ _ _ _ _ _ _ _ _ _ _)
   | (with_reducible exact ih3 _ _ _ _ _ _)
   | (with_reducible exact LeO.refl _)
   | (with_reducible exact LeO.none _)
   | (with_reducible refine LeO.ite ?_ ?_)
   | (with_reducible refine LeO.bind ?_ (fun _ => ?_))
   | exact ih0 _ _ _ _ _ _
   | exact ih1 _ _ _ _ _ _ _ _ _ _
   | exact ih2 _ _ _ _ _ _ _ _ _ _ _ _
   | exact ih3 _ _ _ _ _ _
   | exact LeO.none _
   | refine LeO.ite ?_ ?_
   | refine LeO.bind ?_ (fun _ => ?_)
  ·intro y0 y1 y2 y3 y4 y5
   unfold q0w.l2
   repeat' first
   | (with_reducible exact ih0 _ _ _ _ _ _)
   | (with_reducible exact ih1 _ _ _ _ _ _ _ _ _ _)
   | (with_reducible exact ih2 _ _ _ _ _ _ _ _ _ _ _ _)
   | (with_reducible exact ih3 _ _ _ _ _ _)
   | (with_reducible exact LeO.refl _)
   | (with_reducible exact LeO.none _)
   | (with_reducible refine LeO.ite ?_ ?_)
   | (with_reducible refine LeO.bind ?_ (fun _ => ?_))
   | exact ih0 _ _ _ _ _ _
   | exact ih1 _ _ _ _ _ _ _ _ _ _
   | exact ih2 _ _ _ _ _ _ _ _ _ _ _ _
   | exact ih3 _ _ _ _ _ _
   | exact LeO.none _
   | refine LeO.ite ?_ ?_
   | refine LeO.bind ?_ (fun _ => ?_)
theorem q0w.mono : ∀ a0 a1 k, LeO (q0w.f k a0 a1) (q0w.f (k + 1) a0 a1) := by
 intro a0 a1 k
 obtain ⟨ih0, ih1, ih2, ih3⟩ := q0w.mono_l k
 unfold q0w.f
 repeat' first
  | (with_reducible exact ih0 _ _ _ _ _ _)
  | (with_reducible exact ih1 _ _ _ _ _ _ _ _ _ _)
  | (with_reducible exact ih2 _ _ _ _ _ _ _ _ _ _ _ _)
  | (with_reducible exact ih3 _ _ _ _ _ _)
  | (with_reducible exact LeO.refl _)
  | (with_reducible exact LeO.none _)
  | (with_reducible refine LeO.ite ?_ ?_)
  | (with_reducible refine LeO.bind ?_ (fun _ => ?_))
  | exact ih0 _ _ _ _ _ _
  | exact ih1 _ _ _ _ _ _ _ _ _ _
  | exact ih2 _ _ _ _ _ _ _ _ _ _ _ _
  | exact ih3 _ _ _ _ _ _
  | exact LeO.none _
  | refine LeO.ite ?_ ?_
  | refine LeO.bind ?_ (fun _ => ?_)
set_option maxHeartbeats 8000000 in
set_option maxRecDepth 100000 in
theorem q0w.calls (k : Nat) (A0_0 : Option Addr) (c0_0 : Nat) (l0_0 : List (S43)) (a0_1 : Bool) (r : Int) (w : World) (hr0_0 : Kd.C k43 w A0_0 l0_0.length l0_0) (hc0_0 : l0_0.length ≤ c0_0) (h : q0w.f k l0_0 a0_1 = some r) :
 Calls Tryd.prog 101 #[.agg #[.slice A0_0 l0_0.length c0_0, .bool a0_1]] w fun e w' => e = .returned (.int .i64 r) ∧ Below w.heap.size w w' := by
 have hu24 := Tryd.underlying24
 have hu43 := Tryd.underlying43
 have HR0_0 := aS hr0_0
 have HC0_0 := aS hc0_0
 clear hr0_0 hc0_0
 have HB := aS (Below.refl w.heap.size w)
 have H : (if 0 ≤ (l0_0.length : Int) then (if ((l0_0.length : Int) : Int).toNat ≤ 281474976710656 then (q0w.l0 k (List.replicate ((l0_0.length : Int) : Int).toNat false) l0_0 (l0_0.length : Int) 0 l0_0 a0_1) else (none)) else (none)) = some r := h
 clear h
 by_cases c2 : 0 ≤ (l0_0.length : Int)
 ·rw [if_pos c2] at H
  have c2b0 := eq_true c2
  have c2b1 : decide (0 ≤ (l0_0.length : Int)) = true := decide_eq_true c2
  clear c2
  by_cases c3 : ((l0_0.length : Int) : Int).toNat ≤ 281474976710656
  ·rw [if_pos c3] at H
   have c3b0 := eq_true c3
   have c3b1 : decide (((l0_0.length : Int) : Int).toNat ≤ 281474976710656) = true := decide_eq_true c3
   clear c3
   obtain ⟨y125, hy125⟩ : ∃ y_ : List Bool, y_ = (List.replicate ((l0_0.length : Int) : Int).toNat false) := ⟨_, rfl⟩
   replace H : (q0w.l0 k y125 l0_0 (l0_0.length : Int) 0 l0_0 a0_1) = some r := by first | (rw [hy125]; with_reducible exact H) | (have H2_ := (Option.bind_some _ _).symm.trans H; rw [hy125]; with_reducible exact H2_) | (have H2_ := (Option.bind_some _ _).symm.trans H; with_reducible exact H2_) | with_reducible exact H | (rw [hy125]; exact H) | exact H
   have Ny125 := aS hy125
   clear hy125
   have H' := aS H
   clear H
   go_enter Tryd.func101, Tryd.ntmps101
   go_wp2_with (first | ((with_reducible refine q15 (N := 1) rfl ?_); (try (refine q1t (by rfl) ?_; dsimp only)); refine q0y ?hg (N := 1) ?hd (cs := #[.slice A0_0 l0_0.length c0_0, .bool a0_1]) (t := 24) ?hr ?_; (case hd => rfl); (case hg => rfl); (case hr => first | (go_simp; done) | (go_simp; rfl)); intro gb124 hg w4 hbox hb; have n0_ := aS (q09 (by repeat (first | (with_reducible first | exact HB.out | apply bA | apply bN | apply bD) | exact HB.out)) hb); have n1_ := aS (hbox); have n2_ := aS ((by rw [hg]; exact (q0k (by repeat (first | (with_reducible first | exact HB.out | apply bA | apply bN | apply bD) | exact HB.out))) : w.heap.size ≤ gb124)); have n3_ := aS ((by rw [hg]; exact (q0k (by repeat (first | (with_reducible first | exact HB.out | apply bA | apply bN | apply bD) | exact HB.out))) : w.heap.size ≤ gb124)); clear HB; have HB := n0_; have BK124 := n1_; have GW124 := n2_; have GE124 := n3_; clear n0_ n1_ n2_ n3_; clear hb hbox hg; have hcz5_0 : w4.cell? ⟨gb124, 0, none⟩ = some (.slice A0_0 l0_0.length c0_0) := (q02 BK124.out 0).trans rfl; have hcz5_1 : w4.cell? ⟨gb124, 1, none⟩ = some (.bool a0_1) := (q02 BK124.out 1).trans rfl; have hfz5_0 := q01 BK124.out 0; have hfz5_1 := q01 BK124.out 1) | ((with_reducible refine q15 (N := 13) rfl ?_); (try (refine q1t (by rfl) ?_; dsimp only)); refine Kd.R_make Kd.bool _ 4 rfl (N := 13) rfl 186 _ _ rfl (l0_0.length : Int) rfl rfl Tryd.underlying186 (.bool false) 1 info4 rfl (by decide) (by omega) false (ok := fun _ => True) (okp := fun _ => True) rfl (fun _ hk => hk) trivial (od (by first | (with_reducible assumption) | assumption)) (Nat.le_trans (Nat.mul_le_mul_right _ (od (by first | (with_reducible assumption) | assumption) : (l0_0.length : Int).toNat ≤ 281474976710656)) (by omega)) (Below.refl _ _) (Nat.le_refl _) ?_; intro v126 w6 ho7 hb hg_ hnew_; clear hg_ hnew_; (first | rw [← Ny125.out] at ho7 | (simp only [Int.reduceToNat] at ho7; rw [← Ny125.out] at ho7)); have n0_ := aS (Kd.R_lower ho7 (q0k (by repeat (first | (with_reducible first | exact HB.out | apply bA | apply bN | apply bD | refine bS ?_ GE124.out) | exact HB.out)))); have n1_ := aS (q16 (g := gb124) (o := .cells #[.slice A0_0 l0_0.length c0_0, .bool a0_1] 24 (0, 0)) (by (with_reducible repeat (first | refine kN ?_ _ | refine kD ?_ | refine kA ?_ _)); exact BK124.out) hb); have n2_ := aS (q09 (by repeat (first | (with_reducible first | exact HB.out | apply bA | apply bN | apply bD | refine bS ?_ GE124.out) | exact HB.out)) hb); clear BK124; clear HB; have HO127 := n0_; have BK124 := n1_; have HB := n2_; clear n0_ n1_ n2_; clear hb ho7; have hcz8_0 : w6.cell? ⟨gb124, 0, none⟩ = some (.slice A0_0 l0_0.length c0_0) := (q02 BK124.out 0).trans rfl; have hcz8_1 : w6.cell? ⟨gb124, 1, none⟩ = some (.bool a0_1) := (q02 BK124.out 1).trans rfl; have hfz8_0 := q01 BK124.out 0; have hfz8_1 := q01 BK124.out 1))
   go_loopg [17] k (fun kq v17 w' => ∃ (x3_1 : List Bool) (x17_1 : Int), v17 = .int .i64 x17_1 ∧ Aside0 (q0w.l0 kq x3_1 l0_0 (l0_0.length : Int) x17_1 l0_0 a0_1 = some r) ∧ Aside0 (kq ≤ k) ∧ Aside0 (Kd.R Kd.bool 4 w' w.heap.size (fun _ => True) v126 x3_1) ∧ Aside0 (w'.heap[gb124]? = some (.cells #[(.slice A0_0 l0_0.length c0_0), .bool a0_1] 24 (0, 0))) ∧ Aside0 (Below w.heap.size w w'))
   case atStart => exact ⟨(y125), (0), (by first | rfl | (simp; done) | simp [*]), H', ⟨Nat.le_refl _⟩, ⟨by (with_reducible repeat (first | apply rA | apply rN | apply rD)); exact HO127.out⟩, ⟨by (with_reducible repeat (first | refine kN ?_ _ | refine kD ?_ | refine kA ?_ _)); exact BK124.out⟩, ⟨by repeat (first | (with_reducible first | exact HB.out | apply bA | apply bN | apply bD | refine bS ?_ GE124.out) | exact HB.out)⟩⟩
   case round =>
    clear H'
    try clear c1
    try clear c2
    try clear c2b0
    try clear c2b1
    try clear p2
    try clear c3
    try clear c3b0
    try clear c3b1
    try clear hcz5_0
    try clear hcz5_1
    try clear hcz8_0
    try clear hcz8_1
    try clear hfz5_0
    try clear hfz5_1
    try clear hfz8_0
    try clear hfz8_1
    obtain ⟨x3_1, x17_1, rfl, HA, HK1, HO_3, BK124, HB⟩ := hrel
    cases gk with
    | zero => exact absurd HA.out (by simp [q0w.l0])
    | succ k1 =>
     have H := HA.out
     clear HA
     simp only [q0w.l0] at H
     by_cases c9 : x17_1 < (l0_0.length : Int)
     ·rw [if_pos c9] at H
      have c9b0 : decide (x17_1 < (l0_0.length : Int)) = true := decide_eq_true c9
      clear c9
      by_cases c10 : 0 ≤ x17_1
      ·rw [if_pos c10] at H
       have c10b0 : decide (0 ≤ x17_1) = true := decide_eq_true c10
       clear c10
       by_cases c11 : x17_1 < (l0_0.length : Int)
       ·rw [if_pos c11] at H
        have c11b0 : decide (x17_1 < (l0_0.length : Int)) = true := decide_eq_true c11
        clear c11
        have H' := aS H
        clear H
        have p128 : 0 ≤ (x17_1 : Int) := od (by first | (with_reducible assumption) | assumption)
        have q128 : x17_1 < (l0_0.length : Int) := od (by first | (with_reducible assumption) | assumption)
        obtain ⟨ad128, A128_2, c128_2, A128_5, c128_5, e128, hx128_0, hx128_1, hx128_2, hx128_3, hx128_4, hx128_5, hl128_2, hi128_2, hl128_5, hi128_5⟩ := q1j HR0_0.out x17_1 p128 q128
        cases e128
        replace hx128_0 := (HB.out.cell (World.block_lt_of_cell? w _ hx128_0)).trans hx128_0
        replace hx128_1 := (HB.out.cell (World.block_lt_of_cell? w _ hx128_1)).trans hx128_1
        replace hx128_2 := (HB.out.cell (World.block_lt_of_cell? w _ hx128_2)).trans hx128_2
        replace hx128_3 := (HB.out.cell (World.block_lt_of_cell? w _ hx128_3)).trans hx128_3
        replace hx128_4 := (HB.out.cell (World.block_lt_of_cell? w _ hx128_4)).trans hx128_4
        replace hx128_5 := (HB.out.cell (World.block_lt_of_cell? w _ hx128_5)).trans hx128_5
        have HR128_2 := aS hi128_2
        have HC128_2 := aS hl128_2
        clear hi128_2 hl128_2
        have HR128_5 := aS hi128_5
        have HC128_5 := aS hl128_5
        clear hi128_5 hl128_5
        replace p128 := eq_true p128
        replace q128 := eq_true q128
        go_wp2_with (first | ((with_reducible refine q15 (N := 5) rfl ?_); (try (refine q1t (by rfl) ?_; dsimp only)); refine q0y ?hg (N := 5) ?hd (cs := #[.int .i64 0, .string (⟨#[]⟩ : ByteArray), .slice none 0 0, .string (⟨#[]⟩ : ByteArray), .int .i64 0, .slice none 0 0]) (t := 43) ?hr ?_; (case hd => rfl); (case hg => rfl); (case hr => first | (go_simp; done) | (go_simp; rfl)); intro gb129 hg w12 hbox hb; have n0_ := aS (Kd.R_below (by (with_reducible repeat (first | apply rA | apply rN | apply rD)); exact HO_3.out) hb); have n1_ := aS (q16 (g := gb124) (o := .cells #[.slice (some ad128) l0_0.length c0_0, .bool a0_1] 24 (0, 0)) (by (with_reducible repeat (first | refine kN ?_ _ | refine kD ?_ | refine kA ?_ _)); exact BK124.out) hb); have n2_ := aS (q09 (by repeat (first | (with_reducible first | exact HB.out | apply bA | apply bN | apply bD | refine bS ?_ GE124.out) | exact HB.out)) hb); have n3_ := aS (hbox); have n4_ := aS ((by rw [hg]; exact (q0k (by repeat (first | (with_reducible first | exact HB.out | apply bA | apply bN | apply bD | refine bS ?_ GE124.out) | exact HB.out))) : w.heap.size ≤ gb129)); have n5_ := aS ((by rw [hg]; exact (q0k (by repeat (first | (with_reducible first | exact HB.out | apply bA | apply bN | apply bD | refine bS ?_ GE124.out) | exact HB.out))) : w.heap.size ≤ gb129)); have n6_ := aS ((by rw [hg]; exact Nat.ne_of_lt (q2i (g := gb124) (o := .cells #[.slice (some ad128) l0_0.length c0_0, .bool a0_1] 24 (0, 0)) (by (with_reducible repeat (first | refine kN ?_ _ | refine kD ?_ | refine kA ?_ _)); exact BK124.out)) : gb124 ≠ gb129)); have n7_ := aS ((by rw [hg]; exact Nat.ne_of_gt (q2i (g := gb124) (o := .cells #[.slice (some ad128) l0_0.length c0_0, .bool a0_1] 24 (0, 0)) (by (with_reducible repeat (first | refine kN ?_ _ | refine kD ?_ | refine kA ?_ _)); exact BK124.out)) : gb129 ≠ gb124)); clear HO_3; clear BK124; clear HB; have HO_3 := n0_; have BK124 := n1_; have HB := n2_; have BK129 := n3_; have GW129 := n4_; have GE129 := n5_; have NB124_129 := n6_; have NB129_124 := n7_; clear n0_ n1_ n2_ n3_ n4_ n5_ n6_ n7_; clear hb hbox hg; have hnb13 := NB129_124.out; have hnc13 := NB124_129.out; have hcz14_0 : w12.cell? ⟨gb129, 0, none⟩ = some (.int .i64 0) := (q02 BK129.out 0).trans rfl; have hcz14_1 : w12.cell? ⟨gb129, 1, none⟩ = some (.string (⟨#[]⟩ : ByteArray)) := (q02 BK129.out 1).trans rfl; have hcz14_2 : w12.cell? ⟨gb129, 2, none⟩ = some (.slice none 0 0) := (q02 BK129.out 2).trans rfl; have hcz14_3 : w12.cell? ⟨gb129, 3, none⟩ = some (.string (⟨#[]⟩ : ByteArray)) := (q02 BK129.out 3).trans rfl; have hcz14_4 : w12.cell? ⟨gb129, 4, none⟩ = some (.int .i64 0) := (q02 BK129.out 4).trans rfl; have hcz14_5 : w12.cell? ⟨gb129, 5, none⟩ = some (.slice none 0 0) := (q02 BK129.out 5).trans rfl; have hfz14_0 := q01 BK129.out 0; have hfz14_1 := q01 BK129.out 1; have hfz14_2 := q01 BK129.out 2; have hfz14_3 := q01 BK129.out 3; have hfz14_4 := q01 BK129.out 4; have hfz14_5 := q01 BK129.out 5))
        go_loopg [25] k1 (fun kq v25 w' => ∃ (x3_2 : List Bool) (x25_2 : Int), v25 = .int .i64 x25_2 ∧ Aside0 (q0w.l1 kq x3_2 x17_1 l0_0 (l0_0.length : Int) x17_1 ((q05 l0_0 x17_1).f5) (((q05 l0_0 x17_1).f5).length : Int) x25_2 l0_0 a0_1 = some r) ∧ Aside0 (kq ≤ k1) ∧ Aside0 (Kd.R Kd.bool 4 w' w.heap.size (fun _ => True) v126 x3_2) ∧ Aside0 (w'.heap[gb124]? = some (.cells #[(.slice (some ad128) l0_0.length c0_0), .bool a0_1] 24 (0, 0))) ∧ Aside0 (w'.heap[gb129]? = some (.cells #[.int .i64 ((q05 l0_0 x17_1).f0), .string ((q05 l0_0 x17_1).f1), (.slice A128_2 ((q05 l0_0 x17_1).f2).length c128_2), .string ((q05 l0_0 x17_1).f3), .int .i64 ((q05 l0_0 x17_1).f4), (.slice A128_5 ((q05 l0_0 x17_1).f5).length c128_5)] 43 (0, 0))) ∧ Aside0 (Below w.heap.size w w'))
        case atStart => exact ⟨(x3_1), (0), (by first | rfl | (simp; done) | simp [*]), H', ⟨Nat.le_refl _⟩, ⟨by (with_reducible repeat (first | apply rA | apply rN | apply rD)); exact Kd.R_mono (Kd.R_far (p := ⟨gb129, 5, none⟩) (Kd.R_far (p := ⟨gb129, 4, none⟩) (Kd.R_far (p := ⟨gb129, 3, none⟩) (Kd.R_far (p := ⟨gb129, 2, none⟩) (Kd.R_far (p := ⟨gb129, 1, none⟩) (Kd.R_far (p := ⟨gb129, 0, none⟩) (Kd.R_types HO_3.out BK129.out (by decide)) (fun _ hk => hk.2) (.int .i64 ((q05 l0_0 x17_1).f0))) (fun _ hk => hk.2) (.string ((q05 l0_0 x17_1).f1))) (fun _ hk => hk.2) (.slice A128_2 ((q05 l0_0 x17_1).f2).length c128_2)) (fun _ hk => hk.2) (.string ((q05 l0_0 x17_1).f3))) (fun _ hk => hk.2) (.int .i64 ((q05 l0_0 x17_1).f4))) (fun _ hk => hk.2) (.slice A128_5 ((q05 l0_0 x17_1).f5).length c128_5)) (fun _ hk => trivial)⟩, ⟨by (with_reducible repeat (first | refine kN ?_ _ | refine kD ?_ | refine kA ?_ _)); refine q1q ?_ NB124_129.out _; (with_reducible repeat (first | refine kN ?_ _ | refine kD ?_ | refine kA ?_ _)); refine q1q ?_ NB124_129.out _; (with_reducible repeat (first | refine kN ?_ _ | refine kD ?_ | refine kA ?_ _)); refine q1q ?_ NB124_129.out _; (with_reducible repeat (first | refine kN ?_ _ | refine kD ?_ | refine kA ?_ _)); refine q1q ?_ NB124_129.out _; (with_reducible repeat (first | refine kN ?_ _ | refine kD ?_ | refine kA ?_ _)); refine q1q ?_ NB124_129.out _; (with_reducible repeat (first | refine kN ?_ _ | refine kD ?_ | refine kA ?_ _)); refine q1q ?_ NB124_129.out _; (with_reducible repeat (first | refine kN ?_ _ | refine kD ?_ | refine kA ?_ _)); exact BK124.out⟩, ⟨by (with_reducible repeat (first | refine kN ?_ _ | refine kD ?_ | refine kA ?_ _)); refine q1p (cs := #[.int .i64 ((q05 l0_0 x17_1).f0), .string ((q05 l0_0 x17_1).f1), .slice A128_2 ((q05 l0_0 x17_1).f2).length c128_2, .string ((q05 l0_0 x17_1).f3), .int .i64 ((q05 l0_0 x17_1).f4), .slice none 0 0]) ?_ 5 _ rfl; (with_reducible repeat (first | refine kN ?_ _ | refine kD ?_ | refine kA ?_ _)); refine q1p (cs := #[.int .i64 ((q05 l0_0 x17_1).f0), .string ((q05 l0_0 x17_1).f1), .slice A128_2 ((q05 l0_0 x17_1).f2).length c128_2, .string ((q05 l0_0 x17_1).f3), .int .i64 0, .slice none 0 0]) ?_ 4 _ rfl; (with_reducible repeat (first | refine kN ?_ _ | refine kD ?_ | refine kA ?_ _)); refine q1p (cs := #[.int .i64 ((q05 l0_0 x17_1).f0), .string ((q05 l0_0 x17_1).f1), .slice A128_2 ((q05 l0_0 x17_1).f2).length c128_2, .string (⟨#[]⟩ : ByteArray), .int .i64 0, .slice none 0 0]) ?_ 3 _ rfl; (with_reducible repeat (first | refine kN ?_ _ | refine kD ?_ | refine kA ?_ _)); refine q1p (cs := #[.int .i64 ((q05 l0_0 x17_1).f0), .string ((q05 l0_0 x17_1).f1), .slice none 0 0, .string (⟨#[]⟩ : ByteArray), .int .i64 0, .slice none 0 0]) ?_ 2 _ rfl; (with_reducible repeat (first | refine kN ?_ _ | refine kD ?_ | refine kA ?_ _)); refine q1p (cs := #[.int .i64 ((q05 l0_0 x17_1).f0), .string (⟨#[]⟩ : ByteArray), .slice none 0 0, .string (⟨#[]⟩ : ByteArray), .int .i64 0, .slice none 0 0]) ?_ 1 _ rfl; (with_reducible repeat (first | refine kN ?_ _ | refine kD ?_ | refine kA ?_ _)); refine q1p (cs := #[.int .i64 0, .string (⟨#[]⟩ : ByteArray), .slice none 0 0, .string (⟨#[]⟩ : ByteArray), .int .i64 0, .slice none 0 0]) ?_ 0 _ rfl; (with_reducible repeat (first | refine kN ?_ _ | refine kD ?_ | refine kA ?_ _)); exact BK129.out⟩, ⟨by repeat (first | (with_reducible first | exact HB.out | apply bA | apply bN | apply bD | refine bS ?_ GE124.out | refine bS ?_ GE129.out) | exact HB.out)⟩⟩
        case round =>
         clear H'
         try clear c1
         try clear p1
         try clear q1
         try clear hx1
         try clear c2
         try clear c2b0
         try clear c2b1
         try clear p2
         try clear c3
         try clear c3b0
         try clear c3b1
         try clear c9
         try clear c9b0
         try clear c10
         try clear c10b0
         try clear c11
         try clear c11b0
         try clear c12
         try clear p12
         try clear q12
         try clear hx12
         try clear c13
         try clear hcz14_0
         try clear hcz14_1
         try clear hcz14_2
         try clear hcz14_3
         try clear hcz14_4
         try clear hcz14_5
         try clear hcz5_0
         try clear hcz5_1
         try clear hcz8_0
         try clear hcz8_1
         try clear hfz14_0
         try clear hfz14_1
         try clear hfz14_2
         try clear hfz14_3
         try clear hfz14_4
         try clear hfz14_5
         try clear hfz5_0
         try clear hfz5_1
         try clear hfz8_0
         try clear hfz8_1
         try clear hx128_0
         try clear hx128_1
         try clear hx128_2
         try clear hx128_3
         try clear hx128_4
         try clear hx128_5
         try clear p128
         try clear p2
         try clear q128
         obtain ⟨x3_2, x25_2, rfl, HA, HK2, HO_3, BK124, BK129, HB⟩ := hrel
         cases gk with
         | zero => exact absurd HA.out (by simp [q0w.l1])
         | succ k2 =>
          have H := HA.out
          clear HA
          simp only [q0w.l1] at H
          by_cases c15 : x25_2 < (((q05 l0_0 x17_1).f5).length : Int)
          ·rw [if_pos c15] at H
           have c15b0 : decide (x25_2 < (((q05 l0_0 x17_1).f5).length : Int)) = true := decide_eq_true c15
           clear c15
           by_cases c16 : 0 ≤ x25_2
           ·rw [if_pos c16] at H
            have c16b0 : decide (0 ≤ x25_2) = true := decide_eq_true c16
            clear c16
            by_cases c17 : x25_2 < (((q05 l0_0 x17_1).f5).length : Int)
            ·rw [if_pos c17] at H
             have c17b0 : decide (x25_2 < (((q05 l0_0 x17_1).f5).length : Int)) = true := decide_eq_true c17
             clear c17
             have HC18 := aS H
             clear H
             have p130 : 0 ≤ (x25_2 : Int) := od (by first | (with_reducible assumption) | assumption)
             have q130 : x25_2 < (((q05 l0_0 x17_1).f5).length : Int) := od (by first | (with_reducible assumption) | assumption)
             obtain ⟨ad130, e130, hx130_0⟩ := Kd.at_int HR128_5.out x25_2 p130 q130
             cases e130
             replace hx130_0 := (HB.out.cell (World.block_lt_of_cell? w _ hx130_0)).trans hx130_0
             replace p130 := eq_true p130
             replace q130 := eq_true q130
             go_upto_region 8 with (fail)
             go_cut [29] (fun v29 wc => ∃ (kq : Nat) (x29_17 : Bool), v29 = .bool x29_17 ∧ Aside0 (q0w.j2 kq x3_2 x17_1 (rd ((q05 l0_0 x17_1).f5) x25_2) l0_0 (l0_0.length : Int) x17_1 ((q05 l0_0 x17_1).f5) (((q05 l0_0 x17_1).f5).length : Int) x25_2 x29_17 l0_0 a0_1 = some r) ∧ Aside0 (kq ≤ k2) ∧ Aside0 (Kd.R Kd.bool 4 wc w.heap.size (fun _ => True) v126 x3_2) ∧ Aside0 (wc.heap[gb124]? = some (.cells #[(.slice (some ad128) l0_0.length c0_0), .bool a0_1] 24 (0, 0))) ∧ Aside0 (wc.heap[gb129]? = some (.cells #[.int .i64 ((q05 l0_0 x17_1).f0), .string ((q05 l0_0 x17_1).f1), (.slice A128_2 ((q05 l0_0 x17_1).f2).length c128_2), .string ((q05 l0_0 x17_1).f3), .int .i64 ((q05 l0_0 x17_1).f4), (.slice (some ad130) ((q05 l0_0 x17_1).f5).length c128_5)] 43 (0, 0))) ∧ Aside0 (Below w.heap.size w wc))
             case first =>
              have H := HC18.out
              clear HC18
              by_cases c19 : (rd ((q05 l0_0 x17_1).f5) x25_2) < 0
              ·rw [if_pos c19] at H
               have c19b0 : decide ((rd ((q05 l0_0 x17_1).f5) x25_2) < 0) = true := decide_eq_true c19
               clear c19
               (first | rw [c19b0] | (simp only [q1e, q1i]; rw [c19b0]) | skip)
               have H' := aS H
               clear H
               go_wp2
               go_meet
               case rel => exact ⟨_, (true), (by first | rfl | (simp; done) | simp [*]), H', ⟨by have := HK1.out; have := HK2.out; first | omega | exact Nat.le_refl _⟩, ⟨by (with_reducible repeat (first | apply rA | apply rN | apply rD)); exact HO_3.out⟩, ⟨by (with_reducible repeat (first | refine kN ?_ _ | refine kD ?_ | refine kA ?_ _)); exact BK124.out⟩, ⟨by (with_reducible repeat (first | refine kN ?_ _ | refine kD ?_ | refine kA ?_ _)); exact BK129.out⟩, ⟨by repeat (first | (with_reducible first | exact HB.out | apply bA | apply bN | apply bD | refine bS ?_ GE124.out | refine bS ?_ GE129.out) | exact HB.out)⟩⟩
              ·rw [if_neg c19] at H
               have c19b0 : decide ((rd ((q05 l0_0 x17_1).f5) x25_2) < 0) = false := decide_eq_false c19
               clear c19
               (first | rw [c19b0] | (simp only [q1e, q1i]; rw [c19b0]) | skip)
               by_cases c20 : (rd ((q05 l0_0 x17_1).f5) x25_2) ≥ (x3_2.length : Int)
               ·rw [if_pos c20] at H
                have c20b0 : decide ((x3_2.length : Int) ≤ (rd ((q05 l0_0 x17_1).f5) x25_2)) = true := decide_eq_true c20
                clear c20
                have H' := aS H
                clear H
                obtain ⟨Ao21, co21, eo21⟩ := Kd.R_slice HO_3.out
                subst eo21
                go_wp2
                go_meet
                case rel => exact ⟨_, (true), (by first | rfl | (simp; done) | simp [*]), H', ⟨by have := HK1.out; have := HK2.out; first | omega | exact Nat.le_refl _⟩, ⟨by (with_reducible repeat (first | apply rA | apply rN | apply rD)); exact HO_3.out⟩, ⟨by (with_reducible repeat (first | refine kN ?_ _ | refine kD ?_ | refine kA ?_ _)); exact BK124.out⟩, ⟨by (with_reducible repeat (first | refine kN ?_ _ | refine kD ?_ | refine kA ?_ _)); exact BK129.out⟩, ⟨by repeat (first | (with_reducible first | exact HB.out | apply bA | apply bN | apply bD | refine bS ?_ GE124.out | refine bS ?_ GE129.out) | exact HB.out)⟩⟩
               ·rw [if_neg c20] at H
                have c20b0 : decide ((x3_2.length : Int) ≤ (rd ((q05 l0_0 x17_1).f5) x25_2)) = false := decide_eq_false c20
                clear c20
                by_cases c22 : 0 ≤ (rd ((q05 l0_0 x17_1).f5) x25_2)
                ·rw [if_pos c22] at H
                 have c22b0 : decide (0 ≤ (rd ((q05 l0_0 x17_1).f5) x25_2)) = true := decide_eq_true c22
                 clear c22
                 by_cases c23 : (rd ((q05 l0_0 x17_1).f5) x25_2) < (l0_0.length : Int)
                 ·rw [if_pos c23] at H
                  have c23b0 : decide ((rd ((q05 l0_0 x17_1).f5) x25_2) < (l0_0.length : Int)) = true := decide_eq_true c23
                  clear c23
                  by_cases c24 : ((q05 l0_0 (rd ((q05 l0_0 x17_1).f5) x25_2)).f4) = x17_1
                  ·rw [if_pos c24] at H
                   have c24b0 : (((q05 l0_0 (rd ((q05 l0_0 x17_1).f5) x25_2)).f4) == x17_1) = true := beq_iff_eq.mpr c24
                   have c24b1 : (((q05 l0_0 (rd ((q05 l0_0 x17_1).f5) x25_2)).f4) != x17_1) = false := bne_eq_false_iff_eq.mpr c24
                   clear c24
                   by_cases c25 : (rd ((q05 l0_0 x17_1).f5) x25_2) < (x3_2.length : Int)
                   ·rw [if_pos c25] at H
                    have c25b0 : decide ((rd ((q05 l0_0 x17_1).f5) x25_2) < (x3_2.length : Int)) = true := decide_eq_true c25
                    clear c25
                    have H' := aS H
                    clear H
                    obtain ⟨Ao26, co26, eo26⟩ := Kd.R_slice HO_3.out
                    subst eo26
                    have hnb27 := NB124_129.out
                    have hnc27 := NB129_124.out
                    have hcz28_0 : wr.cell? ⟨gb124, 0, none⟩ = some (.slice (some ad128) l0_0.length c0_0) := (q02 BK124.out 0).trans rfl
                    have hcz28_1 : wr.cell? ⟨gb124, 1, none⟩ = some (.bool a0_1) := (q02 BK124.out 1).trans rfl
                    have hfz28_0 := q01 BK124.out 0
                    have hfz28_1 := q01 BK124.out 1
                    have p131 : 0 ≤ ((rd ((q05 l0_0 x17_1).f5) x25_2) : Int) := od (by first | (with_reducible assumption) | assumption)
                    have q131 : (rd ((q05 l0_0 x17_1).f5) x25_2) < (l0_0.length : Int) := od (by first | (with_reducible assumption) | assumption)
                    obtain ⟨ad131, A131_2, c131_2, A131_5, c131_5, e131, hx131_0, hx131_1, hx131_2, hx131_3, hx131_4, hx131_5, hl131_2, hi131_2, hl131_5, hi131_5⟩ := q1j HR0_0.out (rd ((q05 l0_0 x17_1).f5) x25_2) p131 q131
                    obtain rfl : ad128 = ad131 := (by injection e131)
                    replace hx131_0 := (HB.out.cell (World.block_lt_of_cell? w _ hx131_0)).trans hx131_0
                    replace hx131_1 := (HB.out.cell (World.block_lt_of_cell? w _ hx131_1)).trans hx131_1
                    replace hx131_2 := (HB.out.cell (World.block_lt_of_cell? w _ hx131_2)).trans hx131_2
                    replace hx131_3 := (HB.out.cell (World.block_lt_of_cell? w _ hx131_3)).trans hx131_3
                    replace hx131_4 := (HB.out.cell (World.block_lt_of_cell? w _ hx131_4)).trans hx131_4
                    replace hx131_5 := (HB.out.cell (World.block_lt_of_cell? w _ hx131_5)).trans hx131_5
                    have HR131_2 := aS hi131_2
                    have HC131_2 := aS hl131_2
                    clear hi131_2 hl131_2
                    have HR131_5 := aS hi131_5
                    have HC131_5 := aS hl131_5
                    clear hi131_5 hl131_5
                    replace p131 := eq_true p131
                    replace q131 := eq_true q131
                    have p132 : 0 ≤ ((rd ((q05 l0_0 x17_1).f5) x25_2) : Int) := od (by first | (with_reducible assumption) | assumption)
                    have q132 : (rd ((q05 l0_0 x17_1).f5) x25_2) < (x3_2.length : Int) := od (by first | (with_reducible assumption) | assumption)
                    obtain ⟨ad132, e132, hx132_0⟩ := Kd.at_bool (Kd.R_reads' HO_3.out).2.2 (rd ((q05 l0_0 x17_1).f5) x25_2) p132 q132
                    cases e132
                    replace p132 := eq_true p132
                    replace q132 := eq_true q132
                    go_wp2
                    go_meet
                    case rel => exact ⟨_, (rdOf false x3_2 (rd ((q05 l0_0 x17_1).f5) x25_2)), (by first | rfl | (simp; done) | simp [*]), H', ⟨by have := HK1.out; have := HK2.out; first | omega | exact Nat.le_refl _⟩, ⟨by (with_reducible repeat (first | apply rA | apply rN | apply rD)); exact HO_3.out⟩, ⟨by (with_reducible repeat (first | refine kN ?_ _ | refine kD ?_ | refine kA ?_ _)); exact BK124.out⟩, ⟨by (with_reducible repeat (first | refine kN ?_ _ | refine kD ?_ | refine kA ?_ _)); exact BK129.out⟩, ⟨by repeat (first | (with_reducible first | exact HB.out | apply bA | apply bN | apply bD | refine bS ?_ GE124.out | refine bS ?_ GE129.out) | exact HB.out)⟩⟩
                   ·rw [if_neg c25] at H
                    exact absurd H (by simp)
                  ·rw [if_neg c24] at H
                   have c24b0 : (((q05 l0_0 (rd ((q05 l0_0 x17_1).f5) x25_2)).f4) == x17_1) = false := beq_eq_false_iff_ne.mpr c24
                   have c24b1 : (((q05 l0_0 (rd ((q05 l0_0 x17_1).f5) x25_2)).f4) != x17_1) = true := bne_iff_ne.mpr c24
                   have H' := aS H
                   clear H
                   obtain ⟨Ao29, co29, eo29⟩ := Kd.R_slice HO_3.out
                   subst eo29
                   have hnb30 := NB124_129.out
                   have hnc30 := NB129_124.out
                   have hcz31_0 : wr.cell? ⟨gb124, 0, none⟩ = some (.slice (some ad128) l0_0.length c0_0) := (q02 BK124.out 0).trans rfl
                   have hcz31_1 : wr.cell? ⟨gb124, 1, none⟩ = some (.bool a0_1) := (q02 BK124.out 1).trans rfl
                   have hfz31_0 := q01 BK124.out 0
                   have hfz31_1 := q01 BK124.out 1
                   have p131 : 0 ≤ ((rd ((q05 l0_0 x17_1).f5) x25_2) : Int) := od (by first | (with_reducible assumption) | assumption)
                   have q131 : (rd ((q05 l0_0 x17_1).f5) x25_2) < (l0_0.length : Int) := od (by first | (with_reducible assumption) | assumption)
                   obtain ⟨ad131, A131_2, c131_2, A131_5, c131_5, e131, hx131_0, hx131_1, hx131_2, hx131_3, hx131_4, hx131_5, hl131_2, hi131_2, hl131_5, hi131_5⟩ := q1j HR0_0.out (rd ((q05 l0_0 x17_1).f5) x25_2) p131 q131
                   obtain rfl : ad128 = ad131 := (by injection e131)
                   replace hx131_0 := (HB.out.cell (World.block_lt_of_cell? w _ hx131_0)).trans hx131_0
                   replace hx131_1 := (HB.out.cell (World.block_lt_of_cell? w _ hx131_1)).trans hx131_1
                   replace hx131_2 := (HB.out.cell (World.block_lt_of_cell? w _ hx131_2)).trans hx131_2
                   replace hx131_3 := (HB.out.cell (World.block_lt_of_cell? w _ hx131_3)).trans hx131_3
                   replace hx131_4 := (HB.out.cell (World.block_lt_of_cell? w _ hx131_4)).trans hx131_4
                   replace hx131_5 := (HB.out.cell (World.block_lt_of_cell? w _ hx131_5)).trans hx131_5
                   have HR131_2 := aS hi131_2
                   have HC131_2 := aS hl131_2
                   clear hi131_2 hl131_2
                   have HR131_5 := aS hi131_5
                   have HC131_5 := aS hl131_5
                   clear hi131_5 hl131_5
                   replace p131 := eq_true p131
                   replace q131 := eq_true q131
                   go_wp2
                   go_meet
                   case rel => exact ⟨_, (true), (by first | rfl | (simp; done) | simp [*]), H', ⟨by have := HK1.out; have := HK2.out; first | omega | exact Nat.le_refl _⟩, ⟨by (with_reducible repeat (first | apply rA | apply rN | apply rD)); exact HO_3.out⟩, ⟨by (with_reducible repeat (first | refine kN ?_ _ | refine kD ?_ | refine kA ?_ _)); exact BK124.out⟩, ⟨by (with_reducible repeat (first | refine kN ?_ _ | refine kD ?_ | refine kA ?_ _)); exact BK129.out⟩, ⟨by repeat (first | (with_reducible first | exact HB.out | apply bA | apply bN | apply bD | refine bS ?_ GE124.out | refine bS ?_ GE129.out) | exact HB.out)⟩⟩
                 ·rw [if_neg c23] at H
                  exact absurd H (by simp)
                ·rw [if_neg c22] at H
                 exact absurd H (by simp)
             case rest =>
              clear HC18
              try clear c1
              try clear p1
              try clear q1
              try clear hx1
              try clear c2
              try clear c2b0
              try clear c2b1
              try clear p2
              try clear c3
              try clear c3b0
              try clear c3b1
              try clear c9
              try clear c9b0
              try clear c10
              try clear c10b0
              try clear c11
              try clear c11b0
              try clear c12
              try clear p12
              try clear q12
              try clear hx12
              try clear c13
              try clear p13
              try clear q13
              try clear hx13
              try clear c15
              try clear c15b0
              try clear c16
              try clear c16b0
              try clear c17
              try clear c17b0
              try clear c19
              try clear c19b0
              try clear c20
              try clear c20b0
              try clear c22
              try clear c22b0
              try clear c23
              try clear c23b0
              try clear c24
              try clear c24b0
              try clear c24b1
              try clear c25
              try clear c25b0
              try clear c27
              try clear c30
              try clear hcz14_0
              try clear hcz14_1
              try clear hcz14_2
              try clear hcz14_3
              try clear hcz14_4
              try clear hcz14_5
              try clear hcz28_0
              try clear hcz28_1
              try clear hcz31_0
              try clear hcz31_1
              try clear hcz5_0
              try clear hcz5_1
              try clear hcz8_0
              try clear hcz8_1
              try clear hfz14_0
              try clear hfz14_1
              try clear hfz14_2
              try clear hfz14_3
              try clear hfz14_4
              try clear hfz14_5
              try clear hfz28_0
              try clear hfz28_1
              try clear hfz31_0
              try clear hfz31_1
              try clear hfz5_0
              try clear hfz5_1
              try clear hfz8_0
              try clear hfz8_1
              try clear hx128_0
              try clear hx128_1
              try clear hx128_2
              try clear hx128_3
              try clear hx128_4
              try clear hx128_5
              try clear hx130_0
              try clear hx131_0
              try clear hx131_1
              try clear hx131_2
              try clear hx131_3
              try clear hx131_4
              try clear hx131_5
              try clear hx132_0
              try clear p1
              try clear p12
              try clear p128
              try clear p130
              try clear p131
              try clear p132
              try clear p2
              try clear q1
              try clear q12
              try clear q128
              try clear q130
              try clear q131
              try clear q132
              obtain ⟨kq, x29_17, rfl, HA, HJ17, HO_3, BK124, BK129, HB⟩ := hcut
              cases kq with
              | zero => exact absurd HA.out (by simp [q0w.j2])
              | succ kj17 =>
               have H := HA.out
               clear HA
               simp only [q0w.j2] at H
               by_cases c32 : x29_17 = true
               ·subst c32
                have H1 : (some 3) = some r := by rw [if_pos rfl] at H; exact H
                clear H
                have H := H1
                clear H1
                obtain rfl := Option.some.inj H
                go_wp2
                go_ret
                exact ⟨by first | rfl | (simp [q0b, q0a] <;> rfl) | (simp [*, q0b, q0a] <;> rfl), by repeat (first | (with_reducible first | exact HB.out | apply bA | apply bN | apply bD | refine bS ?_ GE124.out | refine bS ?_ GE129.out) | exact HB.out)⟩
               ·replace c32 := Bool.eq_false_iff.mpr c32
                subst c32
                have H1 : (if x17_1 = 0 then (if 0 ≤ (rd ((q05 l0_0 x17_1).f5) x25_2) then (if (rd ((q05 l0_0 x17_1).f5) x25_2) < (l0_0.length : Int) then (if ((q05 l0_0 (rd ((q05 l0_0 x17_1).f5) x25_2)).f0) = 3 then (some 7) else (if (rd ((q05 l0_0 x17_1).f5) x25_2) < (x3_2.length : Int) then (q0w.l1 kj17 (x3_2.set ((rd ((q05 l0_0 x17_1).f5) x25_2) : Int).toNat true) x17_1 l0_0 (l0_0.length : Int) x17_1 ((q05 l0_0 x17_1).f5) (((q05 l0_0 x17_1).f5).length : Int) (wrap64 (x25_2 + 1)) l0_0 a0_1) else (none))) else (none)) else (none)) else (if 0 ≤ (rd ((q05 l0_0 x17_1).f5) x25_2) then (if (rd ((q05 l0_0 x17_1).f5) x25_2) < (x3_2.length : Int) then (q0w.l1 kj17 (x3_2.set ((rd ((q05 l0_0 x17_1).f5) x25_2) : Int).toNat true) x17_1 l0_0 (l0_0.length : Int) x17_1 ((q05 l0_0 x17_1).f5) (((q05 l0_0 x17_1).f5).length : Int) (wrap64 (x25_2 + 1)) l0_0 a0_1) else (none)) else (none))) = some r := by rw [if_neg (show ¬ (false = true) by decide)] at H; exact H
                clear H
                have H := H1
                clear H1
                by_cases c33 : x17_1 = 0
                ·rw [if_pos c33] at H
                 have c33b0 : (x17_1 == 0) = true := beq_iff_eq.mpr c33
                 have c33b1 : (x17_1 != 0) = false := bne_eq_false_iff_eq.mpr c33
                 clear c33
                 by_cases c34 : 0 ≤ (rd ((q05 l0_0 x17_1).f5) x25_2)
                 ·rw [if_pos c34] at H
                  have c34b0 : decide (0 ≤ (rd ((q05 l0_0 x17_1).f5) x25_2)) = true := decide_eq_true c34
                  clear c34
                  by_cases c35 : (rd ((q05 l0_0 x17_1).f5) x25_2) < (l0_0.length : Int)
                  ·rw [if_pos c35] at H
                   have c35b0 : decide ((rd ((q05 l0_0 x17_1).f5) x25_2) < (l0_0.length : Int)) = true := decide_eq_true c35
                   clear c35
                   by_cases c36 : ((q05 l0_0 (rd ((q05 l0_0 x17_1).f5) x25_2)).f0) = 3
                   ·rw [if_pos c36] at H
                    have c36b0 : (((q05 l0_0 (rd ((q05 l0_0 x17_1).f5) x25_2)).f0) == 3) = true := beq_iff_eq.mpr c36
                    have c36b1 : (((q05 l0_0 (rd ((q05 l0_0 x17_1).f5) x25_2)).f0) != 3) = false := bne_eq_false_iff_eq.mpr c36
                    clear c36
                    obtain rfl := Option.some.inj H
                    have hnb37 := NB124_129.out
                    have hnc37 := NB129_124.out
                    have hcz38_0 : wc.cell? ⟨gb124, 0, none⟩ = some (.slice (some ad128) l0_0.length c0_0) := (q02 BK124.out 0).trans rfl
                    have hcz38_1 : wc.cell? ⟨gb124, 1, none⟩ = some (.bool a0_1) := (q02 BK124.out 1).trans rfl
                    have hfz38_0 := q01 BK124.out 0
                    have hfz38_1 := q01 BK124.out 1
                    have p133 : 0 ≤ ((rd ((q05 l0_0 x17_1).f5) x25_2) : Int) := od (by first | (with_reducible assumption) | assumption)
                    have q133 : (rd ((q05 l0_0 x17_1).f5) x25_2) < (l0_0.length : Int) := od (by first | (with_reducible assumption) | assumption)
                    obtain ⟨ad133, A133_2, c133_2, A133_5, c133_5, e133, hx133_0, hx133_1, hx133_2, hx133_3, hx133_4, hx133_5, hl133_2, hi133_2, hl133_5, hi133_5⟩ := q1j HR0_0.out (rd ((q05 l0_0 x17_1).f5) x25_2) p133 q133
                    obtain rfl : ad128 = ad133 := (by injection e133)
                    replace hx133_0 := (HB.out.cell (World.block_lt_of_cell? w _ hx133_0)).trans hx133_0
                    replace hx133_1 := (HB.out.cell (World.block_lt_of_cell? w _ hx133_1)).trans hx133_1
                    replace hx133_2 := (HB.out.cell (World.block_lt_of_cell? w _ hx133_2)).trans hx133_2
                    replace hx133_3 := (HB.out.cell (World.block_lt_of_cell? w _ hx133_3)).trans hx133_3
                    replace hx133_4 := (HB.out.cell (World.block_lt_of_cell? w _ hx133_4)).trans hx133_4
                    replace hx133_5 := (HB.out.cell (World.block_lt_of_cell? w _ hx133_5)).trans hx133_5
                    have HR133_2 := aS hi133_2
                    have HC133_2 := aS hl133_2
                    clear hi133_2 hl133_2
                    have HR133_5 := aS hi133_5
                    have HC133_5 := aS hl133_5
                    clear hi133_5 hl133_5
                    replace p133 := eq_true p133
                    replace q133 := eq_true q133
                    go_wp2
                    go_ret
                    exact ⟨by first | rfl | (simp [q0b, q0a] <;> rfl) | (simp [*, q0b, q0a] <;> rfl), by repeat (first | (with_reducible first | exact HB.out | apply bA | apply bN | apply bD | refine bS ?_ GE124.out | refine bS ?_ GE129.out) | exact HB.out)⟩
                   ·rw [if_neg c36] at H
                    have c36b0 : (((q05 l0_0 (rd ((q05 l0_0 x17_1).f5) x25_2)).f0) == 3) = false := beq_eq_false_iff_ne.mpr c36
                    have c36b1 : (((q05 l0_0 (rd ((q05 l0_0 x17_1).f5) x25_2)).f0) != 3) = true := bne_iff_ne.mpr c36
                    by_cases c39 : (rd ((q05 l0_0 x17_1).f5) x25_2) < (x3_2.length : Int)
                    ·rw [if_pos c39] at H
                     have c39b0 : decide ((rd ((q05 l0_0 x17_1).f5) x25_2) < (x3_2.length : Int)) = true := decide_eq_true c39
                     clear c39
                     obtain ⟨y134, hy134⟩ : ∃ y_ : List Bool, y_ = (x3_2.set ((rd ((q05 l0_0 x17_1).f5) x25_2) : Int).toNat true) := ⟨_, rfl⟩
                     replace H : (q0w.l1 kj17 y134 x17_1 l0_0 (l0_0.length : Int) x17_1 ((q05 l0_0 x17_1).f5) (((q05 l0_0 x17_1).f5).length : Int) (wrap64 (x25_2 + 1)) l0_0 a0_1) = some r := by first | (rw [hy134]; with_reducible exact H) | (have H2_ := (Option.bind_some _ _).symm.trans H; rw [hy134]; with_reducible exact H2_) | (have H2_ := (Option.bind_some _ _).symm.trans H; with_reducible exact H2_) | with_reducible exact H | (rw [hy134]; exact H) | exact H
                     have Ny134 := aS hy134
                     clear hy134
                     have H' := aS H
                     clear H
                     have hnb41 := NB124_129.out
                     have hnc41 := NB129_124.out
                     have hcz42_0 : wc.cell? ⟨gb124, 0, none⟩ = some (.slice (some ad128) l0_0.length c0_0) := (q02 BK124.out 0).trans rfl
                     have hcz42_1 : wc.cell? ⟨gb124, 1, none⟩ = some (.bool a0_1) := (q02 BK124.out 1).trans rfl
                     have hfz42_0 := q01 BK124.out 0
                     have hfz42_1 := q01 BK124.out 1
                     have p133 : 0 ≤ ((rd ((q05 l0_0 x17_1).f5) x25_2) : Int) := od (by first | (with_reducible assumption) | assumption)
                     have q133 : (rd ((q05 l0_0 x17_1).f5) x25_2) < (l0_0.length : Int) := od (by first | (with_reducible assumption) | assumption)
                     obtain ⟨ad133, A133_2, c133_2, A133_5, c133_5, e133, hx133_0, hx133_1, hx133_2, hx133_3, hx133_4, hx133_5, hl133_2, hi133_2, hl133_5, hi133_5⟩ := q1j HR0_0.out (rd ((q05 l0_0 x17_1).f5) x25_2) p133 q133
                     obtain rfl : ad128 = ad133 := (by injection e133)
                     replace hx133_0 := (HB.out.cell (World.block_lt_of_cell? w _ hx133_0)).trans hx133_0
                     replace hx133_1 := (HB.out.cell (World.block_lt_of_cell? w _ hx133_1)).trans hx133_1
                     replace hx133_2 := (HB.out.cell (World.block_lt_of_cell? w _ hx133_2)).trans hx133_2
                     replace hx133_3 := (HB.out.cell (World.block_lt_of_cell? w _ hx133_3)).trans hx133_3
                     replace hx133_4 := (HB.out.cell (World.block_lt_of_cell? w _ hx133_4)).trans hx133_4
                     replace hx133_5 := (HB.out.cell (World.block_lt_of_cell? w _ hx133_5)).trans hx133_5
                     have HR133_2 := aS hi133_2
                     have HC133_2 := aS hl133_2
                     clear hi133_2 hl133_2
                     have HR133_5 := aS hi133_5
                     have HC133_5 := aS hl133_5
                     clear hi133_5 hl133_5
                     replace p133 := eq_true p133
                     replace q133 := eq_true q133
                     have p40 : 0 ≤ ((rd ((q05 l0_0 x17_1).f5) x25_2) : Int) := od (by first | (with_reducible assumption) | assumption)
                     have q40 : ((rd ((q05 l0_0 x17_1).f5) x25_2) : Int) < ((x3_2.length : Int) : Int) := od (by first | (with_reducible assumption) | assumption)
                     obtain ⟨go40, co40, eo40, gb40, gl40, cl40, HG40⟩ := Kd.R_form HO_3.out (by omega)
                     (first | cases eo40 | (injection eo40 with ea_ en_ ec_; (first | subst ea_ | (injection ea_ with ea_; subst ea_)); subst ec_; clear en_))
                     have GB40 := aS gb40
                     have GG40 := aS HG40
                     clear gb40 gl40 HG40
                     obtain ⟨hx40_0, hf40_0⟩ := Kd.R_celln false HO_3.out ((rd ((q05 l0_0 x17_1).f5) x25_2) : Int) p40 q40
                     replace p40 := eq_true p40
                     replace q40 := eq_true q40
                     have HP43 := Kd.R_putg HO_3.out ((rd ((q05 l0_0 x17_1).f5) x25_2) : Int) true
                     go_wp2_with (first | ((with_reducible refine gate_store (t := 4) (p := 68) rfl ?_); refine store_event (t := 4) (p := 68) (v := ?vo_w44) (w1 := (wc.setCell ⟨go40, ((rd ((q05 l0_0 x17_1).f5) x25_2) : Int).toNat, none⟩ (.bool true))) ?hg ?ho ?hn ?hr ?_; (case ho => rfl); (case hg => rfl); (case hn => rfl); (case hr => first | (go_simp; done) | (go_simp; rfl)); intro w44 hw; have hg : wc.grownBy w44 (some go40) := (by rw [hw]; exact HP43.2); have hp_ : Kd.R Kd.bool 4 w44 w.heap.size (fun _ => True) (.slice (some ⟨go40, 0, none⟩) x3_2.length co40) y134 := (by rw [hw, Ny134.out]; exact HP43.1); clear HP43; have n0_ := aS (hp_); have n1_ := aS (blk_grown (g := gb124) (o := .cells #[.slice (some ad128) l0_0.length c0_0, .bool a0_1] 24 (0, 0)) (by (with_reducible repeat (first | refine kN ?_ _ | refine kD ?_ | refine kA ?_ _)); exact BK124.out) hg (Kd.R_ne HO_3.out BK124.out (by decide))); have n2_ := aS (blk_grown (g := gb129) (o := .cells #[.int .i64 ((q05 l0_0 x17_1).f0), .string ((q05 l0_0 x17_1).f1), .slice A128_2 ((q05 l0_0 x17_1).f2).length c128_2, .string ((q05 l0_0 x17_1).f3), .int .i64 ((q05 l0_0 x17_1).f4), .slice (some ad130) ((q05 l0_0 x17_1).f5).length c128_5] 43 (0, 0)) (by (with_reducible repeat (first | refine kN ?_ _ | refine kD ?_ | refine kA ?_ _)); exact BK129.out) hg (Kd.R_ne HO_3.out BK129.out (by decide))); have n3_ := aS ((by rw [hw]; exact below_set (HB.out) GB40.out : Below w.heap.size w w44)); clear HO_3; clear BK124; clear BK129; clear HB; have HO_3 := n0_; have BK124 := n1_; have BK129 := n2_; have HB := n3_; clear n0_ n1_ n2_ n3_; clear hg hw hp_))
                     go_roundg kj17
                     case measure => have := HK1.out; have := HK2.out; have := HJ17.out; omega
                     case rel => exact ⟨(y134), (wrap64 (x25_2 + 1)), (by first | rfl | (simp; done) | simp [*]), H', ⟨by have := HK1.out; have := HK2.out; have := HJ17.out; omega⟩, ⟨by (with_reducible repeat (first | apply rA | apply rN | apply rD)); exact HO_3.out⟩, ⟨by (with_reducible repeat (first | refine kN ?_ _ | refine kD ?_ | refine kA ?_ _)); exact BK124.out⟩, ⟨by (with_reducible repeat (first | refine kN ?_ _ | refine kD ?_ | refine kA ?_ _)); exact BK129.out⟩, ⟨by repeat (first | (with_reducible first | exact HB.out | apply bA | apply bN | apply bD | refine bS ?_ GE124.out | refine bS ?_ GE129.out) | exact HB.out)⟩⟩
                    ·rw [if_neg c39] at H
                     exact absurd H (by simp)
                  ·rw [if_neg c35] at H
                   exact absurd H (by simp)
                 ·rw [if_neg c34] at H
                  exact absurd H (by simp)
                ·rw [if_neg c33] at H
                 have c33b0 : (x17_1 == 0) = false := beq_eq_false_iff_ne.mpr c33
                 have c33b1 : (x17_1 != 0) = true := bne_iff_ne.mpr c33
                 by_cases c45 : 0 ≤ (rd ((q05 l0_0 x17_1).f5) x25_2)
                 ·rw [if_pos c45] at H
                  have c45b0 : decide (0 ≤ (rd ((q05 l0_0 x17_1).f5) x25_2)) = true := decide_eq_true c45
                  clear c45
                  by_cases c46 : (rd ((q05 l0_0 x17_1).f5) x25_2) < (x3_2.length : Int)
                  ·rw [if_pos c46] at H
                   have c46b0 : decide ((rd ((q05 l0_0 x17_1).f5) x25_2) < (x3_2.length : Int)) = true := decide_eq_true c46
                   clear c46
                   obtain ⟨y135, hy135⟩ : ∃ y_ : List Bool, y_ = (x3_2.set ((rd ((q05 l0_0 x17_1).f5) x25_2) : Int).toNat true) := ⟨_, rfl⟩
                   replace H : (q0w.l1 kj17 y135 x17_1 l0_0 (l0_0.length : Int) x17_1 ((q05 l0_0 x17_1).f5) (((q05 l0_0 x17_1).f5).length : Int) (wrap64 (x25_2 + 1)) l0_0 a0_1) = some r := by first | (rw [hy135]; with_reducible exact H) | (have H2_ := (Option.bind_some _ _).symm.trans H; rw [hy135]; with_reducible exact H2_) | (have H2_ := (Option.bind_some _ _).symm.trans H; with_reducible exact H2_) | with_reducible exact H | (rw [hy135]; exact H) | exact H
                   have Ny135 := aS hy135
                   clear hy135
                   have H' := aS H
                   clear H
                   have p47 : 0 ≤ ((rd ((q05 l0_0 x17_1).f5) x25_2) : Int) := od (by first | (with_reducible assumption) | assumption)
                   have q47 : ((rd ((q05 l0_0 x17_1).f5) x25_2) : Int) < ((x3_2.length : Int) : Int) := od (by first | (with_reducible assumption) | assumption)
                   obtain ⟨go47, co47, eo47, gb47, gl47, cl47, HG47⟩ := Kd.R_form HO_3.out (by omega)
                   (first | cases eo47 | (injection eo47 with ea_ en_ ec_; (first | subst ea_ | (injection ea_ with ea_; subst ea_)); subst ec_; clear en_))
                   have GB47 := aS gb47
                   have GG47 := aS HG47
                   clear gb47 gl47 HG47
                   obtain ⟨hx47_0, hf47_0⟩ := Kd.R_celln false HO_3.out ((rd ((q05 l0_0 x17_1).f5) x25_2) : Int) p47 q47
                   replace p47 := eq_true p47
                   replace q47 := eq_true q47
                   have HP48 := Kd.R_putg HO_3.out ((rd ((q05 l0_0 x17_1).f5) x25_2) : Int) true
                   go_wp2_with (first | ((with_reducible refine gate_store (t := 4) (p := 68) rfl ?_); refine store_event (t := 4) (p := 68) (v := ?vo_w49) (w1 := (wc.setCell ⟨go47, ((rd ((q05 l0_0 x17_1).f5) x25_2) : Int).toNat, none⟩ (.bool true))) ?hg ?ho ?hn ?hr ?_; (case ho => rfl); (case hg => rfl); (case hn => rfl); (case hr => first | (go_simp; done) | (go_simp; rfl)); intro w49 hw; have hg : wc.grownBy w49 (some go47) := (by rw [hw]; exact HP48.2); have hp_ : Kd.R Kd.bool 4 w49 w.heap.size (fun _ => True) (.slice (some ⟨go47, 0, none⟩) x3_2.length co47) y135 := (by rw [hw, Ny135.out]; exact HP48.1); clear HP48; have n0_ := aS (hp_); have n1_ := aS (blk_grown (g := gb124) (o := .cells #[.slice (some ad128) l0_0.length c0_0, .bool a0_1] 24 (0, 0)) (by (with_reducible repeat (first | refine kN ?_ _ | refine kD ?_ | refine kA ?_ _)); exact BK124.out) hg (Kd.R_ne HO_3.out BK124.out (by decide))); have n2_ := aS (blk_grown (g := gb129) (o := .cells #[.int .i64 ((q05 l0_0 x17_1).f0), .string ((q05 l0_0 x17_1).f1), .slice A128_2 ((q05 l0_0 x17_1).f2).length c128_2, .string ((q05 l0_0 x17_1).f3), .int .i64 ((q05 l0_0 x17_1).f4), .slice (some ad130) ((q05 l0_0 x17_1).f5).length c128_5] 43 (0, 0)) (by (with_reducible repeat (first | refine kN ?_ _ | refine kD ?_ | refine kA ?_ _)); exact BK129.out) hg (Kd.R_ne HO_3.out BK129.out (by decide))); have n3_ := aS ((by rw [hw]; exact below_set (HB.out) GB47.out : Below w.heap.size w w49)); clear HO_3; clear BK124; clear BK129; clear HB; have HO_3 := n0_; have BK124 := n1_; have BK129 := n2_; have HB := n3_; clear n0_ n1_ n2_ n3_; clear hg hw hp_))
                   go_roundg kj17
                   case measure => have := HK1.out; have := HK2.out; have := HJ17.out; omega
                   case rel => exact ⟨(y135), (wrap64 (x25_2 + 1)), (by first | rfl | (simp; done) | simp [*]), H', ⟨by have := HK1.out; have := HK2.out; have := HJ17.out; omega⟩, ⟨by (with_reducible repeat (first | apply rA | apply rN | apply rD)); exact HO_3.out⟩, ⟨by (with_reducible repeat (first | refine kN ?_ _ | refine kD ?_ | refine kA ?_ _)); exact BK124.out⟩, ⟨by (with_reducible repeat (first | refine kN ?_ _ | refine kD ?_ | refine kA ?_ _)); exact BK129.out⟩, ⟨by repeat (first | (with_reducible first | exact HB.out | apply bA | apply bN | apply bD | refine bS ?_ GE124.out | refine bS ?_ GE129.out) | exact HB.out)⟩⟩
                  ·rw [if_neg c46] at H
                   exact absurd H (by simp)
                 ·rw [if_neg c45] at H
                  exact absurd H (by simp)
            ·rw [if_neg c17] at H
             exact absurd H (by simp)
           ·rw [if_neg c16] at H
            exact absurd H (by simp)
          ·rw [if_neg c15] at H
           have c15b0 : decide (x25_2 < (((q05 l0_0 x17_1).f5).length : Int)) = false := decide_eq_false c15
           clear c15
           have H' := aS H
           clear H
           go_wp2
           go_roundg k2
           case measure => have := HK1.out; have := HK2.out; omega
           case rel => exact ⟨(x3_2), (wrap64 (x17_1 + 1)), (by first | rfl | (simp; done) | simp [*]), H', ⟨by have := HK1.out; have := HK2.out; omega⟩, ⟨by (with_reducible repeat (first | apply rA | apply rN | apply rD)); exact HO_3.out⟩, ⟨by (with_reducible repeat (first | refine kN ?_ _ | refine kD ?_ | refine kA ?_ _)); exact BK124.out⟩, ⟨by repeat (first | (with_reducible first | exact HB.out | apply bA | apply bN | apply bD | refine bS ?_ GE124.out | refine bS ?_ GE129.out) | exact HB.out)⟩⟩
       ·rw [if_neg c11] at H
        exact absurd H (by simp)
      ·rw [if_neg c10] at H
       exact absurd H (by simp)
     ·rw [if_neg c9] at H
      have c9b0 : decide (x17_1 < (l0_0.length : Int)) = false := decide_eq_false c9
      clear c9
      have H' := aS H
      clear H
      have hcz50_0 : wr.cell? ⟨gb124, 0, none⟩ = some (.slice A0_0 l0_0.length c0_0) := (q02 BK124.out 0).trans rfl
      have hcz50_1 : wr.cell? ⟨gb124, 1, none⟩ = some (.bool a0_1) := (q02 BK124.out 1).trans rfl
      have hfz50_0 := q01 BK124.out 0
      have hfz50_1 := q01 BK124.out 1
      go_wp2
      go_loopg [74] k1 (fun kq v74 w' => ∃ (x74_2 : Int), v74 = .int .i64 x74_2 ∧ Aside0 (q0w.l2 kq x3_1 l0_0 (l0_0.length : Int) x74_2 l0_0 a0_1 = some r) ∧ Aside0 (kq ≤ k1) ∧ Aside0 (Kd.R Kd.bool 4 w' w.heap.size (fun _ => True) v126 x3_1) ∧ Aside0 (w'.heap[gb124]? = some (.cells #[(.slice A0_0 l0_0.length c0_0), .bool a0_1] 24 (0, 0))) ∧ Aside0 (Below w.heap.size w w'))
      case atStart => exact ⟨(0), (by first | rfl | (simp; done) | simp [*]), H', ⟨Nat.le_refl _⟩, ⟨by (with_reducible repeat (first | apply rA | apply rN | apply rD)); exact HO_3.out⟩, ⟨by (with_reducible repeat (first | refine kN ?_ _ | refine kD ?_ | refine kA ?_ _)); exact BK124.out⟩, ⟨by repeat (first | (with_reducible first | exact HB.out | apply bA | apply bN | apply bD | refine bS ?_ GE124.out) | exact HB.out)⟩⟩
      case round =>
       clear H'
       try clear c1
       try clear p1
       try clear q1
       try clear hx1
       try clear c2
       try clear c2b0
       try clear c2b1
       try clear p2
       try clear c3
       try clear c3b0
       try clear c3b1
       try clear c4
       try clear p4
       try clear q4
       try clear hx4
       try clear hf4
       try clear p6
       try clear c9
       try clear c9b0
       try clear c10
       try clear c10b0
       try clear c11
       try clear c11b0
       try clear c12
       try clear p12
       try clear q12
       try clear hx12
       try clear c13
       try clear p13
       try clear q13
       try clear hx13
       try clear c15
       try clear c15b0
       try clear c16
       try clear c16b0
       try clear c17
       try clear c17b0
       try clear c19
       try clear c19b0
       try clear c20
       try clear c20b0
       try clear c22
       try clear c22b0
       try clear c23
       try clear c23b0
       try clear c24
       try clear c24b0
       try clear c24b1
       try clear c25
       try clear c25b0
       try clear c27
       try clear c30
       try clear c32
       try clear c33
       try clear c33b0
       try clear c33b1
       try clear c34
       try clear c34b0
       try clear c35
       try clear c35b0
       try clear c36
       try clear c36b0
       try clear c36b1
       try clear c37
       try clear c39
       try clear c39b0
       try clear p40
       try clear q40
       try clear hx40
       try clear hf40
       try clear c41
       try clear c45
       try clear c45b0
       try clear c46
       try clear c46b0
       try clear p47
       try clear q47
       try clear hx47
       try clear hf47
       try clear hcz14_0
       try clear hcz14_1
       try clear hcz14_2
       try clear hcz14_3
       try clear hcz14_4
       try clear hcz14_5
       try clear hcz28_0
       try clear hcz28_1
       try clear hcz31_0
       try clear hcz31_1
       try clear hcz38_0
       try clear hcz38_1
       try clear hcz42_0
       try clear hcz42_1
       try clear hcz50_0
       try clear hcz50_1
       try clear hcz5_0
       try clear hcz5_1
       try clear hcz8_0
       try clear hcz8_1
       try clear hfz14_0
       try clear hfz14_1
       try clear hfz14_2
       try clear hfz14_3
       try clear hfz14_4
       try clear hfz14_5
       try clear hfz28_0
       try clear hfz28_1
       try clear hfz31_0
       try clear hfz31_1
       try clear hfz38_0
       try clear hfz38_1
       try clear hfz42_0
       try clear hfz42_1
       try clear hfz50_0
       try clear hfz50_1
       try clear hfz5_0
       try clear hfz5_1
       try clear hfz8_0
       try clear hfz8_1
       try clear hx128_0
       try clear hx128_1
       try clear hx128_2
       try clear hx128_3
       try clear hx128_4
       try clear hx128_5
       try clear hx130_0
       try clear hx131_0
       try clear hx131_1
       try clear hx131_2
       try clear hx131_3
       try clear hx131_4
       try clear hx131_5
       try clear hx132_0
       try clear hx133_0
       try clear hx133_1
       try clear hx133_2
       try clear hx133_3
       try clear hx133_4
       try clear hx133_5
       try clear hx40_0
       try clear hx47_0
       try clear p1
       try clear p12
       try clear p128
       try clear p13
       try clear p130
       try clear p131
       try clear p132
       try clear p133
       try clear p2
       try clear p40
       try clear p47
       try clear q1
       try clear q12
       try clear q128
       try clear q13
       try clear q130
       try clear q131
       try clear q132
       try clear q133
       try clear q40
       try clear q47
       obtain ⟨x74_2, rfl, HA, HK2, HO_3, BK124, HB⟩ := hrel
       cases gk with
       | zero => exact absurd HA.out (by simp [q0w.l2])
       | succ k2 =>
        have H := HA.out
        clear HA
        simp only [q0w.l2] at H
        by_cases c51 : x74_2 < (l0_0.length : Int)
        ·rw [if_pos c51] at H
         have c51b0 : decide (x74_2 < (l0_0.length : Int)) = true := decide_eq_true c51
         clear c51
         by_cases c52 : 0 ≤ x74_2
         ·rw [if_pos c52] at H
          have c52b0 : decide (0 ≤ x74_2) = true := decide_eq_true c52
          clear c52
          by_cases c53 : x74_2 < (l0_0.length : Int)
          ·rw [if_pos c53] at H
           have c53b0 : decide (x74_2 < (l0_0.length : Int)) = true := decide_eq_true c53
           clear c53
           by_cases c54 : ((q05 l0_0 x74_2).f4) = (-1)
           ·rw [if_pos c54] at H
            have c54b0 : (((q05 l0_0 x74_2).f4) == (-1)) = true := beq_iff_eq.mpr c54
            have c54b1 : (((q05 l0_0 x74_2).f4) != (-1)) = false := bne_eq_false_iff_eq.mpr c54
            clear c54
            have H' := aS H
            clear H
            have p136 : 0 ≤ (x74_2 : Int) := od (by first | (with_reducible assumption) | assumption)
            have q136 : x74_2 < (l0_0.length : Int) := od (by first | (with_reducible assumption) | assumption)
            obtain ⟨ad136, A136_2, c136_2, A136_5, c136_5, e136, hx136_0, hx136_1, hx136_2, hx136_3, hx136_4, hx136_5, hl136_2, hi136_2, hl136_5, hi136_5⟩ := q1j HR0_0.out x74_2 p136 q136
            cases e136
            replace hx136_0 := (HB.out.cell (World.block_lt_of_cell? w _ hx136_0)).trans hx136_0
            replace hx136_1 := (HB.out.cell (World.block_lt_of_cell? w _ hx136_1)).trans hx136_1
            replace hx136_2 := (HB.out.cell (World.block_lt_of_cell? w _ hx136_2)).trans hx136_2
            replace hx136_3 := (HB.out.cell (World.block_lt_of_cell? w _ hx136_3)).trans hx136_3
            replace hx136_4 := (HB.out.cell (World.block_lt_of_cell? w _ hx136_4)).trans hx136_4
            replace hx136_5 := (HB.out.cell (World.block_lt_of_cell? w _ hx136_5)).trans hx136_5
            have HR136_2 := aS hi136_2
            have HC136_2 := aS hl136_2
            clear hi136_2 hl136_2
            have HR136_5 := aS hi136_5
            have HC136_5 := aS hl136_5
            clear hi136_5 hl136_5
            replace p136 := eq_true p136
            replace q136 := eq_true q136
            go_wp2_with (first | ((with_reducible refine q15 (N := 9) rfl ?_); (try (refine q1t (by rfl) ?_; dsimp only)); refine q0y ?hg (N := 9) ?hd (cs := #[.int .i64 0, .string (⟨#[]⟩ : ByteArray), .slice none 0 0, .string (⟨#[]⟩ : ByteArray), .int .i64 0, .slice none 0 0]) (t := 43) ?hr ?_; (case hd => rfl); (case hg => rfl); (case hr => first | (go_simp; done) | (go_simp; rfl)); intro gb137 hg w55 hbox hb; have n0_ := aS (Kd.R_below (by (with_reducible repeat (first | apply rA | apply rN | apply rD)); exact HO_3.out) hb); have n1_ := aS (q16 (g := gb124) (o := .cells #[.slice (some ad136) l0_0.length c0_0, .bool a0_1] 24 (0, 0)) (by (with_reducible repeat (first | refine kN ?_ _ | refine kD ?_ | refine kA ?_ _)); exact BK124.out) hb); have n2_ := aS (q09 (by repeat (first | (with_reducible first | exact HB.out | apply bA | apply bN | apply bD | refine bS ?_ GE124.out) | exact HB.out)) hb); have n3_ := aS (hbox); have n4_ := aS ((by rw [hg]; exact (q0k (by repeat (first | (with_reducible first | exact HB.out | apply bA | apply bN | apply bD | refine bS ?_ GE124.out) | exact HB.out))) : w.heap.size ≤ gb137)); have n5_ := aS ((by rw [hg]; exact (q0k (by repeat (first | (with_reducible first | exact HB.out | apply bA | apply bN | apply bD | refine bS ?_ GE124.out) | exact HB.out))) : w.heap.size ≤ gb137)); have n6_ := aS ((by rw [hg]; exact Nat.ne_of_lt (q2i (g := gb124) (o := .cells #[.slice (some ad136) l0_0.length c0_0, .bool a0_1] 24 (0, 0)) (by (with_reducible repeat (first | refine kN ?_ _ | refine kD ?_ | refine kA ?_ _)); exact BK124.out)) : gb124 ≠ gb137)); have n7_ := aS ((by rw [hg]; exact Nat.ne_of_gt (q2i (g := gb124) (o := .cells #[.slice (some ad136) l0_0.length c0_0, .bool a0_1] 24 (0, 0)) (by (with_reducible repeat (first | refine kN ?_ _ | refine kD ?_ | refine kA ?_ _)); exact BK124.out)) : gb137 ≠ gb124)); clear HO_3; clear BK124; clear HB; have HO_3 := n0_; have BK124 := n1_; have HB := n2_; have BK137 := n3_; have GW137 := n4_; have GE137 := n5_; have NB124_137 := n6_; have NB137_124 := n7_; clear n0_ n1_ n2_ n3_ n4_ n5_ n6_ n7_; clear hb hbox hg; have hnb56 := NB137_124.out; have hnc56 := NB124_137.out; have hcz57_0 : w55.cell? ⟨gb137, 0, none⟩ = some (.int .i64 0) := (q02 BK137.out 0).trans rfl; have hcz57_1 : w55.cell? ⟨gb137, 1, none⟩ = some (.string (⟨#[]⟩ : ByteArray)) := (q02 BK137.out 1).trans rfl; have hcz57_2 : w55.cell? ⟨gb137, 2, none⟩ = some (.slice none 0 0) := (q02 BK137.out 2).trans rfl; have hcz57_3 : w55.cell? ⟨gb137, 3, none⟩ = some (.string (⟨#[]⟩ : ByteArray)) := (q02 BK137.out 3).trans rfl; have hcz57_4 : w55.cell? ⟨gb137, 4, none⟩ = some (.int .i64 0) := (q02 BK137.out 4).trans rfl; have hcz57_5 : w55.cell? ⟨gb137, 5, none⟩ = some (.slice none 0 0) := (q02 BK137.out 5).trans rfl; have hfz57_0 := q01 BK137.out 0; have hfz57_1 := q01 BK137.out 1; have hfz57_2 := q01 BK137.out 2; have hfz57_3 := q01 BK137.out 3; have hfz57_4 := q01 BK137.out 4; have hfz57_5 := q01 BK137.out 5))
            go_roundg k2
            case measure => have := HK1.out; have := HK2.out; omega
            case rel => exact ⟨(wrap64 (x74_2 + 1)), (by first | rfl | (simp; done) | simp [*]), H', ⟨by have := HK1.out; have := HK2.out; omega⟩, ⟨by (with_reducible repeat (first | apply rA | apply rN | apply rD)); exact Kd.R_mono (Kd.R_far (p := ⟨gb137, 5, none⟩) (Kd.R_far (p := ⟨gb137, 4, none⟩) (Kd.R_far (p := ⟨gb137, 3, none⟩) (Kd.R_far (p := ⟨gb137, 2, none⟩) (Kd.R_far (p := ⟨gb137, 1, none⟩) (Kd.R_far (p := ⟨gb137, 0, none⟩) (Kd.R_types HO_3.out BK137.out (by decide)) (fun _ hk => hk.2) (.int .i64 ((q05 l0_0 x74_2).f0))) (fun _ hk => hk.2) (.string ((q05 l0_0 x74_2).f1))) (fun _ hk => hk.2) (.slice A136_2 ((q05 l0_0 x74_2).f2).length c136_2)) (fun _ hk => hk.2) (.string ((q05 l0_0 x74_2).f3))) (fun _ hk => hk.2) (.int .i64 ((q05 l0_0 x74_2).f4))) (fun _ hk => hk.2) (.slice A136_5 ((q05 l0_0 x74_2).f5).length c136_5)) (fun _ hk => trivial)⟩, ⟨by (with_reducible repeat (first | refine kN ?_ _ | refine kD ?_ | refine kA ?_ _)); refine q1q ?_ NB124_137.out _; (with_reducible repeat (first | refine kN ?_ _ | refine kD ?_ | refine kA ?_ _)); refine q1q ?_ NB124_137.out _; (with_reducible repeat (first | refine kN ?_ _ | refine kD ?_ | refine kA ?_ _)); refine q1q ?_ NB124_137.out _; (with_reducible repeat (first | refine kN ?_ _ | refine kD ?_ | refine kA ?_ _)); refine q1q ?_ NB124_137.out _; (with_reducible repeat (first | refine kN ?_ _ | refine kD ?_ | refine kA ?_ _)); refine q1q ?_ NB124_137.out _; (with_reducible repeat (first | refine kN ?_ _ | refine kD ?_ | refine kA ?_ _)); refine q1q ?_ NB124_137.out _; (with_reducible repeat (first | refine kN ?_ _ | refine kD ?_ | refine kA ?_ _)); exact BK124.out⟩, ⟨by repeat (first | (with_reducible first | exact HB.out | apply bA | apply bN | apply bD | refine bS ?_ GE124.out | refine bS ?_ GE137.out) | exact HB.out)⟩⟩
           ·rw [if_neg c54] at H
            have c54b0 : (((q05 l0_0 x74_2).f4) == (-1)) = false := beq_eq_false_iff_ne.mpr c54
            have c54b1 : (((q05 l0_0 x74_2).f4) != (-1)) = true := bne_iff_ne.mpr c54
            by_cases c58 : x74_2 < (x3_1.length : Int)
            ·rw [if_pos c58] at H
             have c58b0 : decide (x74_2 < (x3_1.length : Int)) = true := decide_eq_true c58
             clear c58
             obtain ⟨bq59, hbq59⟩ : ∃ b_ : Bool, b_ = (rdOf false x3_1 x74_2) := ⟨_, rfl⟩
             replace H : (if bq59 = true then (q0w.l2 k2 x3_1 l0_0 (l0_0.length : Int) (wrap64 (x74_2 + 1)) l0_0 a0_1) else (some 3)) = some r := by rw [← hbq59] at H; exact H
             have Nbq59 := aS hbq59
             clear hbq59
             by_cases c60 : bq59 = true
             ·subst c60
              have H1 : (q0w.l2 k2 x3_1 l0_0 (l0_0.length : Int) (wrap64 (x74_2 + 1)) l0_0 a0_1) = some r := by rw [if_pos rfl] at H; exact H
              clear H
              have H := H1
              clear H1
              have H' := aS H
              clear H
              have p136 : 0 ≤ (x74_2 : Int) := od (by first | (with_reducible assumption) | assumption)
              have q136 : x74_2 < (l0_0.length : Int) := od (by first | (with_reducible assumption) | assumption)
              obtain ⟨ad136, A136_2, c136_2, A136_5, c136_5, e136, hx136_0, hx136_1, hx136_2, hx136_3, hx136_4, hx136_5, hl136_2, hi136_2, hl136_5, hi136_5⟩ := q1j HR0_0.out x74_2 p136 q136
              cases e136
              replace hx136_0 := (HB.out.cell (World.block_lt_of_cell? w _ hx136_0)).trans hx136_0
              replace hx136_1 := (HB.out.cell (World.block_lt_of_cell? w _ hx136_1)).trans hx136_1
              replace hx136_2 := (HB.out.cell (World.block_lt_of_cell? w _ hx136_2)).trans hx136_2
              replace hx136_3 := (HB.out.cell (World.block_lt_of_cell? w _ hx136_3)).trans hx136_3
              replace hx136_4 := (HB.out.cell (World.block_lt_of_cell? w _ hx136_4)).trans hx136_4
              replace hx136_5 := (HB.out.cell (World.block_lt_of_cell? w _ hx136_5)).trans hx136_5
              have HR136_2 := aS hi136_2
              have HC136_2 := aS hl136_2
              clear hi136_2 hl136_2
              have HR136_5 := aS hi136_5
              have HC136_5 := aS hl136_5
              clear hi136_5 hl136_5
              replace p136 := eq_true p136
              replace q136 := eq_true q136
              go_wp2_with (first | ((with_reducible refine q15 (N := 9) rfl ?_); (try (refine q1t (by rfl) ?_; dsimp only)); refine q0y ?hg (N := 9) ?hd (cs := #[.int .i64 0, .string (⟨#[]⟩ : ByteArray), .slice none 0 0, .string (⟨#[]⟩ : ByteArray), .int .i64 0, .slice none 0 0]) (t := 43) ?hr ?_; (case hd => rfl); (case hg => rfl); (case hr => first | (go_simp; done) | (go_simp; rfl)); intro gb137 hg w61 hbox hb; have n0_ := aS (Kd.R_below (by (with_reducible repeat (first | apply rA | apply rN | apply rD)); exact HO_3.out) hb); have n1_ := aS (q16 (g := gb124) (o := .cells #[.slice (some ad136) l0_0.length c0_0, .bool a0_1] 24 (0, 0)) (by (with_reducible repeat (first | refine kN ?_ _ | refine kD ?_ | refine kA ?_ _)); exact BK124.out) hb); have n2_ := aS (q09 (by repeat (first | (with_reducible first | exact HB.out | apply bA | apply bN | apply bD | refine bS ?_ GE124.out) | exact HB.out)) hb); have n3_ := aS (hbox); have n4_ := aS ((by rw [hg]; exact (q0k (by repeat (first | (with_reducible first | exact HB.out | apply bA | apply bN | apply bD | refine bS ?_ GE124.out) | exact HB.out))) : w.heap.size ≤ gb137)); have n5_ := aS ((by rw [hg]; exact (q0k (by repeat (first | (with_reducible first | exact HB.out | apply bA | apply bN | apply bD | refine bS ?_ GE124.out) | exact HB.out))) : w.heap.size ≤ gb137)); have n6_ := aS ((by rw [hg]; exact Nat.ne_of_lt (q2i (g := gb124) (o := .cells #[.slice (some ad136) l0_0.length c0_0, .bool a0_1] 24 (0, 0)) (by (with_reducible repeat (first | refine kN ?_ _ | refine kD ?_ | refine kA ?_ _)); exact BK124.out)) : gb124 ≠ gb137)); have n7_ := aS ((by rw [hg]; exact Nat.ne_of_gt (q2i (g := gb124) (o := .cells #[.slice (some ad136) l0_0.length c0_0, .bool a0_1] 24 (0, 0)) (by (with_reducible repeat (first | refine kN ?_ _ | refine kD ?_ | refine kA ?_ _)); exact BK124.out)) : gb137 ≠ gb124)); clear HO_3; clear BK124; clear HB; have HO_3 := n0_; have BK124 := n1_; have HB := n2_; have BK137 := n3_; have GW137 := n4_; have GE137 := n5_; have NB124_137 := n6_; have NB137_124 := n7_; clear n0_ n1_ n2_ n3_ n4_ n5_ n6_ n7_; clear hb hbox hg; have hnb62 := NB137_124.out; have hnc62 := NB124_137.out; have hcz63_0 : w61.cell? ⟨gb137, 0, none⟩ = some (.int .i64 0) := (q02 BK137.out 0).trans rfl; have hcz63_1 : w61.cell? ⟨gb137, 1, none⟩ = some (.string (⟨#[]⟩ : ByteArray)) := (q02 BK137.out 1).trans rfl; have hcz63_2 : w61.cell? ⟨gb137, 2, none⟩ = some (.slice none 0 0) := (q02 BK137.out 2).trans rfl; have hcz63_3 : w61.cell? ⟨gb137, 3, none⟩ = some (.string (⟨#[]⟩ : ByteArray)) := (q02 BK137.out 3).trans rfl; have hcz63_4 : w61.cell? ⟨gb137, 4, none⟩ = some (.int .i64 0) := (q02 BK137.out 4).trans rfl; have hcz63_5 : w61.cell? ⟨gb137, 5, none⟩ = some (.slice none 0 0) := (q02 BK137.out 5).trans rfl; have hfz63_0 := q01 BK137.out 0; have hfz63_1 := q01 BK137.out 1; have hfz63_2 := q01 BK137.out 2; have hfz63_3 := q01 BK137.out 3; have hfz63_4 := q01 BK137.out 4; have hfz63_5 := q01 BK137.out 5; obtain ⟨Ao64, co64, eo64⟩ := Kd.R_slice HO_3.out; subst eo64; have p138 : 0 ≤ (x74_2 : Int) := od (by first | (with_reducible assumption) | assumption); have q138 : x74_2 < (x3_1.length : Int) := od (by first | (with_reducible assumption) | assumption); obtain ⟨ad138, e138, hx138_0⟩ := Kd.at_bool (Kd.R_reads' HO_3.out).2.2 x74_2 p138 q138; (try rw [← Nbq59.out] at hx138_0); cases e138; have hn138_0 : ad138.block ≠ gb137 := Kd.own_blk (Kd.R_ne HO_3.out BK137.out (by decide)); have hn138_1 : ad138.block ≠ gb137 := Kd.own_blk (Kd.R_ne HO_3.out BK137.out (by decide)); have hn138_2 : ad138.block ≠ gb137 := Kd.own_blk (Kd.R_ne HO_3.out BK137.out (by decide)); have hn138_3 : ad138.block ≠ gb137 := Kd.own_blk (Kd.R_ne HO_3.out BK137.out (by decide)); have hn138_4 : ad138.block ≠ gb137 := Kd.own_blk (Kd.R_ne HO_3.out BK137.out (by decide)); have hn138_5 : ad138.block ≠ gb137 := Kd.own_blk (Kd.R_ne HO_3.out BK137.out (by decide)); replace hx138_0 := (q2t (p := ⟨gb137, 0, none⟩) (by first | (rw [q1l]; exact hn138_0) | (show (Addr.add _ _).block ≠ _; rw [q1l]; exact hn138_0) | exact hn138_0) (.int .i64 ((q05 l0_0 x74_2).f0))).trans hx138_0; replace hx138_0 := (q2t (p := ⟨gb137, 1, none⟩) (by first | (rw [q1l]; exact hn138_1) | (show (Addr.add _ _).block ≠ _; rw [q1l]; exact hn138_1) | exact hn138_1) (.string ((q05 l0_0 x74_2).f1))).trans hx138_0; replace hx138_0 := (q2t (p := ⟨gb137, 2, none⟩) (by first | (rw [q1l]; exact hn138_2) | (show (Addr.add _ _).block ≠ _; rw [q1l]; exact hn138_2) | exact hn138_2) (.slice A136_2 ((q05 l0_0 x74_2).f2).length c136_2)).trans hx138_0; replace hx138_0 := (q2t (p := ⟨gb137, 3, none⟩) (by first | (rw [q1l]; exact hn138_3) | (show (Addr.add _ _).block ≠ _; rw [q1l]; exact hn138_3) | exact hn138_3) (.string ((q05 l0_0 x74_2).f3))).trans hx138_0; replace hx138_0 := (q2t (p := ⟨gb137, 4, none⟩) (by first | (rw [q1l]; exact hn138_4) | (show (Addr.add _ _).block ≠ _; rw [q1l]; exact hn138_4) | exact hn138_4) (.int .i64 ((q05 l0_0 x74_2).f4))).trans hx138_0; replace hx138_0 := (q2t (p := ⟨gb137, 5, none⟩) (by first | (rw [q1l]; exact hn138_5) | (show (Addr.add _ _).block ≠ _; rw [q1l]; exact hn138_5) | exact hn138_5) (.slice A136_5 ((q05 l0_0 x74_2).f5).length c136_5)).trans hx138_0; clear hn138_0; clear hn138_1; clear hn138_2; clear hn138_3; clear hn138_4; clear hn138_5; replace p138 := eq_true p138; replace q138 := eq_true q138))
              go_roundg k2
              case measure => have := HK1.out; have := HK2.out; omega
              case rel => exact ⟨(wrap64 (x74_2 + 1)), (by first | rfl | (simp; done) | simp [*]), H', ⟨by have := HK1.out; have := HK2.out; omega⟩, ⟨by (with_reducible repeat (first | apply rA | apply rN | apply rD)); exact Kd.R_mono (Kd.R_far (p := ⟨gb137, 5, none⟩) (Kd.R_far (p := ⟨gb137, 4, none⟩) (Kd.R_far (p := ⟨gb137, 3, none⟩) (Kd.R_far (p := ⟨gb137, 2, none⟩) (Kd.R_far (p := ⟨gb137, 1, none⟩) (Kd.R_far (p := ⟨gb137, 0, none⟩) (Kd.R_types HO_3.out BK137.out (by decide)) (fun _ hk => hk.2) (.int .i64 ((q05 l0_0 x74_2).f0))) (fun _ hk => hk.2) (.string ((q05 l0_0 x74_2).f1))) (fun _ hk => hk.2) (.slice A136_2 ((q05 l0_0 x74_2).f2).length c136_2)) (fun _ hk => hk.2) (.string ((q05 l0_0 x74_2).f3))) (fun _ hk => hk.2) (.int .i64 ((q05 l0_0 x74_2).f4))) (fun _ hk => hk.2) (.slice A136_5 ((q05 l0_0 x74_2).f5).length c136_5)) (fun _ hk => trivial)⟩, ⟨by (with_reducible repeat (first | refine kN ?_ _ | refine kD ?_ | refine kA ?_ _)); refine q1q ?_ NB124_137.out _; (with_reducible repeat (first | refine kN ?_ _ | refine kD ?_ | refine kA ?_ _)); refine q1q ?_ NB124_137.out _; (with_reducible repeat (first | refine kN ?_ _ | refine kD ?_ | refine kA ?_ _)); refine q1q ?_ NB124_137.out _; (with_reducible repeat (first | refine kN ?_ _ | refine kD ?_ | refine kA ?_ _)); refine q1q ?_ NB124_137.out _; (with_reducible repeat (first | refine kN ?_ _ | refine kD ?_ | refine kA ?_ _)); refine q1q ?_ NB124_137.out _; (with_reducible repeat (first | refine kN ?_ _ | refine kD ?_ | refine kA ?_ _)); refine q1q ?_ NB124_137.out _; (with_reducible repeat (first | refine kN ?_ _ | refine kD ?_ | refine kA ?_ _)); exact BK124.out⟩, ⟨by repeat (first | (with_reducible first | exact HB.out | apply bA | apply bN | apply bD | refine bS ?_ GE124.out | refine bS ?_ GE137.out) | exact HB.out)⟩⟩
             ·replace c60 := Bool.eq_false_iff.mpr c60
              subst c60
              have H1 : (some 3) = some r := by rw [if_neg (show ¬ (false = true) by decide)] at H; exact H
              clear H
              have H := H1
              clear H1
              obtain rfl := Option.some.inj H
              have p136 : 0 ≤ (x74_2 : Int) := od (by first | (with_reducible assumption) | assumption)
              have q136 : x74_2 < (l0_0.length : Int) := od (by first | (with_reducible assumption) | assumption)
              obtain ⟨ad136, A136_2, c136_2, A136_5, c136_5, e136, hx136_0, hx136_1, hx136_2, hx136_3, hx136_4, hx136_5, hl136_2, hi136_2, hl136_5, hi136_5⟩ := q1j HR0_0.out x74_2 p136 q136
              cases e136
              replace hx136_0 := (HB.out.cell (World.block_lt_of_cell? w _ hx136_0)).trans hx136_0
              replace hx136_1 := (HB.out.cell (World.block_lt_of_cell? w _ hx136_1)).trans hx136_1
              replace hx136_2 := (HB.out.cell (World.block_lt_of_cell? w _ hx136_2)).trans hx136_2
              replace hx136_3 := (HB.out.cell (World.block_lt_of_cell? w _ hx136_3)).trans hx136_3
              replace hx136_4 := (HB.out.cell (World.block_lt_of_cell? w _ hx136_4)).trans hx136_4
              replace hx136_5 := (HB.out.cell (World.block_lt_of_cell? w _ hx136_5)).trans hx136_5
              have HR136_2 := aS hi136_2
              have HC136_2 := aS hl136_2
              clear hi136_2 hl136_2
              have HR136_5 := aS hi136_5
              have HC136_5 := aS hl136_5
              clear hi136_5 hl136_5
              replace p136 := eq_true p136
              replace q136 := eq_true q136
              go_wp2_with (first | ((with_reducible refine q15 (N := 9) rfl ?_); (try (refine q1t (by rfl) ?_; dsimp only)); refine q0y ?hg (N := 9) ?hd (cs := #[.int .i64 0, .string (⟨#[]⟩ : ByteArray), .slice none 0 0, .string (⟨#[]⟩ : ByteArray), .int .i64 0, .slice none 0 0]) (t := 43) ?hr ?_; (case hd => rfl); (case hg => rfl); (case hr => first | (go_simp; done) | (go_simp; rfl)); intro gb137 hg w65 hbox hb; have n0_ := aS (Kd.R_below (by (with_reducible repeat (first | apply rA | apply rN | apply rD)); exact HO_3.out) hb); have n1_ := aS (q16 (g := gb124) (o := .cells #[.slice (some ad136) l0_0.length c0_0, .bool a0_1] 24 (0, 0)) (by (with_reducible repeat (first | refine kN ?_ _ | refine kD ?_ | refine kA ?_ _)); exact BK124.out) hb); have n2_ := aS (q09 (by repeat (first | (with_reducible first | exact HB.out | apply bA | apply bN | apply bD | refine bS ?_ GE124.out) | exact HB.out)) hb); have n3_ := aS (hbox); have n4_ := aS ((by rw [hg]; exact (q0k (by repeat (first | (with_reducible first | exact HB.out | apply bA | apply bN | apply bD | refine bS ?_ GE124.out) | exact HB.out))) : w.heap.size ≤ gb137)); have n5_ := aS ((by rw [hg]; exact (q0k (by repeat (first | (with_reducible first | exact HB.out | apply bA | apply bN | apply bD | refine bS ?_ GE124.out) | exact HB.out))) : w.heap.size ≤ gb137)); have n6_ := aS ((by rw [hg]; exact Nat.ne_of_lt (q2i (g := gb124) (o := .cells #[.slice (some ad136) l0_0.length c0_0, .bool a0_1] 24 (0, 0)) (by (with_reducible repeat (first | refine kN ?_ _ | refine kD ?_ | refine kA ?_ _)); exact BK124.out)) : gb124 ≠ gb137)); have n7_ := aS ((by rw [hg]; exact Nat.ne_of_gt (q2i (g := gb124) (o := .cells #[.slice (some ad136) l0_0.length c0_0, .bool a0_1] 24 (0, 0)) (by (with_reducible repeat (first | refine kN ?_ _ | refine kD ?_ | refine kA ?_ _)); exact BK124.out)) : gb137 ≠ gb124)); clear HO_3; clear BK124; clear HB; have HO_3 := n0_; have BK124 := n1_; have HB := n2_; have BK137 := n3_; have GW137 := n4_; have GE137 := n5_; have NB124_137 := n6_; have NB137_124 := n7_; clear n0_ n1_ n2_ n3_ n4_ n5_ n6_ n7_; clear hb hbox hg; have hnb66 := NB137_124.out; have hnc66 := NB124_137.out; have hcz67_0 : w65.cell? ⟨gb137, 0, none⟩ = some (.int .i64 0) := (q02 BK137.out 0).trans rfl; have hcz67_1 : w65.cell? ⟨gb137, 1, none⟩ = some (.string (⟨#[]⟩ : ByteArray)) := (q02 BK137.out 1).trans rfl; have hcz67_2 : w65.cell? ⟨gb137, 2, none⟩ = some (.slice none 0 0) := (q02 BK137.out 2).trans rfl; have hcz67_3 : w65.cell? ⟨gb137, 3, none⟩ = some (.string (⟨#[]⟩ : ByteArray)) := (q02 BK137.out 3).trans rfl; have hcz67_4 : w65.cell? ⟨gb137, 4, none⟩ = some (.int .i64 0) := (q02 BK137.out 4).trans rfl; have hcz67_5 : w65.cell? ⟨gb137, 5, none⟩ = some (.slice none 0 0) := (q02 BK137.out 5).trans rfl; have hfz67_0 := q01 BK137.out 0; have hfz67_1 := q01 BK137.out 1; have hfz67_2 := q01 BK137.out 2; have hfz67_3 := q01 BK137.out 3; have hfz67_4 := q01 BK137.out 4; have hfz67_5 := q01 BK137.out 5; obtain ⟨Ao68, co68, eo68⟩ := Kd.R_slice HO_3.out; subst eo68; have p138 : 0 ≤ (x74_2 : Int) := od (by first | (with_reducible assumption) | assumption); have q138 : x74_2 < (x3_1.length : Int) := od (by first | (with_reducible assumption) | assumption); obtain ⟨ad138, e138, hx138_0⟩ := Kd.at_bool (Kd.R_reads' HO_3.out).2.2 x74_2 p138 q138; (try rw [← Nbq59.out] at hx138_0); cases e138; have hn138_0 : ad138.block ≠ gb137 := Kd.own_blk (Kd.R_ne HO_3.out BK137.out (by decide)); have hn138_1 : ad138.block ≠ gb137 := Kd.own_blk (Kd.R_ne HO_3.out BK137.out (by decide)); have hn138_2 : ad138.block ≠ gb137 := Kd.own_blk (Kd.R_ne HO_3.out BK137.out (by decide)); have hn138_3 : ad138.block ≠ gb137 := Kd.own_blk (Kd.R_ne HO_3.out BK137.out (by decide)); have hn138_4 : ad138.block ≠ gb137 := Kd.own_blk (Kd.R_ne HO_3.out BK137.out (by decide)); have hn138_5 : ad138.block ≠ gb137 := Kd.own_blk (Kd.R_ne HO_3.out BK137.out (by decide)); replace hx138_0 := (q2t (p := ⟨gb137, 0, none⟩) (by first | (rw [q1l]; exact hn138_0) | (show (Addr.add _ _).block ≠ _; rw [q1l]; exact hn138_0) | exact hn138_0) (.int .i64 ((q05 l0_0 x74_2).f0))).trans hx138_0; replace hx138_0 := (q2t (p := ⟨gb137, 1, none⟩) (by first | (rw [q1l]; exact hn138_1) | (show (Addr.add _ _).block ≠ _; rw [q1l]; exact hn138_1) | exact hn138_1) (.string ((q05 l0_0 x74_2).f1))).trans hx138_0; replace hx138_0 := (q2t (p := ⟨gb137, 2, none⟩) (by first | (rw [q1l]; exact hn138_2) | (show (Addr.add _ _).block ≠ _; rw [q1l]; exact hn138_2) | exact hn138_2) (.slice A136_2 ((q05 l0_0 x74_2).f2).length c136_2)).trans hx138_0; replace hx138_0 := (q2t (p := ⟨gb137, 3, none⟩) (by first | (rw [q1l]; exact hn138_3) | (show (Addr.add _ _).block ≠ _; rw [q1l]; exact hn138_3) | exact hn138_3) (.string ((q05 l0_0 x74_2).f3))).trans hx138_0; replace hx138_0 := (q2t (p := ⟨gb137, 4, none⟩) (by first | (rw [q1l]; exact hn138_4) | (show (Addr.add _ _).block ≠ _; rw [q1l]; exact hn138_4) | exact hn138_4) (.int .i64 ((q05 l0_0 x74_2).f4))).trans hx138_0; replace hx138_0 := (q2t (p := ⟨gb137, 5, none⟩) (by first | (rw [q1l]; exact hn138_5) | (show (Addr.add _ _).block ≠ _; rw [q1l]; exact hn138_5) | exact hn138_5) (.slice A136_5 ((q05 l0_0 x74_2).f5).length c136_5)).trans hx138_0; clear hn138_0; clear hn138_1; clear hn138_2; clear hn138_3; clear hn138_4; clear hn138_5; replace p138 := eq_true p138; replace q138 := eq_true q138))
              go_ret
              exact ⟨by first | rfl | (simp [q0b, q0a] <;> rfl) | (simp [*, q0b, q0a] <;> rfl), by repeat (first | (with_reducible first | exact HB.out | apply bA | apply bN | apply bD | refine bS ?_ GE124.out | refine bS ?_ GE137.out) | exact HB.out)⟩
            ·rw [if_neg c58] at H
             exact absurd H (by simp)
          ·rw [if_neg c53] at H
           exact absurd H (by simp)
         ·rw [if_neg c52] at H
          exact absurd H (by simp)
        ·rw [if_neg c51] at H
         have c51b0 : decide (x74_2 < (l0_0.length : Int)) = false := decide_eq_false c51
         clear c51
         by_cases c69 : 0 < (l0_0.length : Int)
         ·rw [if_pos c69] at H
          have c69b0 : decide (0 < (l0_0.length : Int)) = true := decide_eq_true c69
          have c69b1 : decide (0 < l0_0.length) = true := decide_eq_true (by omega)
          clear c69
          by_cases c70 : ((q05 l0_0 0).f4) = (-1)
          ·rw [if_pos c70] at H
           have c70b0 : (((q05 l0_0 0).f4) == (-1)) = true := beq_iff_eq.mpr c70
           have c70b1 : (((q05 l0_0 0).f4) != (-1)) = false := bne_eq_false_iff_eq.mpr c70
           clear c70
           obtain rfl := Option.some.inj H
           have hcz71_0 : wr.cell? ⟨gb124, 0, none⟩ = some (.slice A0_0 l0_0.length c0_0) := (q02 BK124.out 0).trans rfl
           have hcz71_1 : wr.cell? ⟨gb124, 1, none⟩ = some (.bool a0_1) := (q02 BK124.out 1).trans rfl
           have hfz71_0 := q01 BK124.out 0
           have hfz71_1 := q01 BK124.out 1
           have p139 : 0 ≤ (0 : Int) := (by omega)
           have q139 : 0 < (l0_0.length : Int) := od (by first | (with_reducible assumption) | assumption)
           obtain ⟨ad139, A139_2, c139_2, A139_5, c139_5, e139, hx139_0, hx139_1, hx139_2, hx139_3, hx139_4, hx139_5, hl139_2, hi139_2, hl139_5, hi139_5⟩ := q1j HR0_0.out 0 p139 q139
           cases e139
           have qi139 : (0 < l0_0.length) = True := eq_true (by omega)
           (try rw [show ((0 : Int)).toNat = 0 from rfl] at hx139_0)
           (try rw [show 0 * 6 = 0 from rfl] at hx139_0)
           (try rw [Addr.add_zero'] at hx139_0)
           (try rw [show ((0 : Int)).toNat = 0 from rfl] at hx139_1)
           (try rw [show 0 * 6 = 0 from rfl] at hx139_1)
           (try rw [Addr.add_zero'] at hx139_1)
           (try rw [show ((0 : Int)).toNat = 0 from rfl] at hx139_2)
           (try rw [show 0 * 6 = 0 from rfl] at hx139_2)
           (try rw [Addr.add_zero'] at hx139_2)
           (try rw [show ((0 : Int)).toNat = 0 from rfl] at hx139_3)
           (try rw [show 0 * 6 = 0 from rfl] at hx139_3)
           (try rw [Addr.add_zero'] at hx139_3)
           (try rw [show ((0 : Int)).toNat = 0 from rfl] at hx139_4)
           (try rw [show 0 * 6 = 0 from rfl] at hx139_4)
           (try rw [Addr.add_zero'] at hx139_4)
           (try rw [show ((0 : Int)).toNat = 0 from rfl] at hx139_5)
           (try rw [show 0 * 6 = 0 from rfl] at hx139_5)
           (try rw [Addr.add_zero'] at hx139_5)
           replace hx139_0 := (HB.out.cell (World.block_lt_of_cell? w _ hx139_0)).trans hx139_0
           replace hx139_1 := (HB.out.cell (World.block_lt_of_cell? w _ hx139_1)).trans hx139_1
           replace hx139_2 := (HB.out.cell (World.block_lt_of_cell? w _ hx139_2)).trans hx139_2
           replace hx139_3 := (HB.out.cell (World.block_lt_of_cell? w _ hx139_3)).trans hx139_3
           replace hx139_4 := (HB.out.cell (World.block_lt_of_cell? w _ hx139_4)).trans hx139_4
           replace hx139_5 := (HB.out.cell (World.block_lt_of_cell? w _ hx139_5)).trans hx139_5
           have HR139_2 := aS hi139_2
           have HC139_2 := aS hl139_2
           clear hi139_2 hl139_2
           have HR139_5 := aS hi139_5
           have HC139_5 := aS hl139_5
           clear hi139_5 hl139_5
           replace p139 := eq_true p139
           replace q139 := eq_true q139
           go_wp2
           go_ret
           exact ⟨by first | rfl | (simp [q0b, q0a] <;> rfl) | (simp [*, q0b, q0a] <;> rfl), by repeat (first | (with_reducible first | exact HB.out | apply bA | apply bN | apply bD | refine bS ?_ GE124.out) | exact HB.out)⟩
          ·rw [if_neg c70] at H
           have c70b0 : (((q05 l0_0 0).f4) == (-1)) = false := beq_eq_false_iff_ne.mpr c70
           have c70b1 : (((q05 l0_0 0).f4) != (-1)) = true := bne_iff_ne.mpr c70
           obtain rfl := Option.some.inj H
           have hcz72_0 : wr.cell? ⟨gb124, 0, none⟩ = some (.slice A0_0 l0_0.length c0_0) := (q02 BK124.out 0).trans rfl
           have hcz72_1 : wr.cell? ⟨gb124, 1, none⟩ = some (.bool a0_1) := (q02 BK124.out 1).trans rfl
           have hfz72_0 := q01 BK124.out 0
           have hfz72_1 := q01 BK124.out 1
           have p139 : 0 ≤ (0 : Int) := (by omega)
           have q139 : 0 < (l0_0.length : Int) := od (by first | (with_reducible assumption) | assumption)
           obtain ⟨ad139, A139_2, c139_2, A139_5, c139_5, e139, hx139_0, hx139_1, hx139_2, hx139_3, hx139_4, hx139_5, hl139_2, hi139_2, hl139_5, hi139_5⟩ := q1j HR0_0.out 0 p139 q139
           cases e139
           have qi139 : (0 < l0_0.length) = True := eq_true (by omega)
           (try rw [show ((0 : Int)).toNat = 0 from rfl] at hx139_0)
           (try rw [show 0 * 6 = 0 from rfl] at hx139_0)
           (try rw [Addr.add_zero'] at hx139_0)
           (try rw [show ((0 : Int)).toNat = 0 from rfl] at hx139_1)
           (try rw [show 0 * 6 = 0 from rfl] at hx139_1)
           (try rw [Addr.add_zero'] at hx139_1)
           (try rw [show ((0 : Int)).toNat = 0 from rfl] at hx139_2)
           (try rw [show 0 * 6 = 0 from rfl] at hx139_2)
           (try rw [Addr.add_zero'] at hx139_2)
           (try rw [show ((0 : Int)).toNat = 0 from rfl] at hx139_3)
           (try rw [show 0 * 6 = 0 from rfl] at hx139_3)
           (try rw [Addr.add_zero'] at hx139_3)
           (try rw [show ((0 : Int)).toNat = 0 from rfl] at hx139_4)
           (try rw [show 0 * 6 = 0 from rfl] at hx139_4)
           (try rw [Addr.add_zero'] at hx139_4)
           (try rw [show ((0 : Int)).toNat = 0 from rfl] at hx139_5)
           (try rw [show 0 * 6 = 0 from rfl] at hx139_5)
           (try rw [Addr.add_zero'] at hx139_5)
           replace hx139_0 := (HB.out.cell (World.block_lt_of_cell? w _ hx139_0)).trans hx139_0
           replace hx139_1 := (HB.out.cell (World.block_lt_of_cell? w _ hx139_1)).trans hx139_1
           replace hx139_2 := (HB.out.cell (World.block_lt_of_cell? w _ hx139_2)).trans hx139_2
           replace hx139_3 := (HB.out.cell (World.block_lt_of_cell? w _ hx139_3)).trans hx139_3
           replace hx139_4 := (HB.out.cell (World.block_lt_of_cell? w _ hx139_4)).trans hx139_4
           replace hx139_5 := (HB.out.cell (World.block_lt_of_cell? w _ hx139_5)).trans hx139_5
           have HR139_2 := aS hi139_2
           have HC139_2 := aS hl139_2
           clear hi139_2 hl139_2
           have HR139_5 := aS hi139_5
           have HC139_5 := aS hl139_5
           clear hi139_5 hl139_5
           replace p139 := eq_true p139
           replace q139 := eq_true q139
           go_wp2
           go_ret
           exact ⟨by first | rfl | (simp [q0b, q0a] <;> rfl) | (simp [*, q0b, q0a] <;> rfl), by repeat (first | (with_reducible first | exact HB.out | apply bA | apply bN | apply bD | refine bS ?_ GE124.out) | exact HB.out)⟩
         ·rw [if_neg c69] at H
          exact absurd H (by simp)
  ·rw [if_neg c3] at H
   exact absurd H (by simp)
 ·rw [if_neg c2] at H
  exact absurd H (by simp)
end Go.Proofs.YthjnallbbhnndaaDoor.XWk
