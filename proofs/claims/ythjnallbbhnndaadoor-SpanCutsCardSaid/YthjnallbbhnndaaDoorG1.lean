/- Short names for words of the print, so that a claim's texts stay small. No condition. -/
import Derived.Test.YthjnallbbhnndaaDoorG0
import Derived.Laws.Cells
import Derived.Shelf.Abstract
import Derived.Lib.SliceRun
import Derived.Shelf.Small.Utf8
import Derived.Shelf.Small.Strs
import Derived.Shelf.Strings.Search1
import Derived.Shelf.Strings.AsciiSet
import Derived.Ground.Names2Prog
import Derived.Test.YthjnallbbhnndaaDoorProg
import Derived.Shelf.Strings.SlTrimAscii
import Derived.StillTailTactics
import Derived.Deep.RegionLaw
import Derived.Lib.Hide
import Derived.Outline
import Derived.Deep.MidRow
import Derived.WalkSpells
namespace Go.Proofs.YthjnallbbhnndaaDoor.Short
open Go Go.RowKit Go.Proofs.YthjnallbbhnndaaDoorW.PrintWords Go.Proofs.YthjnallbbhnndaaDoorW.PrintLast Go.Proofs.YthjnallbbhnndaaDoorW.PrintMore
theorem aS {p : Prop} (h : p) : Aside0 p := ⟨h⟩
set_option linter.defProp false
abbrev bA := @q1a
abbrev bN := @q19
abbrev bD := @q0t
abbrev bS := @below_set
abbrev vA := @Kd.V_alloc
abbrev vN := @Kd.V_drewN
abbrev vD := @Kd.V_drew
abbrev nA := @Kd.N_alloc
abbrev nN := @Kd.N_drewN
abbrev nD := @Kd.N_drew
abbrev rA := @Kd.R_alloc
abbrev rN := @Kd.R_drewN
abbrev rD := @Kd.R_drew
abbrev sA := @Kd.S_alloc
abbrev sN := @Kd.S_drewN
abbrev sD := @Kd.S_drew
abbrev cA := @Kd.C_alloc
abbrev cN := @Kd.C_drewN
abbrev cD := @Kd.C_drew
abbrev kA := @blk_alloc
abbrev kN := @blk_drewN
abbrev kD := @q0v
abbrev od := @of_decide_eq_true
abbrev s1 := @List.setIfInBounds_toArray
abbrev s2 := @List.set_cons_zero
abbrev s3 := @List.set_cons_succ
end Go.Proofs.YthjnallbbhnndaaDoor.Short
namespace Go.Proofs.YthjnallbbhnndaaDoor.Cl
open Go Go.Proofs.YthjnallbbhnndaaDoorW.PrintWords
theorem getD_lt {α : Type} (l : List α) (i : Nat) (z : α) (h : i < l.length) : l.getD i z = l[i] := by simp [List.getD, h]
theorem mem_getD {α : Type} (l : List α) (i : Nat) (z : α) (h : i < l.length) : l.getD i z ∈ l := by
  rw [getD_lt l i z h]; exact List.getElem_mem h
def idxFrom {α : Type} (p : α → Bool) : List α → Nat → Int
  | [], _ => -1
  | x :: t, i => if p x = true then (i : Int) else idxFrom p t (i + 1)
def idxOf {α : Type} (p : α → Bool) (l : List α) : Int := idxFrom p l 0
theorem idxFrom_hit {α : Type} (p : α → Bool) (z : α) : ∀ (l : List α) (k i : Nat), k < l.length → p (l.getD k z) = true → (∀ j, j < k → p (l.getD j z) = false) → idxFrom p l i = ((i + k : Nat) : Int)
  | [], k, _, hk, _, _ => absurd hk (Nat.not_lt_zero _)
  | x :: t, 0, i, _, h, _ => by
    have : p x = true := by simpa using h
    simp [idxFrom, this]
  | x :: t, k + 1, i, hk, h, hn => by
    have h0 : p x = false := by simpa using hn 0 (Nat.succ_pos _)
    rw [idxFrom, if_neg (by simp [h0]), idxFrom_hit p z t k (i + 1) (by simpa using hk) (by simpa using h) (fun j hj => by simpa using hn (j + 1) (by omega))]
    congr 1
    omega
theorem idxFrom_miss {α : Type} (p : α → Bool) : ∀ (l : List α) (i : Nat), (∀ x ∈ l, p x = false) → idxFrom p l i = -1
  | [], _, _ => rfl
  | x :: t, i, h => by
    rw [idxFrom, if_neg (by simp [h x (by simp)]), idxFrom_miss p t (i + 1) (fun y hy => h y (List.mem_cons_of_mem _ hy))]
theorem idxOf_hit {α : Type} (p : α → Bool) (z : α) (l : List α) (k : Nat) (hk : k < l.length) (h : p (l.getD k z) = true) (hn : ∀ j, j < k → p (l.getD j z) = false) : idxOf p l = (k : Int) := by
  have := idxFrom_hit p z l k 0 hk h hn
  rwa [Nat.zero_add] at this
theorem idxOf_miss {α : Type} (p : α → Bool) (z : α) (l : List α) (h : ∀ j, j < l.length → p (l.getD j z) = false) : idxOf p l = -1 := by
  refine idxFrom_miss p l 0 fun x hx => ?_
  obtain ⟨j, hj, e⟩ := List.getElem_of_mem hx
  have := h j hj
  rwa [getD_lt l j z hj, e] at this
theorem idxFrom_any {α : Type} (p : α → Bool) : ∀ (l : List α) (i : Nat), decide (0 ≤ idxFrom p l i) = l.any p
  | [], _ => by simp [idxFrom]
  | x :: t, i => by
    rw [idxFrom, List.any_cons]
    by_cases h : p x = true
    · rw [if_pos h, h]; simp
    · rw [if_neg h, idxFrom_any p t (i + 1)]
      simp only [Bool.not_eq_true] at h
      rw [h]; simp
theorem idxOf_any {α : Type} (p : α → Bool) (l : List α) : decide (0 ≤ idxOf p l) = l.any p := idxFrom_any p l 0
theorem getC {α : Type} {d : Kd α} {w : World} {A : Option Addr} {n : Nat} {xs : List α} (h : d.C w A n xs) (z : α) (i : Nat) (h1 : i < n) :
    ∃ ad c, A = some ad ∧ c.length = d.sz ∧ d.K w (xs.getD i z) c ∧ (∀ j u, c[j]? = some u → w.cell? (ad.add (i * d.sz + j)) = some u) := by
  obtain ⟨ad, c, h2, h3, h4, h5⟩ := Kd.C_get h z (i : Int) (by omega) (by omega)
  rw [show ((i : Int)).toNat = i from rfl] at h4 h5
  exact ⟨ad, c, h2, h3, h4, h5⟩
end Go.Proofs.YthjnallbbhnndaaDoor.Cl
namespace Go.Proofs
open Go.Shelf
def Tryd.lays137_ren : Go.Shelf.Ren := ⟨fun | 137 => 154 | 217 => 176 | 266 => 187 | n => n, fun | 9 => 9 | 5 => 5 | 3 => 3 | n => n, fun | n => n⟩
theorem Tryd.lays137 : Go.Proofs.Lays.n137 Tryd.prog Tryd.lays137_ren := {
  mixed := by kernel_rfl
  f137 := Tryd.func154.trans (congrArg some (by kernel_rfl))
  f217 := Tryd.func176.trans (congrArg some (by kernel_rfl))
  f266 := Tryd.func187.trans (congrArg some (by kernel_rfl))
  t3 := Tryd.underlying3
  a3 := Tryd.isAgg3
  z3 := Tryd.sizeOf3
  v3 := Tryd.zeroValue3
  t5 := Tryd.underlying5
  a5 := Tryd.isAgg5
  z5 := Tryd.sizeOf5
  v5 := Tryd.zeroValue5
  t9 := Tryd.underlying9
  a9 := Tryd.isAgg9
  z9 := Tryd.sizeOf9
  v9 := Tryd.zeroValue9 }
open Go.RowKit in
theorem Tryd.strings_IndexByte (s : ByteArray) (c : Int) (w : World) :
    Calls Tryd.prog 154 #[.string s, .int .u8 c] w fun e w' => e = .returned (.int .i64 (Lib.indexByte s.data.toList c.toNat.toUInt8)) ∧ w' = w := Any.strings_IndexByte Tryd.lays137 s c w
def Tryd.lays160_ren : Go.Shelf.Ren := ⟨fun | 160 => 177 | 232 => 189 | 231 => 188 | 227 => 190 | 234 => 192 | 233 => 191 | 236 => 194 | 235 => 193 | 228 => 196 | 271 => 198 | 151 => 95 | 197 => 197 | 120 => 200 | 152 => 133 | 260 => 199 | 137 => 154 | 119 => 155 | 224 => 156 | 225 => 157 | 217 => 176 | 266 => 187 | n => n, fun | 9 => 9 | 4 => 4 | 3 => 3 | 5 => 5 | 117 => 220 | 116 => 219 | 0 => 0 | 124 => 223 | 21 => 21 | 105 => 225 | 46 => 203 | 119 => 227 | 139 => 230 | 138 => 229 | n => n, fun | 3 => 1 | 4 => 2 | n => n⟩
theorem Tryd.lays160 : Go.Proofs.Lays.n160 Tryd.prog Tryd.lays160_ren := {
  mixed := by kernel_rfl
  f119 := Tryd.func155.trans (congrArg some (by kernel_rfl))
  f120 := Tryd.func200.trans (congrArg some (by kernel_rfl))
  f137 := Tryd.func154.trans (congrArg some (by kernel_rfl))
  f151 := Tryd.func95.trans (congrArg some (by kernel_rfl))
  f152 := Tryd.func133.trans (congrArg some (by kernel_rfl))
  f160 := Tryd.func177.trans (congrArg some (by kernel_rfl))
  f197 := Tryd.func197.trans (congrArg some (by kernel_rfl))
  f217 := Tryd.func176.trans (congrArg some (by kernel_rfl))
  f224 := Tryd.func156.trans (congrArg some (by kernel_rfl))
  f225 := Tryd.func157.trans (congrArg some (by kernel_rfl))
  f227 := Tryd.func190.trans (congrArg some (by kernel_rfl))
  f228 := Tryd.func196.trans (congrArg some (by kernel_rfl))
  f231 := Tryd.func188.trans (congrArg some (by kernel_rfl))
  f232 := Tryd.func189.trans (congrArg some (by kernel_rfl))
  f233 := Tryd.func191.trans (congrArg some (by kernel_rfl))
  f234 := Tryd.func192.trans (congrArg some (by kernel_rfl))
  f235 := Tryd.func193.trans (congrArg some (by kernel_rfl))
  f236 := Tryd.func194.trans (congrArg some (by kernel_rfl))
  f260 := Tryd.func199.trans (congrArg some (by kernel_rfl))
  f266 := Tryd.func187.trans (congrArg some (by kernel_rfl))
  f271 := Tryd.func198.trans (congrArg some (by kernel_rfl))
  t0 := Tryd.underlying0
  a0 := Tryd.isAgg0
  z0 := Tryd.sizeOf0
  v0 := Tryd.zeroValue0
  t3 := Tryd.underlying3
  a3 := Tryd.isAgg3
  z3 := Tryd.sizeOf3
  v3 := Tryd.zeroValue3
  t4 := Tryd.underlying4
  a4 := Tryd.isAgg4
  z4 := Tryd.sizeOf4
  v4 := Tryd.zeroValue4
  t5 := Tryd.underlying5
  a5 := Tryd.isAgg5
  z5 := Tryd.sizeOf5
  v5 := Tryd.zeroValue5
  t9 := Tryd.underlying9
  a9 := Tryd.isAgg9
  z9 := Tryd.sizeOf9
  v9 := Tryd.zeroValue9
  t21 := Tryd.underlying21
  a21 := Tryd.isAgg21
  z21 := Tryd.sizeOf21
  v21 := Tryd.zeroValue21
  t46 := Tryd.underlying203
  a46 := Tryd.isAgg203
  z46 := Tryd.sizeOf203
  v46 := Tryd.zeroValue203
  t105 := Tryd.underlying225
  a105 := Tryd.isAgg225
  z105 := Tryd.sizeOf225
  v105 := Tryd.zeroValue225
  t116 := Tryd.underlying219
  a116 := Tryd.isAgg219
  z116 := Tryd.sizeOf219
  t117 := Tryd.underlying220
  a117 := Tryd.isAgg220
  z117 := Tryd.sizeOf220
  v117 := Tryd.zeroValue220
  t119 := Tryd.underlying227
  a119 := Tryd.isAgg227
  z119 := Tryd.sizeOf227
  t124 := Tryd.underlying223
  a124 := Tryd.isAgg223
  z124 := Tryd.sizeOf223
  v124 := Tryd.zeroValue223
  t138 := Tryd.underlying229
  a138 := Tryd.isAgg229
  z138 := Tryd.sizeOf229
  v138 := Tryd.zeroValue229
  t139 := Tryd.underlying230
  a139 := Tryd.isAgg230
  z139 := Tryd.sizeOf230
  v139 := Tryd.zeroValue230
  g3 := by kernel_rfl
  g4 := by kernel_rfl }
open Go.RowKit Go.Lib in
theorem Tryd.strings_Trim (s cutset : ByteArray) (w : World) (hs : s.size ≤ 9223372036854775807) (hcs : cutset.size < 4294967281) (hascii : ∀ (j : Nat) b, cutset.data.toList[j]? = some b → b.toNat < 128) :
    Calls Tryd.prog 177 #[.string s, .string cutset] w fun e w' => e = .returned (.string ⟨(Lib.trimS s.data.toList cutset.data.toList).toArray⟩) ∧ Below w.heap.size w w' := Any.strings_Trim_laid Tryd.lays160 (by kernel_rfl) s cutset w hs hcs hascii
end Go.Proofs
namespace Go.Proofs.YthjnallbbhnndaaDoor.Short
open Go Go.RowKit Go.Proofs.YthjnallbbhnndaaDoorW.PrintWords
theorem iB {α β : Type} {x : Option α} {f : α → Option β} {r : β} (h : x.bind f = some r) : ∃ t, Aside0 (x = some t) ∧ f t = some r :=
  let ⟨t, a, b⟩ := Option.bind_eq_some_iff.mp h
  ⟨t, ⟨a⟩, b⟩
variable {β : Type} {a b : Option β} {r : β} {G : Prop}
theorem iG {P : Prop} [Decidable P] (h : (if P then a else b) = some r) (p : P → a = some r → G) (n : ¬ P → b = some r → G) : G := by
  by_cases c : P
  · rw [if_pos c] at h; exact p c h
  · rw [if_neg c] at h; exact n c h
theorem iGp {P : Prop} [Decidable P] (h : (if P then a else none) = some r) (p : P → a = some r → G) : G := iG h p fun _ h => absurd h (by simp)
theorem iGq {P : Prop} [Decidable P] (h : (if P then none else b) = some r) (n : ¬ P → b = some r → G) : G := iG h (fun _ h => absurd h (by simp)) n
theorem iV {t : Bool} (h : (if t = true then a else b) = some r) (p : t = true → a = some r → G) (n : t = false → b = some r → G) : G := iG h p fun c => n (Bool.eq_false_iff.mpr c)
theorem iE {α : Type} [BEq α] [LawfulBEq α] {x y : α} [Decidable (x = y)] (h : (if x = y then a else b) = some r) (p : (x == y) = true → (x != y) = false → a = some r → G) (n : ¬ x = y → (x == y) = false → (x != y) = true → b = some r → G) : G :=
  iG h (fun c => p (beq_iff_eq.mpr c) (bne_eq_false_iff_eq.mpr c)) fun c => n c (beq_eq_false_iff_ne.mpr c) (bne_iff_ne.mpr c)
theorem iT {x y : Int} (h : (if x < y then a else b) = some r) (p : decide (x < y) = true → a = some r → G) (n : decide (x < y) = false → b = some r → G) : G := iG h (fun c => p (decide_eq_true c)) fun c => n (decide_eq_false c)
theorem iTp {x y : Int} (h : (if x < y then a else none) = some r) (p : decide (x < y) = true → a = some r → G) : G := iT h p fun _ h => absurd h (by simp)
theorem iTN {x y : Int} {m n : Nat} (h : (if x < y then a else b) = some r) (e : x = m) (f : y = n) (p : decide (x < y) = true → decide (m < n) = true → a = some r → G) (q : decide (x < y) = false → decide (m < n) = false → b = some r → G) : G :=
  iG h (fun c => p (decide_eq_true c) (decide_eq_true (by omega))) fun c => q (decide_eq_false c) (decide_eq_false (by omega))
theorem iTNp {x y : Int} {m n : Nat} (h : (if x < y then a else none) = some r) (e : x = m) (f : y = n) (p : decide (x < y) = true → decide (m < n) = true → a = some r → G) : G := iTN h e f p fun _ _ h => absurd h (by simp)
theorem iL {x y : Int} (h : (if x ≤ y then a else b) = some r) (p : decide (x ≤ y) = true → a = some r → G) (n : decide (x ≤ y) = false → b = some r → G) : G := iG h (fun c => p (decide_eq_true c)) fun c => n (decide_eq_false c)
theorem iLp {x y : Int} (h : (if x ≤ y then a else none) = some r) (p : decide (x ≤ y) = true → a = some r → G) : G := iL h p fun _ h => absurd h (by simp)
theorem iLN {x y : Int} {m n : Nat} (h : (if x ≤ y then a else b) = some r) (e : x = m) (f : y = n) (p : decide (x ≤ y) = true → decide (m ≤ n) = true → a = some r → G) (q : decide (x ≤ y) = false → decide (m ≤ n) = false → b = some r → G) : G :=
  iG h (fun c => p (decide_eq_true c) (decide_eq_true (by omega))) fun c => q (decide_eq_false c) (decide_eq_false (by omega))
variable {w : World} {g : Nat} {t : TypeId} {v0 v1 v2 v3 v4 v5 v6 v7 : Value}
theorem bk2 (h : w.heap[g]? = some (.cells #[v0, v1] t (0, 0))) : w.cell? ⟨g, 0, none⟩ = some v0 ∧ w.cell? ⟨g, 1, none⟩ = some v1 ∧ w.frozen? ⟨g, 0, none⟩ = false ∧ w.frozen? ⟨g, 1, none⟩ = false :=
  ⟨(q03 h 0).trans rfl, (q03 h 1).trans rfl, q0k h 0, q0k h 1⟩
theorem bk4 (h : w.heap[g]? = some (.cells #[v0, v1, v2, v3] t (0, 0))) : w.cell? ⟨g, 0, none⟩ = some v0 ∧ w.cell? ⟨g, 1, none⟩ = some v1 ∧ w.cell? ⟨g, 2, none⟩ = some v2 ∧ w.cell? ⟨g, 3, none⟩ = some v3 ∧ w.frozen? ⟨g, 0, none⟩ = false ∧ w.frozen? ⟨g, 1, none⟩ = false ∧ w.frozen? ⟨g, 2, none⟩ = false ∧ w.frozen? ⟨g, 3, none⟩ = false :=
  ⟨(q03 h 0).trans rfl, (q03 h 1).trans rfl, (q03 h 2).trans rfl, (q03 h 3).trans rfl, q0k h 0, q0k h 1, q0k h 2, q0k h 3⟩
theorem bk6 (h : w.heap[g]? = some (.cells #[v0, v1, v2, v3, v4, v5] t (0, 0))) : w.cell? ⟨g, 0, none⟩ = some v0 ∧ w.cell? ⟨g, 1, none⟩ = some v1 ∧ w.cell? ⟨g, 2, none⟩ = some v2 ∧ w.cell? ⟨g, 3, none⟩ = some v3 ∧ w.cell? ⟨g, 4, none⟩ = some v4 ∧ w.cell? ⟨g, 5, none⟩ = some v5 ∧ w.frozen? ⟨g, 0, none⟩ = false ∧ w.frozen? ⟨g, 1, none⟩ = false ∧ w.frozen? ⟨g, 2, none⟩ = false ∧ w.frozen? ⟨g, 3, none⟩ = false ∧ w.frozen? ⟨g, 4, none⟩ = false ∧ w.frozen? ⟨g, 5, none⟩ = false :=
  ⟨(q03 h 0).trans rfl, (q03 h 1).trans rfl, (q03 h 2).trans rfl, (q03 h 3).trans rfl, (q03 h 4).trans rfl, (q03 h 5).trans rfl, q0k h 0, q0k h 1, q0k h 2, q0k h 3, q0k h 4, q0k h 5⟩
section
variable {A : Option Addr} {n : Nat} {w1 : World}
theorem atIA {k : IntKind} {xs : List Int} (h : (Kd.int k).C w A n xs) (i : Int) (h0 : decide (0 ≤ i) = true) (h1 : decide (i < n) = true) : ∃ ad, A = some ad ∧ w.cell? (ad.add i.toNat) = some (.int k (rd xs i)) ∧ (0 ≤ i) = True ∧ (i < n) = True :=
  let ⟨ad, e, c⟩ := Kd.at_int h i (of_decide_eq_true h0) (of_decide_eq_true h1)
  ⟨ad, e, c, eq_true (of_decide_eq_true h0), eq_true (of_decide_eq_true h1)⟩
theorem atIB {k : IntKind} {xs : List Int} (hb : Below w.heap.size w w1) (h : (Kd.int k).C w A n xs) (i : Int) (h0 : decide (0 ≤ i) = true) (h1 : decide (i < n) = true) : ∃ ad, A = some ad ∧ w1.cell? (ad.add i.toNat) = some (.int k (rd xs i)) ∧ (0 ≤ i) = True ∧ (i < n) = True :=
  let ⟨ad, e, c, a, b⟩ := atIA h i h0 h1
  ⟨ad, e, q0f hb c, a, b⟩
theorem atOA {xs : List Bool} (h : Kd.bool.C w A n xs) (i : Int) (h0 : decide (0 ≤ i) = true) (h1 : decide (i < n) = true) : ∃ ad, A = some ad ∧ w.cell? (ad.add i.toNat) = some (.bool (rdOf false xs i)) ∧ (0 ≤ i) = True ∧ (i < n) = True :=
  let ⟨ad, e, c⟩ := Kd.at_bool h i (of_decide_eq_true h0) (of_decide_eq_true h1)
  ⟨ad, e, c, eq_true (of_decide_eq_true h0), eq_true (of_decide_eq_true h1)⟩
theorem box0 {P : Program} {ops : Array Oper} {Q : Exit → Act → World → Prop} {rest : List Oper} {o : Oper} {a : Act} {w0 W : World} (hgd : o.guard = none) {N : Tmp} (_hd : o.dst = some N) {cs : Array Value} {t : TypeId}
    (hrun : (execOp a.eval o).run P W = .ok (.value (.pointer (some ⟨W.heap.size, 0, none⟩))) (W.alloc (.cells cs t (0, 0)))) (hB : Below w0.heap.size w0 W)
    (h : ∀ g w1, Aside0 (w1.heap[g]? = some (.cells cs t (0, 0))) → Aside0 (w0.heap.size ≤ g) → Aside0 (Below w0.heap.size w0 w1) → wpList P ops Q rest (a.put o.dst (.pointer (some ⟨g, 0, none⟩))) w1) : wpList P ops Q (o :: rest) a W :=
  q0j hgd _hd hrun fun g hg w1 hb hs => h g w1 ⟨hb⟩ ⟨by rw [hg]; exact q06 hB⟩ ⟨q02 hB hs⟩
end
end Go.Proofs.YthjnallbbhnndaaDoor.Short
namespace Go.Proofs.YthjnallbbhnndaaDoor.XSp
open Go.Proofs.YthjnallbbhnndaaDoor.Short Go.RowKit Go.Proofs.YthjnallbbhnndaaDoorW.PrintWords Go.Proofs.YthjnallbbhnndaaDoorW.PrintLast Go.Proofs.YthjnallbbhnndaaDoorW.PrintMore
attribute [local go_sem] max2_int min2_int max_two min_two q1n q1m max_four min_four   -- for this text's walks alone
set_option linter.unusedVariables false
set_option linter.unusedSimpArgs false
def errW : Option Int → Value
 | none => .nilIface
 | some c => .iface 0 (.int .i64 c)
theorem q05 : errW none = .nilIface := rfl
theorem q04 (c : Int) : errW (some c) = .iface 0 (.int .i64 c) := rfl
theorem info3 : (Tryd.prog.info? 3).map (fun i => (i.zero, i.size, i.bytes)) = some (some (.int .i64 0), 1, 8) := by kernel_rfl
theorem info4 : (Tryd.prog.info? 4).map (fun i => (i.zero, i.size, i.bytes)) = some (some (.bool false), 1, 1) := by kernel_rfl
theorem info43 : (Tryd.prog.info? 43).map (fun i => (i.zero, i.size, i.bytes)) = some (some (.agg #[(.int .i64 0), (.string ⟨#[]⟩), (.slice none 0 0), (.string ⟨#[]⟩), (.int .i64 0), (.slice none 0 0)]), 6, 96) := by kernel_rfl
theorem info50 : (Tryd.prog.info? 50).map (fun i => (i.zero, i.size, i.bytes)) = some (some (.agg #[(.int .i64 0), (.int .i64 0)]), 2, 16) := by kernel_rfl
theorem info87 : (Tryd.prog.info? 87).map (fun i => (i.zero, i.size, i.bytes)) = some (some (.agg #[(.int .i64 0), (.int .i64 0), (.int .i64 0), (.int .i64 0), (.string ⟨#[]⟩), (.string ⟨#[]⟩), (.int .i64 0), (.string ⟨#[]⟩), (.slice none 0 0), (.string ⟨#[]⟩), (.int .i64 0), (.slice none 0 0)]), 12, 160) := by kernel_rfl
theorem info122 : (Tryd.prog.info? 122).map (fun i => (i.zero, i.size, i.bytes)) = some (some (.agg #[(.string ⟨#[]⟩), (.string ⟨#[]⟩)]), 2, 32) := by kernel_rfl
structure S122 where
 f0 : ByteArray
 f1 : ByteArray
def z122 : S122 := ⟨(⟨#[]⟩ : ByteArray), (⟨#[]⟩ : ByteArray)⟩
def k122 : Kd S122 := Kd.iso (Kd.pair Kd.string Kd.string) (fun x : S122 => (x.f0, x.f1))
theorem k122_heap : Kd.Heap k122 := Kd.heap_iso _ (Kd.heap_pair Kd.heap_string Kd.heap_string)
theorem k122_open {w : World} {x : S122} {cs : List Value} (h : k122.K w x cs) : cs = [.string x.f0, .string x.f1] := by
 obtain ⟨_, _, rfl, rfl, rfl⟩ := h
 exact rfl
theorem k122_mkM (w : World) (base : Nat) (ok : Nat → Prop) (x : S122)  : k122.M w base ok x [.string x.f0, .string x.f1] := ⟨[.string x.f0], [.string x.f1], rfl, rfl, rfl⟩
def q0c (xs : List S122) (i : Int) : S122 := xs.getD i.toNat z122
theorem at_T122 {w : World} {A : Option Addr} {n : Nat} {xs : List S122} (h : Kd.C k122 w A n xs) (i : Int) (h0 : 0 ≤ i) (h1 : i < n) : ∃ ad , A = some ad ∧ w.cell? (ad.add (i.toNat * 2)) = some (.string (q0c xs i).f0) ∧ w.cell? ⟨(ad.add (i.toNat * 2)).block, (ad.add (i.toNat * 2)).off + 1, none⟩ = some (.string (q0c xs i).f1) := by
 obtain ⟨ad, c, e, _, hK, hc0⟩ := Kd.C_get h z122 i h0 h1
 have hc : ∀ j u, c[j]? = some u → w.cell? (ad.add (i.toNat * 2 + j)) = some u := hc0
 obtain rfl := k122_open hK
 exact ⟨ad, e, hc 0 _ rfl, by rw [← q0u _ _ 1 (by omega)]; exact hc 1 _ rfl⟩
theorem q12 {w w1 : World} {A : Option Addr} {n : Nat} {xs : List S122} (hb : Below w.heap.size w w1) (h : Kd.C k122 w A n xs) (i : Int) (h0 : decide (0 ≤ i) = true) (h1 : decide (i < n) = true) : ∃ ad, A = some ad ∧ w1.cell? (ad.add (i.toNat * 2)) = some (.string (q0c xs i).f0) ∧ w1.cell? ⟨(ad.add (i.toNat * 2)).block, (ad.add (i.toNat * 2)).off + 1, none⟩ = some (.string (q0c xs i).f1) ∧ (0 ≤ i) = True ∧ (i < n) = True :=
 let ⟨ad, e, x0, x1⟩ := at_T122 h i (of_decide_eq_true h0) (of_decide_eq_true h1)
 ⟨ad, e, q0f hb x0, q0f hb x1, eq_true (of_decide_eq_true h0), eq_true (of_decide_eq_true h1)⟩
theorem at_T122A {w : World} {A : Option Addr} {n : Nat} {xs : List S122} (h : Kd.C k122 w A n xs) (i : Int) (h0 : decide (0 ≤ i) = true) (h1 : decide (i < n) = true) : ∃ ad, A = some ad ∧ w.cell? (ad.add (i.toNat * 2)) = some (.string (q0c xs i).f0) ∧ w.cell? ⟨(ad.add (i.toNat * 2)).block, (ad.add (i.toNat * 2)).off + 1, none⟩ = some (.string (q0c xs i).f1) ∧ (0 ≤ i) = True ∧ (i < n) = True :=
 let ⟨ad, e, x0, x1⟩ := at_T122 h i (of_decide_eq_true h0) (of_decide_eq_true h1)
 ⟨ad, e, x0, x1, eq_true (of_decide_eq_true h0), eq_true (of_decide_eq_true h1)⟩
structure S43 where
 f0 : Int
 f1 : ByteArray
 f2 : (List S122)
 f3 : ByteArray
 f4 : Int
 f5 : (List Int)
def z43 : S43 := ⟨(0 : Int), (⟨#[]⟩ : ByteArray), ([] : List S122), (⟨#[]⟩ : ByteArray), (0 : Int), ([] : List Int)⟩
def k43 : Kd S43 := Kd.iso (Kd.pair (Kd.int .i64) (Kd.pair Kd.string (Kd.pair (Kd.slice 122 k122) (Kd.pair Kd.string (Kd.pair (Kd.int .i64) (Kd.slice 3 (Kd.int .i64))))))) (fun x : S43 => (x.f0, x.f1, x.f2, x.f3, x.f4, x.f5))
theorem k43_heap : Kd.Heap k43 := Kd.heap_iso _ (Kd.heap_pair (Kd.heap_int .i64) (Kd.heap_pair Kd.heap_string (Kd.heap_pair (Kd.heap_slice 122 k122_heap) (Kd.heap_pair Kd.heap_string (Kd.heap_pair (Kd.heap_int .i64) (Kd.heap_slice 3 (Kd.heap_int .i64)))))))
theorem k43_open {w : World} {x : S43} {cs : List Value} (h : k43.K w x cs) : ∃ A2 c2 A5 c5, cs = [.int .i64 x.f0, .string x.f1, .slice A2 x.f2.length c2, .string x.f3, .int .i64 x.f4, .slice A5 x.f5.length c5] ∧ x.f2.length ≤ c2 ∧ k122.C w A2 x.f2.length x.f2 ∧ x.f5.length ≤ c5 ∧ (Kd.int .i64).C w A5 x.f5.length x.f5 := by
 obtain ⟨_, _, rfl, rfl, ⟨_, _, rfl, rfl, ⟨_, _, rfl, ⟨A2, c2, rfl, l2, g2⟩, ⟨_, _, rfl, rfl, ⟨_, _, rfl, rfl, ⟨A5, c5, rfl, l5, g5⟩⟩⟩⟩⟩⟩ := h
 exact ⟨A2, c2, A5, c5, rfl, l2, g2, l5, g5⟩
theorem k43_mk (w : World) (x : S43) {A2 : Option Addr} {c2 : Nat} (l2 : x.f2.length ≤ c2) (g2 : k122.C w A2 x.f2.length x.f2) {A5 : Option Addr} {c5 : Nat} (l5 : x.f5.length ≤ c5) (g5 : (Kd.int .i64).C w A5 x.f5.length x.f5) : k43.K w x [.int .i64 x.f0, .string x.f1, .slice A2 x.f2.length c2, .string x.f3, .int .i64 x.f4, .slice A5 x.f5.length c5] := ⟨[.int .i64 x.f0], [.string x.f1, .slice A2 x.f2.length c2, .string x.f3, .int .i64 x.f4, .slice A5 x.f5.length c5], rfl, rfl, ⟨[.string x.f1], [.slice A2 x.f2.length c2, .string x.f3, .int .i64 x.f4, .slice A5 x.f5.length c5], rfl, rfl, ⟨[.slice A2 x.f2.length c2], [.string x.f3, .int .i64 x.f4, .slice A5 x.f5.length c5], rfl, ⟨A2, c2, rfl, l2, g2⟩, ⟨[.string x.f3], [.int .i64 x.f4, .slice A5 x.f5.length c5], rfl, rfl, ⟨[.int .i64 x.f4], [.slice A5 x.f5.length c5], rfl, rfl, ⟨A5, c5, rfl, l5, g5⟩⟩⟩⟩⟩⟩
theorem k43_mkM (w : World) (base : Nat) (ok : Nat → Prop) (x : S43) {v2 : Value} (g2 : k122.R 122 w base ok v2 x.f2) {v5 : Value} (g5 : (Kd.int .i64).R 3 w base ok v5 x.f5) : k43.M w base ok x [.int .i64 x.f0, .string x.f1, v2, .string x.f3, .int .i64 x.f4, v5] := ⟨[.int .i64 x.f0], [.string x.f1, v2, .string x.f3, .int .i64 x.f4, v5], rfl, rfl, ⟨[.string x.f1], [v2, .string x.f3, .int .i64 x.f4, v5], rfl, rfl, ⟨[v2], [.string x.f3, .int .i64 x.f4, v5], rfl, ⟨v2, rfl, g2⟩, ⟨[.string x.f3], [.int .i64 x.f4, v5], rfl, rfl, ⟨[.int .i64 x.f4], [v5], rfl, rfl, ⟨v5, rfl, g5⟩⟩⟩⟩⟩⟩
theorem k43_openF {W : World} {ok : Nat → Prop} {x : S43} {cs : List Value} (h : Kd.FK k43 W ok x cs) : ∃ A2 c2 A5 c5, cs = [.int .i64 x.f0, .string x.f1, .slice A2 x.f2.length c2, .string x.f3, .int .i64 x.f4, .slice A5 x.f5.length c5] ∧ x.f2.length ≤ c2 ∧ Kd.F k122 W ok A2 x.f2.length x.f2 ∧ x.f5.length ≤ c5 ∧ Kd.F (Kd.int .i64) W ok A5 x.f5.length x.f5 := by
 obtain ⟨A2, c2, A5, c5, rfl, l2, _, l5, _⟩ := k43_open (Kd.FK_now h)
 exact ⟨A2, c2, A5, c5, rfl, l2, (fun W' hW => by obtain ⟨A2_, c2_, A5_, c5_, he, l2_, g2_, l5_, g5_⟩ := k43_open (h W' hW); injection (Option.some.inj (show some (Value.slice A2 x.f2.length c2) = some (Value.slice A2_ x.f2.length c2_) from congrArg (fun l => l[2]?) he)) with ha_ _ _; rw [ha_]; exact g2_), l5, (fun W' hW => by obtain ⟨A2_, c2_, A5_, c5_, he, l2_, g2_, l5_, g5_⟩ := k43_open (h W' hW); injection (Option.some.inj (show some (Value.slice A5 x.f5.length c5) = some (Value.slice A5_ x.f5.length c5_) from congrArg (fun l => l[5]?) he)) with ha_ _ _; rw [ha_]; exact g5_)⟩
theorem k43_mkF (W : World) (ok : Nat → Prop) (x : S43) {A2 : Option Addr} {c2 : Nat} (l2 : x.f2.length ≤ c2) (g2 : Kd.F k122 W ok A2 x.f2.length x.f2) {A5 : Option Addr} {c5 : Nat} (l5 : x.f5.length ≤ c5) (g5 : Kd.F (Kd.int .i64) W ok A5 x.f5.length x.f5) : Kd.FK k43 W ok x [.int .i64 x.f0, .string x.f1, .slice A2 x.f2.length c2, .string x.f3, .int .i64 x.f4, .slice A5 x.f5.length c5] := fun W2 hW => k43_mk W2 x l2 (g2 W2 hW) l5 (g5 W2 hW)
theorem k43_mkFV (W : World) (ok : Nat → Prop) (x : S43) {v2 : Value} {b2 e2 : Nat} (g2 : Kd.V k122 e2 W b2 ok v2 x.f2) {v5 : Value} {b5 e5 : Nat} (g5 : Kd.V (Kd.int .i64) e5 W b5 ok v5 x.f5) : Kd.FK k43 W ok x [.int .i64 x.f0, .string x.f1, v2, .string x.f3, .int .i64 x.f4, v5] := by
 obtain ⟨A2, c2, rfl, l2, h2⟩ := g2
 obtain ⟨A5, c5, rfl, l5, h5⟩ := g5
 exact k43_mkF W ok x l2 h2 l5 h5
def q00 (xs : List S43) (i : Int) : S43 := xs.getD i.toNat z43
theorem at_T43 {w : World} {A : Option Addr} {n : Nat} {xs : List S43} (h : Kd.C k43 w A n xs) (i : Int) (h0 : 0 ≤ i) (h1 : i < n) : ∃ ad A2 c2 A5 c5, A = some ad ∧ w.cell? (ad.add (i.toNat * 6)) = some (.int .i64 (q00 xs i).f0) ∧ w.cell? ⟨(ad.add (i.toNat * 6)).block, (ad.add (i.toNat * 6)).off + 1, none⟩ = some (.string (q00 xs i).f1) ∧ w.cell? ⟨(ad.add (i.toNat * 6)).block, (ad.add (i.toNat * 6)).off + 2, none⟩ = some (.slice A2 (q00 xs i).f2.length c2) ∧ w.cell? ⟨(ad.add (i.toNat * 6)).block, (ad.add (i.toNat * 6)).off + 3, none⟩ = some (.string (q00 xs i).f3) ∧ w.cell? ⟨(ad.add (i.toNat * 6)).block, (ad.add (i.toNat * 6)).off + 4, none⟩ = some (.int .i64 (q00 xs i).f4) ∧ w.cell? ⟨(ad.add (i.toNat * 6)).block, (ad.add (i.toNat * 6)).off + 5, none⟩ = some (.slice A5 (q00 xs i).f5.length c5) ∧ (q00 xs i).f2.length ≤ c2 ∧ k122.C w A2 (q00 xs i).f2.length (q00 xs i).f2 ∧ (q00 xs i).f5.length ≤ c5 ∧ (Kd.int .i64).C w A5 (q00 xs i).f5.length (q00 xs i).f5 := by
 obtain ⟨ad, c, e, _, hK, hc0⟩ := Kd.C_get h z43 i h0 h1
 have hc : ∀ j u, c[j]? = some u → w.cell? (ad.add (i.toNat * 6 + j)) = some u := hc0
 obtain ⟨A2, c2, A5, c5, rfl, l2, g2, l5, g5⟩ := k43_open hK
 exact ⟨ad, A2, c2, A5, c5, e, hc 0 _ rfl, by rw [← q0u _ _ 1 (by omega)]; exact hc 1 _ rfl, by rw [← q0u _ _ 2 (by omega)]; exact hc 2 _ rfl, by rw [← q0u _ _ 3 (by omega)]; exact hc 3 _ rfl, by rw [← q0u _ _ 4 (by omega)]; exact hc 4 _ rfl, by rw [← q0u _ _ 5 (by omega)]; exact hc 5 _ rfl, l2, g2, l5, g5⟩
theorem q0o {w w1 : World} {A : Option Addr} {n : Nat} {xs : List S43} (hb : Below w.heap.size w w1) (h : Kd.C k43 w A n xs) (i : Int) (h0 : decide (0 ≤ i) = true) (h1 : decide (i < n) = true) : ∃ ad A2 c2 A5 c5, A = some ad ∧ w1.cell? (ad.add (i.toNat * 6)) = some (.int .i64 (q00 xs i).f0) ∧ w1.cell? ⟨(ad.add (i.toNat * 6)).block, (ad.add (i.toNat * 6)).off + 1, none⟩ = some (.string (q00 xs i).f1) ∧ w1.cell? ⟨(ad.add (i.toNat * 6)).block, (ad.add (i.toNat * 6)).off + 2, none⟩ = some (.slice A2 (q00 xs i).f2.length c2) ∧ w1.cell? ⟨(ad.add (i.toNat * 6)).block, (ad.add (i.toNat * 6)).off + 3, none⟩ = some (.string (q00 xs i).f3) ∧ w1.cell? ⟨(ad.add (i.toNat * 6)).block, (ad.add (i.toNat * 6)).off + 4, none⟩ = some (.int .i64 (q00 xs i).f4) ∧ w1.cell? ⟨(ad.add (i.toNat * 6)).block, (ad.add (i.toNat * 6)).off + 5, none⟩ = some (.slice A5 (q00 xs i).f5.length c5) ∧ Aside0 ((q00 xs i).f2.length ≤ c2) ∧ Aside0 (k122.C w A2 (q00 xs i).f2.length (q00 xs i).f2) ∧ Aside0 ((q00 xs i).f5.length ≤ c5) ∧ Aside0 ((Kd.int .i64).C w A5 (q00 xs i).f5.length (q00 xs i).f5) ∧ (0 ≤ i) = True ∧ (i < n) = True :=
 let ⟨ad, A2, c2, A5, c5, e, x0, x1, x2, x3, x4, x5, m0, m1, m2, m3⟩ := at_T43 h i (of_decide_eq_true h0) (of_decide_eq_true h1)
 ⟨ad, A2, c2, A5, c5, e, q0f hb x0, q0f hb x1, q0f hb x2, q0f hb x3, q0f hb x4, q0f hb x5, ⟨m0⟩, ⟨m1⟩, ⟨m2⟩, ⟨m3⟩, eq_true (of_decide_eq_true h0), eq_true (of_decide_eq_true h1)⟩
structure S50 where
 f0 : Int
 f1 : Int
def z50 : S50 := ⟨(0 : Int), (0 : Int)⟩
def k50 : Kd S50 := Kd.iso (Kd.pair (Kd.int .i64) (Kd.int .i64)) (fun x : S50 => (x.f0, x.f1))
theorem k50_open {w : World} {x : S50} {cs : List Value} (h : k50.K w x cs) : cs = [.int .i64 x.f0, .int .i64 x.f1] := by
 obtain ⟨_, _, rfl, rfl, rfl⟩ := h
 exact rfl
theorem k50_mkM (w : World) (base : Nat) (ok : Nat → Prop) (x : S50)  : k50.M w base ok x [.int .i64 x.f0, .int .i64 x.f1] := ⟨[.int .i64 x.f0], [.int .i64 x.f1], rfl, rfl, rfl⟩
def q11 (xs : List S50) (i : Int) : S50 := xs.getD i.toNat z50
theorem at_T50 {w : World} {A : Option Addr} {n : Nat} {xs : List S50} (h : Kd.C k50 w A n xs) (i : Int) (h0 : 0 ≤ i) (h1 : i < n) : ∃ ad , A = some ad ∧ w.cell? (ad.add (i.toNat * 2)) = some (.int .i64 (q11 xs i).f0) ∧ w.cell? ⟨(ad.add (i.toNat * 2)).block, (ad.add (i.toNat * 2)).off + 1, none⟩ = some (.int .i64 (q11 xs i).f1) := by
 obtain ⟨ad, c, e, _, hK, hc0⟩ := Kd.C_get h z50 i h0 h1
 have hc : ∀ j u, c[j]? = some u → w.cell? (ad.add (i.toNat * 2 + j)) = some u := hc0
 obtain rfl := k50_open hK
 exact ⟨ad, e, hc 0 _ rfl, by rw [← q0u _ _ 1 (by omega)]; exact hc 1 _ rfl⟩
theorem at_T50A {w : World} {A : Option Addr} {n : Nat} {xs : List S50} (h : Kd.C k50 w A n xs) (i : Int) (h0 : decide (0 ≤ i) = true) (h1 : decide (i < n) = true) : ∃ ad, A = some ad ∧ w.cell? (ad.add (i.toNat * 2)) = some (.int .i64 (q11 xs i).f0) ∧ w.cell? ⟨(ad.add (i.toNat * 2)).block, (ad.add (i.toNat * 2)).off + 1, none⟩ = some (.int .i64 (q11 xs i).f1) ∧ (0 ≤ i) = True ∧ (i < n) = True :=
 let ⟨ad, e, x0, x1⟩ := at_T50 h i (of_decide_eq_true h0) (of_decide_eq_true h1)
 ⟨ad, e, x0, x1, eq_true (of_decide_eq_true h0), eq_true (of_decide_eq_true h1)⟩
structure S24 where
 f0 : (List S43)
 f1 : Bool
def k24 : Kd S24 := Kd.iso (Kd.pair (Kd.slice 43 k43) Kd.bool) (fun x : S24 => (x.f0, x.f1))
theorem k24_open {w : World} {x : S24} {cs : List Value} (h : k24.K w x cs) : ∃ A0 c0, cs = [.slice A0 x.f0.length c0, .bool x.f1] ∧ x.f0.length ≤ c0 ∧ k43.C w A0 x.f0.length x.f0 := by
 obtain ⟨_, _, rfl, ⟨A0, c0, rfl, l0, g0⟩, rfl⟩ := h
 exact ⟨A0, c0, rfl, l0, g0⟩
structure S52 where
 f0 : S50
 f1 : S50
def k52 : Kd S52 := Kd.iso (Kd.pair k50 k50) (fun x : S52 => (x.f0, x.f1))
theorem k52_open {w : World} {x : S52} {cs : List Value} (h : k52.K w x cs) : cs = [.int .i64 x.f0.f0, .int .i64 x.f0.f1, .int .i64 x.f1.f0, .int .i64 x.f1.f1] := by
 obtain ⟨_, _, rfl, s0, s2⟩ := h
 obtain rfl := k50_open s0
 obtain rfl := k50_open s2
 exact rfl
structure S87 where
 f0 : Int
 f1 : Int
 f2 : Int
 f3 : Int
 f4 : ByteArray
 f5 : ByteArray
 f6 : S43
def z87 : S87 := ⟨(0 : Int), (0 : Int), (0 : Int), (0 : Int), (⟨#[]⟩ : ByteArray), (⟨#[]⟩ : ByteArray), z43⟩
def k87 : Kd S87 := Kd.iso (Kd.pair (Kd.int .i64) (Kd.pair (Kd.int .i64) (Kd.pair (Kd.int .i64) (Kd.pair (Kd.int .i64) (Kd.pair Kd.string (Kd.pair Kd.string k43)))))) (fun x : S87 => (x.f0, x.f1, x.f2, x.f3, x.f4, x.f5, x.f6))
theorem k87_open {w : World} {x : S87} {cs : List Value} (h : k87.K w x cs) : ∃ A8 c8 A11 c11, cs = [.int .i64 x.f0, .int .i64 x.f1, .int .i64 x.f2, .int .i64 x.f3, .string x.f4, .string x.f5, .int .i64 x.f6.f0, .string x.f6.f1, .slice A8 x.f6.f2.length c8, .string x.f6.f3, .int .i64 x.f6.f4, .slice A11 x.f6.f5.length c11] ∧ x.f6.f2.length ≤ c8 ∧ k122.C w A8 x.f6.f2.length x.f6.f2 ∧ x.f6.f5.length ≤ c11 ∧ (Kd.int .i64).C w A11 x.f6.f5.length x.f6.f5 := by
 obtain ⟨_, _, rfl, rfl, ⟨_, _, rfl, rfl, ⟨_, _, rfl, rfl, ⟨_, _, rfl, rfl, ⟨_, _, rfl, rfl, ⟨_, _, rfl, rfl, s6⟩⟩⟩⟩⟩⟩ := h
 obtain ⟨A8, c8, A11, c11, rfl, l8, g8, l11, g11⟩ := k43_open s6
 exact ⟨A8, c8, A11, c11, rfl, l8, g8, l11, g11⟩
theorem k87_mkM (w : World) (base : Nat) (ok : Nat → Prop) (x : S87) {v8 : Value} (g8 : k122.R 122 w base ok v8 x.f6.f2) {v11 : Value} (g11 : (Kd.int .i64).R 3 w base ok v11 x.f6.f5) : k87.M w base ok x [.int .i64 x.f0, .int .i64 x.f1, .int .i64 x.f2, .int .i64 x.f3, .string x.f4, .string x.f5, .int .i64 x.f6.f0, .string x.f6.f1, v8, .string x.f6.f3, .int .i64 x.f6.f4, v11] := ⟨[.int .i64 x.f0], [.int .i64 x.f1, .int .i64 x.f2, .int .i64 x.f3, .string x.f4, .string x.f5, .int .i64 x.f6.f0, .string x.f6.f1, v8, .string x.f6.f3, .int .i64 x.f6.f4, v11], rfl, rfl, ⟨[.int .i64 x.f1], [.int .i64 x.f2, .int .i64 x.f3, .string x.f4, .string x.f5, .int .i64 x.f6.f0, .string x.f6.f1, v8, .string x.f6.f3, .int .i64 x.f6.f4, v11], rfl, rfl, ⟨[.int .i64 x.f2], [.int .i64 x.f3, .string x.f4, .string x.f5, .int .i64 x.f6.f0, .string x.f6.f1, v8, .string x.f6.f3, .int .i64 x.f6.f4, v11], rfl, rfl, ⟨[.int .i64 x.f3], [.string x.f4, .string x.f5, .int .i64 x.f6.f0, .string x.f6.f1, v8, .string x.f6.f3, .int .i64 x.f6.f4, v11], rfl, rfl, ⟨[.string x.f4], [.string x.f5, .int .i64 x.f6.f0, .string x.f6.f1, v8, .string x.f6.f3, .int .i64 x.f6.f4, v11], rfl, rfl, ⟨[.string x.f5], [.int .i64 x.f6.f0, .string x.f6.f1, v8, .string x.f6.f3, .int .i64 x.f6.f4, v11], rfl, rfl, (k43_mkM w base ok x.f6 g8 g11)⟩⟩⟩⟩⟩⟩
theorem k87_openF {W : World} {ok : Nat → Prop} {x : S87} {cs : List Value} (h : Kd.FK k87 W ok x cs) : ∃ A8 c8 A11 c11, cs = [.int .i64 x.f0, .int .i64 x.f1, .int .i64 x.f2, .int .i64 x.f3, .string x.f4, .string x.f5, .int .i64 x.f6.f0, .string x.f6.f1, .slice A8 x.f6.f2.length c8, .string x.f6.f3, .int .i64 x.f6.f4, .slice A11 x.f6.f5.length c11] ∧ x.f6.f2.length ≤ c8 ∧ Kd.F k122 W ok A8 x.f6.f2.length x.f6.f2 ∧ x.f6.f5.length ≤ c11 ∧ Kd.F (Kd.int .i64) W ok A11 x.f6.f5.length x.f6.f5 := by
 obtain ⟨A8, c8, A11, c11, rfl, l8, _, l11, _⟩ := k87_open (Kd.FK_now h)
 exact ⟨A8, c8, A11, c11, rfl, l8, (fun W' hW => by obtain ⟨A8_, c8_, A11_, c11_, he, l8_, g8_, l11_, g11_⟩ := k87_open (h W' hW); injection (Option.some.inj (show some (Value.slice A8 x.f6.f2.length c8) = some (Value.slice A8_ x.f6.f2.length c8_) from congrArg (fun l => l[8]?) he)) with ha_ _ _; rw [ha_]; exact g8_), l11, (fun W' hW => by obtain ⟨A8_, c8_, A11_, c11_, he, l8_, g8_, l11_, g11_⟩ := k87_open (h W' hW); injection (Option.some.inj (show some (Value.slice A11 x.f6.f5.length c11) = some (Value.slice A11_ x.f6.f5.length c11_) from congrArg (fun l => l[11]?) he)) with ha_ _ _; rw [ha_]; exact g11_)⟩
def q0g (xs : List S87) (i : Int) : S87 := xs.getD i.toNat z87
theorem at_T87 {w : World} {A : Option Addr} {n : Nat} {xs : List S87} (h : Kd.C k87 w A n xs) (i : Int) (h0 : 0 ≤ i) (h1 : i < n) : ∃ ad A8 c8 A11 c11, A = some ad ∧ w.cell? (ad.add (i.toNat * 12)) = some (.int .i64 (q0g xs i).f0) ∧ w.cell? ⟨(ad.add (i.toNat * 12)).block, (ad.add (i.toNat * 12)).off + 1, none⟩ = some (.int .i64 (q0g xs i).f1) ∧ w.cell? ⟨(ad.add (i.toNat * 12)).block, (ad.add (i.toNat * 12)).off + 2, none⟩ = some (.int .i64 (q0g xs i).f2) ∧ w.cell? ⟨(ad.add (i.toNat * 12)).block, (ad.add (i.toNat * 12)).off + 3, none⟩ = some (.int .i64 (q0g xs i).f3) ∧ w.cell? ⟨(ad.add (i.toNat * 12)).block, (ad.add (i.toNat * 12)).off + 4, none⟩ = some (.string (q0g xs i).f4) ∧ w.cell? ⟨(ad.add (i.toNat * 12)).block, (ad.add (i.toNat * 12)).off + 5, none⟩ = some (.string (q0g xs i).f5) ∧ w.cell? ⟨(ad.add (i.toNat * 12)).block, (ad.add (i.toNat * 12)).off + 6, none⟩ = some (.int .i64 (q0g xs i).f6.f0) ∧ w.cell? ⟨(ad.add (i.toNat * 12)).block, (ad.add (i.toNat * 12)).off + 7, none⟩ = some (.string (q0g xs i).f6.f1) ∧ w.cell? ⟨(ad.add (i.toNat * 12)).block, (ad.add (i.toNat * 12)).off + 8, none⟩ = some (.slice A8 (q0g xs i).f6.f2.length c8) ∧ w.cell? ⟨(ad.add (i.toNat * 12)).block, (ad.add (i.toNat * 12)).off + 9, none⟩ = some (.string (q0g xs i).f6.f3) ∧ w.cell? ⟨(ad.add (i.toNat * 12)).block, (ad.add (i.toNat * 12)).off + 10, none⟩ = some (.int .i64 (q0g xs i).f6.f4) ∧ w.cell? ⟨(ad.add (i.toNat * 12)).block, (ad.add (i.toNat * 12)).off + 11, none⟩ = some (.slice A11 (q0g xs i).f6.f5.length c11) ∧ (q0g xs i).f6.f2.length ≤ c8 ∧ k122.C w A8 (q0g xs i).f6.f2.length (q0g xs i).f6.f2 ∧ (q0g xs i).f6.f5.length ≤ c11 ∧ (Kd.int .i64).C w A11 (q0g xs i).f6.f5.length (q0g xs i).f6.f5 := by
 obtain ⟨ad, c, e, _, hK, hc0⟩ := Kd.C_get h z87 i h0 h1
 have hc : ∀ j u, c[j]? = some u → w.cell? (ad.add (i.toNat * 12 + j)) = some u := hc0
 obtain ⟨A8, c8, A11, c11, rfl, l8, g8, l11, g11⟩ := k87_open hK
 exact ⟨ad, A8, c8, A11, c11, e, hc 0 _ rfl, by rw [← q0u _ _ 1 (by omega)]; exact hc 1 _ rfl, by rw [← q0u _ _ 2 (by omega)]; exact hc 2 _ rfl, by rw [← q0u _ _ 3 (by omega)]; exact hc 3 _ rfl, by rw [← q0u _ _ 4 (by omega)]; exact hc 4 _ rfl, by rw [← q0u _ _ 5 (by omega)]; exact hc 5 _ rfl, by rw [← q0u _ _ 6 (by omega)]; exact hc 6 _ rfl, by rw [← q0u _ _ 7 (by omega)]; exact hc 7 _ rfl, by rw [← q0u _ _ 8 (by omega)]; exact hc 8 _ rfl, by rw [← q0u _ _ 9 (by omega)]; exact hc 9 _ rfl, by rw [← q0u _ _ 10 (by omega)]; exact hc 10 _ rfl, by rw [← q0u _ _ 11 (by omega)]; exact hc 11 _ rfl, l8, g8, l11, g11⟩
def clerestoryref1_Deep.l0 : Nat → Int → Int → List (S43) → Bool → Option (Int)
 | 0, _, _, _, _ => none
 | k + 1, x1, x5, x102000, x102001 => if 0 ≤ x1 then (if x1 < (x102000.length : Int) then (if ((q00 x102000 x1).f4) ≥ 0 then (if (wrap64 (x5 + 1)) > (x102000.length : Int) then (some (-1)) else (clerestoryref1_Deep.l0 k ((q00 x102000 x1).f4) (wrap64 (x5 + 1)) x102000 x102001)) else (some x5)) else (none)) else (none)
def clerestoryref1_Deep.f (k : Nat) (l0_0 : List (S43)) (a0_1 : Bool) (a1 : Int) : Option (Int) := clerestoryref1_Deep.l0 k a1 0 l0_0 a0_1
set_option maxHeartbeats 8000000 in
set_option maxRecDepth 100000 in
theorem clerestoryref1_Deep.calls (k : Nat) (A0_0 : Option Addr) (c0_0 : Nat) (l0_0 : List (S43)) (a0_1 : Bool) (a1 : Int) (r : Int) (w : World) (hr0_0 : Kd.C k43 w A0_0 l0_0.length l0_0) (hc0_0 : l0_0.length ≤ c0_0) (h : clerestoryref1_Deep.f k l0_0 a0_1 a1 = some r) :
 Calls Tryd.prog 65 #[.agg #[.slice A0_0 l0_0.length c0_0, .bool a0_1], .int .i64 a1] w fun e w' => e = .returned (.int .i64 r) ∧ Below w.heap.size w w' := by
 have hu24 := Tryd.underlying24
 have HR0_0 := aS hr0_0
 have HC0_0 := aS hc0_0
 clear hr0_0 hc0_0
 have HB := aS (Below.refl w.heap.size w)
 have H := h; clear h; unfold clerestoryref1_Deep.f at H
 have H' := aS H
 clear H
 go_enter Tryd.func65, Tryd.ntmps65
 go_wp2_with (first | ((with_reducible refine q07 (N := 2) rfl ?_); refine box0 rfl (N := 2) rfl (cs := #[.slice A0_0 l0_0.length c0_0, .bool a0_1]) (t := 24) zh (z7 HB.out) ?_; clear HB; intro gb101 w3 BK101 GW101 HB; have GE101 := GW101))
 go_loopg [1, 5] k (fun kq v1 v5 w' => ∃ (x1_1 : Int) (x5_1 : Int), v1 = .int .i64 x1_1 ∧ v5 = .int .i64 x5_1 ∧ Aside0 (clerestoryref1_Deep.l0 kq x1_1 x5_1 l0_0 a0_1 = some r) ∧ Aside0 (kq ≤ k) ∧ Aside0 (w'.heap[gb101]? = some (.cells #[(.slice A0_0 l0_0.length c0_0), .bool a0_1] 24 (0, 0))) ∧ Aside0 (Below w.heap.size w w'))
 case atStart => exact ⟨(a1), (0), zi, zi, H', ⟨Nat.le_refl _⟩, ⟨by (with_reducible repeat (first | refine kN ?_ _ | refine kD ?_ | refine kA ?_ _)); exact BK101.out⟩, ⟨by repeat (first | (with_reducible first | exact HB.out | apply bA | apply bN | apply bD | refine bS ?_ GE101.out) | exact HB.out)⟩⟩
 case round =>
  clear H'
  obtain ⟨x1_1, x5_1, rfl, rfl, HA, HK1, BK101, HB⟩ := hrel
  cases gk with
  | zero => exact absurd HA.out (by simp [clerestoryref1_Deep.l0])
  | succ k1 =>
   have H := HA.out
   clear HA
   simp only [clerestoryref1_Deep.l0] at H
   obtain ⟨hczL_0, hczL_1, hfzL_0, hfzL_1⟩ := bk2 BK101.out
   refine iLp H ?_; clear H; intro c4b0 H
   refine iTp H ?_; clear H; intro c5b0 H
   obtain ⟨ad102, A102_2, c102_2, A102_5, c102_5, e102, hx102_0, hx102_1, hx102_2, hx102_3, hx102_4, hx102_5, HC102_2, HR102_2, HC102_5, HR102_5, p102, q102⟩ := q0o HB.out HR0_0.out x1_1 zb zb
   cases e102
   refine iL H ?p6 ?n6 <;> clear H
   case' p6 =>
    intro c6b0 H
    obtain ⟨ad103, A103_2, c103_2, A103_5, c103_5, e103, hx103_0, hx103_1, hx103_2, hx103_3, hx103_4, hx103_5, HC103_2, HR103_2, HC103_5, HR103_5, p103, q103⟩ := q0o HB.out HR0_0.out x1_1 zb zb
    obtain rfl : ad102 = ad103 := (by injection e103)
    refine iT H ?p7 ?n7 <;> clear H
   case' p7 => intro c7b0 H
   case' n7 => intro c7b0 H
   case' n6 => intro c6b0 H
   case p7 =>
    obtain rfl := Option.some.inj H
    have ea_ := Option.some.inj (hx102_2.symm.trans hx103_2)
    injection ea_ with ea_ en_ ec_
    subst ea_
    subst ec_
    clear en_
    have ea_ := Option.some.inj (hx102_5.symm.trans hx103_5)
    injection ea_ with ea_ en_ ec_
    subst ea_
    subst ec_
    clear en_
    go_wp2
    go_ret
    exact ⟨by first | rfl | (simp [q05, q04] <;> rfl) | (simp [*, q05, q04] <;> rfl), by repeat (first | (with_reducible first | exact HB.out | apply bA | apply bN | apply bD | refine bS ?_ GE101.out) | exact HB.out)⟩
   case n7 =>
    have H' := aS H
    clear H
    have ea_ := Option.some.inj (hx102_2.symm.trans hx103_2)
    injection ea_ with ea_ en_ ec_
    subst ea_
    subst ec_
    clear en_
    have ea_ := Option.some.inj (hx102_5.symm.trans hx103_5)
    injection ea_ with ea_ en_ ec_
    subst ea_
    subst ec_
    clear en_
    go_wp2
    go_roundg k1
    case measure => have := HK1.out; omega
    case rel => exact ⟨((q00 l0_0 x1_1).f4), (wrap64 (x5_1 + 1)), zi, zi, H', ⟨by have := HK1.out; omega⟩, ⟨by (with_reducible repeat (first | refine kN ?_ _ | refine kD ?_ | refine kA ?_ _)); exact BK101.out⟩, ⟨by repeat (first | (with_reducible first | exact HB.out | apply bA | apply bN | apply bD | refine bS ?_ GE101.out) | exact HB.out)⟩⟩
   case n6 =>
    obtain rfl := Option.some.inj H
    go_wp2
    go_ret
    exact ⟨by first | rfl | (simp [q05, q04] <;> rfl) | (simp [*, q05, q04] <;> rfl), by repeat (first | (with_reducible first | exact HB.out | apply bA | apply bN | apply bD | refine bS ?_ GE101.out) | exact HB.out)⟩
def clerestoryref1_AttrOf.l0 : Nat → List (S122) → ByteArray → Int → Option (ByteArray × Bool)
 | 0, _, _, _ => none
 | k + 1, x0, x1, x6 => if x6 < (x0.length : Int) then (if 0 ≤ x6 then (if ((q0c x0 x6).f0).toList = x1.toList then (some ((q0c x0 x6).f1, true)) else (clerestoryref1_AttrOf.l0 k x0 x1 (wrap64 (x6 + 1)))) else (none)) else (some ((⟨#[]⟩ : ByteArray), false))
def clerestoryref1_AttrOf.f (k : Nat) (l0 : List (S122)) (a1 : ByteArray) : Option (ByteArray × Bool) := clerestoryref1_AttrOf.l0 k l0 a1 0
set_option maxHeartbeats 8000000 in
set_option maxRecDepth 100000 in
theorem clerestoryref1_AttrOf.calls (k : Nat) (A0 : Option Addr) (c0 : Nat) (l0 : List (S122)) (a1 : ByteArray) (r1 : ByteArray) (r2 : Bool) (w : World) (hr0 : Kd.C k122 w A0 l0.length l0) (hc0 : l0.length ≤ c0) (h : clerestoryref1_AttrOf.f k l0 a1 = some (r1, r2)) :
 Calls Tryd.prog 64 #[.slice A0 l0.length c0, .string a1] w fun e w' => e = .returned (.tuple #[.string r1, .bool r2]) ∧ Drawn0 w w' := by
 have HR0 := aS hr0
 have HC0 := aS hc0
 clear hr0 hc0
 have H := h; clear h; unfold clerestoryref1_AttrOf.f at H
 have H' := aS H
 clear H
 go_enter Tryd.func64, Tryd.ntmps64
 go_wp2
 go_loopg [6] k (fun kq v6 w' => ∃ (x6_1 : Int), v6 = .int .i64 x6_1 ∧ Aside0 (clerestoryref1_AttrOf.l0 kq l0 a1 x6_1 = some (r1, r2)) ∧ Aside0 (kq ≤ k) ∧ Drawn0 w w')
 case atStart => exact ⟨(0), zi, H', ⟨Nat.le_refl _⟩, by repeat (first | exact Drawn0.refl _ | apply Drawn0.step)⟩
 case round =>
  clear H'
  obtain ⟨x6_1, rfl, HA, HK1, ⟨m1, rfl⟩⟩ := hrel
  cases gk with
  | zero => exact absurd HA.out (by simp [clerestoryref1_AttrOf.l0])
  | succ k1 =>
   have H := HA.out
   clear HA
   simp only [clerestoryref1_AttrOf.l0] at H
   refine iT H ?p3 ?n3 <;> clear H
   case' p3 =>
    intro c3b0 H
    refine iLp H ?_; clear H; intro c4b0 H
    obtain ⟨ad104, e104, hx104_0, hx104_1, p104, q104⟩ := at_T122A HR0.out x6_1 zb zb
    cases e104
    refine iE H ?p5 ?n5 <;> clear H
   case' p5 => intro c5b0 c5b1 H
   case' n5 => intro c5 c5b0 c5b1 H
   case' n3 => intro c3b0 H
   case p5 =>
    simp only [Option.some.injEq, Prod.mk.injEq] at H
    obtain ⟨rfl, rfl⟩ := H
    obtain ⟨ad105, e105, hx105_0, hx105_1, p105, q105⟩ := at_T122A HR0.out x6_1 zb zb
    obtain rfl : ad104 = ad105 := (by injection e105)
    go_wp2
    go_ret2
    exact ⟨by first | rfl | (simp; done) | (simp [*]; done), by repeat (first | exact Drawn0.refl _ | apply Drawn0.step)⟩
   case n5 =>
    have H' := aS H
    clear H
    go_wp2
    go_roundg k1
    case measure => have := HK1.out; omega
    case rel => exact ⟨(wrap64 (x6_1 + 1)), zi, H', ⟨by have := HK1.out; omega⟩, by repeat (first | exact Drawn0.refl _ | apply Drawn0.step)⟩
   case n3 =>
    simp only [Option.some.injEq, Prod.mk.injEq] at H
    obtain ⟨rfl, rfl⟩ := H
    go_wp2
    go_ret2
    exact ⟨by first | rfl | (simp; done) | (simp [*]; done), by repeat (first | exact Drawn0.refl _ | apply Drawn0.step)⟩
def clerestoryref1_between.f (a0 : Int) (a1 : Int) (a2 : Int) : Option (Bool) := if a0 ≥ a1 then (some (decide (a0 ≤ a2))) else (some false)
set_option maxHeartbeats 8000000 in
set_option maxRecDepth 100000 in
theorem clerestoryref1_between.calls (a0 : Int) (a1 : Int) (a2 : Int) (r : Bool) (w : World) (h : clerestoryref1_between.f a0 a1 a2 = some r) :
 Calls Tryd.prog 73 #[.int .i64 a0, .int .i64 a1, .int .i64 a2] w fun e w' => e = .returned (.bool r) ∧ Drawn0 w w' := by
 have H := h; clear h; unfold clerestoryref1_between.f at H
 refine iL H ?p4 ?n4 <;> clear H
 case' p4 => intro c4b0 H
 case' n4 => intro c4b0 H
 case p4|n4 =>
  obtain rfl := Option.some.inj H
  go_enter Tryd.func73, Tryd.ntmps73
  go_wp2
  go_ret
  exact ⟨by first | rfl | (simp; done) | (simp [*]; done), by repeat (first | exact Drawn0.refl _ | apply Drawn0.step)⟩
mutual
def clerestoryref1_domName.j0 : Nat → ByteArray → Bool → Bool → Option (Bool)
 | 0, _, _, _ => none
 | k + 1, x0, x1, x15 => if x15 = true then (some false) else (clerestoryref1_domName.l0 k x0 x1 0)
def clerestoryref1_domName.l0 : Nat → ByteArray → Bool → Int → Option (Bool)
 | 0, _, _, _ => none
 | k + 1, x0, x1, x5 => if x5 < (x0.size : Int) then (if 0 ≤ x5 then (if (bt x0 x5) ≥ 97 then (clerestoryref1_domName.j2 k x0 x1 x5 (bt x0 x5) (decide ((bt x0 x5) ≤ 122))) else (clerestoryref1_domName.j2 k x0 x1 x5 (bt x0 x5) false)) else (none)) else (some true)
def clerestoryref1_domName.j2 : Nat → ByteArray → Bool → Int → Int → Bool → Option (Bool)
 | 0, _, _, _, _, _ => none
 | k + 1, x0, x1, x5, x6, x7 => if x7 = true then (clerestoryref1_domName.j3 k x0 x1 x5 x6 x7 false) else (if x6 ≥ 48 then (if x6 ≤ 57 then (clerestoryref1_domName.j3 k x0 x1 x5 x6 x7 false) else (if x6 = 45 then (clerestoryref1_domName.j3 k x0 x1 x5 x6 x7 false) else (if x6 = 95 then (clerestoryref1_domName.j3 k x0 x1 x5 x6 x7 false) else (clerestoryref1_domName.j3 k x0 x1 x5 x6 x7 (x6 != 58))))) else (if x6 = 45 then (clerestoryref1_domName.j3 k x0 x1 x5 x6 x7 false) else (if x6 = 95 then (clerestoryref1_domName.j3 k x0 x1 x5 x6 x7 false) else (clerestoryref1_domName.j3 k x0 x1 x5 x6 x7 (x6 != 58)))))
def clerestoryref1_domName.j3 : Nat → ByteArray → Bool → Int → Int → Bool → Bool → Option (Bool)
 | 0, _, _, _, _, _, _ => none
 | k + 1, x0, x1, x5, x6, x7, x53 => if x53 = true then (some false) else (if x5 = 0 then (if x7 = true then (clerestoryref1_domName.l0 k x0 x1 (wrap64 (x5 + 1))) else (if x1 = true then (some false) else (if x6 = 45 then (clerestoryref1_domName.l0 k x0 x1 (wrap64 (x5 + 1))) else (if x6 = 95 then (clerestoryref1_domName.l0 k x0 x1 (wrap64 (x5 + 1))) else (some false))))) else (clerestoryref1_domName.l0 k x0 x1 (wrap64 (x5 + 1))))
end
def clerestoryref1_domName.f (k : Nat) (a0 : ByteArray) (a1 : Bool) : Option (Bool) := if (a0.size : Int) < 1 then (clerestoryref1_domName.j0 k a0 a1 true) else (clerestoryref1_domName.j0 k a0 a1 (decide ((a0.size : Int) > 40)))
set_option maxHeartbeats 8000000 in
set_option maxRecDepth 100000 in
theorem clerestoryref1_domName.calls (k : Nat) (a0 : ByteArray) (a1 : Bool) (r : Bool) (w : World) (h : clerestoryref1_domName.f k a0 a1 = some r) :
 Calls Tryd.prog 120 #[.string a0, .bool a1] w fun e w' => e = .returned (.bool r) ∧ Drawn0 w w' := by
 have H := h; clear h; unfold clerestoryref1_domName.f at H
 have HC3 := aS H
 clear H
 go_enter Tryd.func120, Tryd.ntmps120
 go_upto_region 1 with (fail)
 go_cut [15] (fun v15 wc => ∃ (kq : Nat) (x15_2 : Bool), v15 = .bool x15_2 ∧ Aside0 (clerestoryref1_domName.j0 kq a0 a1 x15_2 = some r) ∧ Aside0 (kq ≤ k) ∧ Drawn0 w wc)
 case first =>
  have H := HC3.out
  clear HC3
  refine iTN (m := a0.size) (n := 1) H rfl rfl ?p4 ?n4 <;> clear H
  case' p4 => intro c4b0 c4b1 H
  case' n4 => intro c4b0 c4b1 H
  case p4 =>
   (first | rw [c4b0] | (simp only [q09, q0a]; rw [c4b0]) | skip)
   have H' := aS H
   clear H
   go_wp2
   go_meet
   case rel => exact ⟨_, _, zi, H', ⟨by first | omega | exact Nat.le_refl _⟩, by repeat (first | exact Drawn0.refl _ | apply Drawn0.step)⟩
  case n4 =>
   (first | rw [c4b0] | (simp only [q09, q0a]; rw [c4b0]) | skip)
   have H' := aS H
   clear H
   go_wp2
   go_meet
   case rel => exact ⟨_, (decide ((a0.size : Int) > 40)), zi, H', ⟨by first | omega | exact Nat.le_refl _⟩, by repeat (first | exact Drawn0.refl _ | apply Drawn0.step)⟩
 case rest =>
  clear HC3
  obtain ⟨kq, x15_2, rfl, HA, HJ2, ⟨mc2, rfl⟩⟩ := hcut
  cases kq with
  | zero => exact absurd HA.out (by simp [clerestoryref1_domName.j0])
  | succ kj2 =>
   have H := HA.out
   clear HA
   simp only [clerestoryref1_domName.j0] at H
   refine iV H ?p5 ?n5 <;> clear H
   case' p5 => intro c5 H; subst c5
   case' n5 => intro c5 H; subst c5
   case p5 =>
    obtain rfl := Option.some.inj H
    go_wp2
    go_ret
    exact ⟨by first | rfl | (simp; done) | (simp [*]; done), by repeat (first | exact Drawn0.refl _ | apply Drawn0.step)⟩
   case n5 =>
    have H' := aS H
    clear H
    go_wp2
    go_loopg [5] kj2 (fun kq v5 w' => ∃ (x5_2 : Int), v5 = .int .i64 x5_2 ∧ Aside0 (clerestoryref1_domName.l0 kq a0 a1 x5_2 = some r) ∧ Aside0 (kq ≤ kj2) ∧ Drawn0 w w')
    case atStart => exact ⟨(0), zi, H', ⟨Nat.le_refl _⟩, by repeat (first | exact Drawn0.refl _ | apply Drawn0.step)⟩
    case round =>
     clear H'
     obtain ⟨x5_2, rfl, HA, HK2, ⟨m2, rfl⟩⟩ := hrel
     cases gk with
     | zero => exact absurd HA.out (by simp [clerestoryref1_domName.l0])
     | succ k2 =>
      have H := HA.out
      clear HA
      simp only [clerestoryref1_domName.l0] at H
      refine iT H ?p6 ?n6 <;> clear H
      case' p6 => intro c6b0 H; refine iLp H ?_; clear H; intro c7b0 H
      case' n6 => intro c6b0 H
      case p6 =>
       have HC9 := aS H
       clear H
       have p8 : 0 ≤ (x5_2 : Int) := od zb
       have q8 : x5_2 < (a0.size : Int) := od zb
       have hx8 := bt_at a0 x5_2
       replace p8 := eq_true p8
       replace q8 := eq_true q8
       go_upto_region 7 with (fail)
       go_cut [7] (fun v7 wc => ∃ (kq : Nat) (x7_8 : Bool), v7 = .bool x7_8 ∧ Aside0 (clerestoryref1_domName.j2 kq a0 a1 x5_2 (bt a0 x5_2) x7_8 = some r) ∧ Aside0 (kq ≤ k2) ∧ Drawn0 w wc)
       case first =>
        have H := HC9.out
        clear HC9
        refine iL H ?p10 ?n10 <;> clear H
        case' p10 => intro c10b0 H
        case' n10 => intro c10b0 H
        case p10 =>
         (first | rw [c10b0] | (simp only [q09, q0a]; rw [c10b0]) | skip)
         have H' := aS H
         clear H
         go_wp2
         go_meet
         case rel => exact ⟨_, (decide ((bt a0 x5_2) ≤ 122)), zi, H', ⟨by have := HJ2.out; have := HK2.out; first | omega | exact Nat.le_refl _⟩, by repeat (first | exact Drawn0.refl _ | apply Drawn0.step)⟩
        case n10 =>
         (first | rw [c10b0] | (simp only [q09, q0a]; rw [c10b0]) | skip)
         have H' := aS H
         clear H
         go_wp2
         go_meet
         case rel => exact ⟨_, _, zi, H', ⟨by have := HJ2.out; have := HK2.out; first | omega | exact Nat.le_refl _⟩, by repeat (first | exact Drawn0.refl _ | apply Drawn0.step)⟩
       case rest =>
        clear HC9
        obtain ⟨kq, x7_8, rfl, HA, HJ8, ⟨mc8, rfl⟩⟩ := hcut
        cases kq with
        | zero => exact absurd HA.out (by simp [clerestoryref1_domName.j2])
        | succ kj8 =>
         have H := HA.out
         clear HA
         simp only [clerestoryref1_domName.j2] at H
         have HC11 := aS H
         clear H
         go_upto_region 8 with (fail)
         go_cut [53] (fun v53 wc => ∃ (kq : Nat) (x53_10 : Bool), v53 = .bool x53_10 ∧ Aside0 (clerestoryref1_domName.j3 kq a0 a1 x5_2 (bt a0 x5_2) x7_8 x53_10 = some r) ∧ Aside0 (kq ≤ kj8) ∧ Drawn0 w wc)
         case first =>
          have H := HC11.out
          clear HC11
          refine iV H ?p12 ?n12 <;> clear H
          case' p12 => intro c12 H; subst c12
          case' n12 => intro c12 H; subst c12; refine iL H ?p13 ?n13 <;> clear H
          case' p13 => intro c13b0 H; (first | rw [c13b0] | (simp only [q09, q0a]; rw [c13b0]) | skip); refine iL H ?p14 ?n14 <;> clear H
          case' p14 => intro c14b0 H
          case' n14 => intro c14b0 H; refine iE H ?p15 ?n15 <;> clear H
          case' p15 => intro c15b0 c15b1 H
          case' n15 => intro c15 c15b0 c15b1 H; refine iE H ?p16 ?n16 <;> clear H
          case' p16 => intro c16b0 c16b1 H
          case' n16 => intro c16 c16b0 c16b1 H
          case' n13 => intro c13b0 H; (first | rw [c13b0] | (simp only [q09, q0a]; rw [c13b0]) | skip); refine iE H ?p17 ?n17 <;> clear H
          case' p17 => intro c17b0 c17b1 H
          case' n17 => intro c17 c17b0 c17b1 H; refine iE H ?p18 ?n18 <;> clear H
          case' p18 => intro c18b0 c18b1 H
          case' n18 => intro c18 c18b0 c18b1 H
          case p12|p14|p15|p16|p17|p18 =>
           have H' := aS H
           clear H
           go_wp2
           go_meet
           case rel => exact ⟨_, _, zi, H', ⟨by have := HJ2.out; have := HK2.out; have := HJ8.out; first | omega | exact Nat.le_refl _⟩, by repeat (first | exact Drawn0.refl _ | apply Drawn0.step)⟩
          case n16|n18 =>
           have H' := aS H
           clear H
           go_wp2
           go_meet
           case rel => exact ⟨_, (((bt a0 x5_2) != 58)), zi, H', ⟨by have := HJ2.out; have := HK2.out; have := HJ8.out; first | omega | exact Nat.le_refl _⟩, by repeat (first | exact Drawn0.refl _ | apply Drawn0.step)⟩
         case rest =>
          clear HC11
          obtain ⟨kq, x53_10, rfl, HA, HJ10, ⟨mc10, rfl⟩⟩ := hcut
          cases kq with
          | zero => exact absurd HA.out (by simp [clerestoryref1_domName.j3])
          | succ kj10 =>
           have H := HA.out
           clear HA
           simp only [clerestoryref1_domName.j3] at H
           refine iV H ?p19 ?n19 <;> clear H
           case' p19 => intro c19 H; subst c19
           case' n19 => intro c19 H; subst c19; refine iE H ?p20 ?n20 <;> clear H
           case' p20 => intro c20b0 c20b1 H; refine iV H ?p21 ?n21 <;> clear H
           case' p21 => intro c21 H; subst c21
           case' n21 => intro c21 H; subst c21; refine iV H ?p22 ?n22 <;> clear H
           case' p22 => intro c22 H; subst c22
           case' n22 => intro c22 H; subst c22; refine iE H ?p23 ?n23 <;> clear H
           case' p23 => intro c23b0 c23b1 H
           case' n23 => intro c23 c23b0 c23b1 H; refine iE H ?p24 ?n24 <;> clear H
           case' p24 => intro c24b0 c24b1 H
           case' n24 => intro c24 c24b0 c24b1 H
           case' n20 => intro c20 c20b0 c20b1 H
           case p19|p22|n24 =>
            obtain rfl := Option.some.inj H
            go_wp2
            go_ret
            exact ⟨by first | rfl | (simp; done) | (simp [*]; done), by repeat (first | exact Drawn0.refl _ | apply Drawn0.step)⟩
           case p21|p23|p24|n20 =>
            have H' := aS H
            clear H
            go_wp2
            go_roundg kj10
            case measure => have := HJ2.out; have := HK2.out; have := HJ8.out; have := HJ10.out; omega
            case rel => exact ⟨(wrap64 (x5_2 + 1)), zi, H', ⟨by have := HJ2.out; have := HK2.out; have := HJ8.out; have := HJ10.out; omega⟩, by repeat (first | exact Drawn0.refl _ | apply Drawn0.step)⟩
      case n6 =>
       obtain rfl := Option.some.inj H
       go_wp2
       go_ret
       exact ⟨by first | rfl | (simp; done) | (simp [*]; done), by repeat (first | exact Drawn0.refl _ | apply Drawn0.step)⟩
def clerestorylaw1_few.f (l0_0 : List (S43)) (a0_1 : Bool) (a1 : Int) : Option ((List (S43)) × Bool) := if 0 ≤ (mn (l0_0.length : Int) a1) then (if (mn (l0_0.length : Int) a1) ≤ (l0_0.length : Int) then (some ((l0_0.take ((mn (l0_0.length : Int) a1) : Int).toNat), a0_1)) else (none)) else (none)
set_option maxHeartbeats 8000000 in
set_option maxRecDepth 100000 in
theorem clerestorylaw1_few.calls (P0_0_ : Nat → Prop) (A0_0 : Option Addr) (c0_0 : Nat) (l0_0 : List (S43)) (a0_1 : Bool) (a1 : Int) (r1 : List (S43)) (r2 : Bool) (w : World) (hs0_0 : Kd.V k43 43 w w.heap.size (fun k_ => P0_0_ k_) (.slice A0_0 l0_0.length c0_0) l0_0) (h : clerestorylaw1_few.f l0_0 a0_1 a1 = some (r1, r2)) :
 Calls Tryd.prog 15 #[.agg #[.slice A0_0 l0_0.length c0_0, .bool a0_1], .int .i64 a1] w fun e w' => ∃ v0_ : Value, e = .returned (.agg #[v0_, .bool r2]) ∧ Kd.V k43 43 w' w.heap.size (fun k_ => (P0_0_ k_ ∨ w.heap.size ≤ k_)) v0_ r1 ∧ Below w.heap.size w w' := by
 have hu24 := Tryd.underlying24
 have HO0_0 := aS (show Kd.V k43 43 w w.heap.size (fun k_ => (P0_0_ k_ ∨ w.heap.size ≤ k_)) (.slice A0_0 l0_0.length c0_0) l0_0 from Kd.V_mono hs0_0 (fun k_ hk => .inl hk))
 have HB := aS (Below.refl w.heap.size w)
 have H := h; clear h; unfold clerestorylaw1_few.f at H
 obtain ⟨ji3, hji3⟩ : ∃ j_ : Int, (mn (l0_0.length : Int) a1) = j_ := ⟨_, rfl⟩
 replace H : (if 0 ≤ (ji3) then (if (ji3) ≤ (l0_0.length : Int) then (some ((l0_0.take ((ji3) : Int).toNat), a0_1)) else (none)) else (none)) = some (r1, r2) := by first | (rw [hji3] at H; exact H) | (simp only [hji3] at H ⊢; exact H)
 have hji3_ : (if a1 < (l0_0.length : Int) then a1 else (l0_0.length : Int)) = ji3 := hji3
 refine iGp H ?_; clear H; intro c4 H
 have c4b0 := eq_true c4
 have c4b1 : decide (0 ≤ (ji3)) = true := decide_eq_true c4
 clear c4
 refine iGp H ?_; clear H; intro c5 H
 have c5b0 := eq_true c5
 have c5b1 : decide ((ji3) ≤ (l0_0.length : Int)) = true := decide_eq_true c5
 clear c5
 obtain ⟨y143, hy143⟩ : ∃ y_ : List (S43), y_ = (l0_0.take ((ji3) : Int).toNat) := ⟨_, rfl⟩
 replace H : (some (y143, a0_1)) = some (r1, r2) := by first | (rw [hy143]; with_reducible exact H) | (have H2_ := (Option.bind_some _ _).symm.trans H; rw [hy143]; with_reducible exact H2_) | (have H2_ := (Option.bind_some _ _).symm.trans H; with_reducible exact H2_) | with_reducible exact H | (rw [hy143]; exact H) | exact H
 have Ny143 := aS hy143
 clear hy143
 simp only [Option.some.injEq, Prod.mk.injEq] at H
 obtain ⟨rfl, rfl⟩ := H
 go_enter Tryd.func15, Tryd.ntmps15
 go_wp2_with (first | ((with_reducible refine q07 (N := 2) rfl ?_); refine q0j ?hg (N := 2) ?hd (cs := #[.slice A0_0 l0_0.length c0_0, .bool a0_1]) (t := 24) ?hr ?_; (case hd => rfl); (case hg => rfl); (case hr => first | (go_simp; done) | (go_simp; rfl)); intro gb141 hg w6 hbox hb; replace HO0_0 := aS (Kd.V_below (Kd.V_elderB (ze HO0_0.out) gb141 (Nat.le_of_eq hg.symm)) hb); have BK141 := aS (hbox); have GW141 := aS ((by rw [hg]; exact (q06 (z7 HB.out)) : w.heap.size ≤ gb141)); have GE141 := aS ((by rw [hg]; exact (q06 (z7 HB.out)) : w.heap.size ≤ gb141)); replace HB := aS (q02 (z7 HB.out) hb); clear hb hbox hg) | ((with_reducible refine q07 (N := 4) rfl ?_); refine q0j ?hg (N := 4) ?hd (cs := #[.slice none 0 0, .bool false]) (t := 24) ?hr ?_; (case hd => rfl); (case hg => rfl); (case hr => first | (go_simp; done) | (go_simp; rfl)); intro gb142 hg w7 hbox hb; have n0_ := aS (Kd.V_below (Kd.V_elderB (ze HO0_0.out) gb142 (Nat.le_of_eq hg.symm)) hb); have n1_ := aS (q01 (g := gb141) (o := .cells #[.slice A0_0 l0_0.length c0_0, .bool a0_1] 24 (0, 0)) (za BK141.out) hb); have n2_ := aS (q02 (z6 HB.out GE141.out) hb); have n3_ := aS (hbox); have n4_ := aS ((by rw [hg]; exact (q06 (z6 HB.out GE141.out)) : w.heap.size ≤ gb142)); have n5_ := aS ((by rw [hg]; exact (q06 (z6 HB.out GE141.out)) : w.heap.size ≤ gb142)); have n6_ := aS ((by rw [hg]; exact Nat.ne_of_lt (q0i (g := gb141) (o := .cells #[.slice A0_0 l0_0.length c0_0, .bool a0_1] 24 (0, 0)) (za BK141.out)) : gb141 ≠ gb142)); have n7_ := aS ((by rw [hg]; exact Nat.ne_of_gt (q0i (g := gb141) (o := .cells #[.slice A0_0 l0_0.length c0_0, .bool a0_1] 24 (0, 0)) (za BK141.out)) : gb142 ≠ gb141)); clear HO0_0; clear BK141; clear HB; have HO0_0 := n0_; have BK141 := n1_; have HB := n2_; have BK142 := n3_; have GW142 := n4_; have GE142 := n5_; have NB141_142 := n6_; have NB142_141 := n7_; clear n0_ n1_ n2_ n3_ n4_ n5_ n6_ n7_; clear hb hbox hg; have hnb8 := NB141_142.out; have hnc8 := NB142_141.out; obtain ⟨hczL_0, hczL_1, hfzL_0, hfzL_1⟩ := bk2 BK141.out; have q10 : ((ji3) : Int) ≤ ((l0_0.length : Int) : Int) := od zb; obtain ⟨i010, hi010, _, hsz10, _⟩ := info_parts info43; have hroom10 : l0_0.length ≤ c0_0 := (Kd.V_reads' HO0_0.out).2.1; have hC10 : Kd.F k43 _ _ A0_0 l0_0.length l0_0 := (Kd.V_at (base := w.heap.size) HO0_0.out).2.2; have hcut10 := cut_to (P := Tryd.prog) 22 43 .i64 Tryd.underlying22 hi010 A0_0 l0_0.length c0_0 (ji3) (od zb) q10 hroom10; have hr10 := Kd.F_take (m := ((ji3) : Int).toNat) hC10 (by omega); have hy10 : y143.length = ((ji3) : Int).toNat := (by rw [Ny143.out, List.length_take]; omega); rw [← Ny143.out] at hr10; rw [← hy10] at hcut10; have HO147 := aS (show Kd.V k43 43 _ w.heap.size _ (.slice A0_0 y143.length c0_0) y143 from Kd.V_mk (by omega) hr10); have HC147 := aS (show y143.length ≤ c0_0 from by omega); clear hr10 hC10 hroom10 hi010 hsz10; have KY10 := aS hy10; clear hy10; replace q10 := eq_true q10; obtain ⟨hczL_0, hczL_1, hfzL_0, hfzL_1⟩ := bk2 BK142.out))
 refine bodyPost_ret (results_cell_row rfl _ _ gb142 24 #[.slice A0_0 y143.length c0_0, .bool a0_1] (0, 0) _ rfl (by (with_reducible repeat (first | refine kN ?_ _ | refine kD ?_ | refine kA ?_ _)); refine q0h (cs := #[.slice A0_0 y143.length c0_0, .bool false]) ?_ 1 _ rfl; (with_reducible repeat (first | refine kN ?_ _ | refine kD ?_ | refine kA ?_ _)); refine q0h (cs := #[.slice none 0 0, .bool false]) ?_ 0 _ rfl; (with_reducible repeat (first | refine kN ?_ _ | refine kD ?_ | refine kA ?_ _)); refine q0d ?_ NB142_141.out _; (with_reducible repeat (first | refine kN ?_ _ | refine kD ?_ | refine kA ?_ _)); exact BK142.out) Tryd.underlying24 rfl (by kernel_rfl)) rfl ?_
 exact ⟨_, by first | rfl | (simp [q05, q04] <;> rfl) | (simp only [← hji3]; first | rfl | (simp [q05, q04] <;> rfl)) | (simp [*, q05, q04] <;> rfl), by (with_reducible repeat (first | apply vA | apply vN | apply vD)); exact Kd.V_mono (Kd.V_far (p := ⟨gb142, 1, none⟩) (Kd.V_far (p := ⟨gb142, 0, none⟩) (Kd.V_far (p := ⟨gb141, 0, none⟩) (Kd.V_mono (Kd.V_mono HO147.out (fun k_ hk => (⟨hk, hk.1.2⟩ : _ ∧ k_ ≠ gb141))) (fun k_ hk => (⟨hk, hk.1.2⟩ : _ ∧ k_ ≠ gb142))) (fun _ hk => hk.1.2) (.slice A0_0 y143.length c0_0)) (fun _ hk => hk.2) (.slice A0_0 y143.length c0_0)) (fun _ hk => hk.2) (.bool a0_1)) (fun _ hk => hk.1.1.1.1), by repeat (first | (with_reducible first | exact HB.out | apply bA | apply bN | apply bD | refine bS ?_ GE141.out | refine bS ?_ GE142.out) | exact HB.out)⟩
def clerestorylaw1_some.f (a0 : ByteArray) (a1 : Int) : Option (ByteArray) := if 0 ≤ (mn (a0.size : Int) a1) then (if (mn (a0.size : Int) a1) ≤ (a0.size : Int) then (some (a0.extract 0 ((mn (a0.size : Int) a1) : Int).toNat)) else (none)) else (none)
set_option maxHeartbeats 8000000 in
set_option maxRecDepth 100000 in
theorem clerestorylaw1_some.calls (a0 : ByteArray) (a1 : Int) (r : ByteArray) (w : World) (h : clerestorylaw1_some.f a0 a1 = some r) :
 Calls Tryd.prog 42 #[.string a0, .int .i64 a1] w fun e w' => e = .returned (.string r) ∧ Below w.heap.size w w' := by
 have HB := aS (Below.refl w.heap.size w)
 have H := h; clear h; unfold clerestorylaw1_some.f at H
 obtain ⟨ji3, hji3⟩ : ∃ j_ : Int, (mn (a0.size : Int) a1) = j_ := ⟨_, rfl⟩
 replace H : (if 0 ≤ (ji3) then (if (ji3) ≤ (a0.size : Int) then (some (a0.extract 0 ((ji3) : Int).toNat)) else (none)) else (none)) = some r := by first | (rw [hji3] at H; exact H) | (simp only [hji3] at H ⊢; exact H)
 have hji3_ : (if a1 < (a0.size : Int) then a1 else (a0.size : Int)) = ji3 := hji3
 refine iGp H ?_; clear H; intro c4 H
 have c4b0 := eq_true c4
 have c4b1 : decide (0 ≤ (ji3)) = true := decide_eq_true c4
 clear c4
 refine iGp H ?_; clear H; intro c5 H
 have c5b0 := eq_true c5
 have c5b1 : decide ((ji3) ≤ (a0.size : Int)) = true := decide_eq_true c5
 clear c5
 obtain rfl := Option.some.inj H
 go_enter Tryd.func42, Tryd.ntmps42
 go_wp2
 go_ret
 exact ⟨by first | rfl | (simp [q05, q04] <;> rfl) | (simp only [← hji3]; first | rfl | (simp [q05, q04] <;> rfl)) | (simp [*, q05, q04] <;> rfl), by repeat (first | (with_reducible first | exact HB.out | apply bA | apply bN | apply bD) | exact HB.out)⟩
def clerestorylaw1_brief.l0 : Nat → List (S43) → Int → List (S43) → Bool → Option ((List (S43)) × Bool)
 | 0, _, _, _, _ => none
 | k + 1, x3, x4, x149000, x149001 => if x4 < (x3.length : Int) then (if 0 ≤ x4 then ((clerestorylaw1_some.f ((q00 x3 x4).f3) 30).bind fun t161 => (clerestorylaw1_brief.l0 k (x3.set (x4 : Int).toNat (⟨(q00 x3 x4).f0, (q00 x3 x4).f1, (q00 x3 x4).f2, t161, (q00 x3 x4).f4, (q00 x3 x4).f5⟩ : S43)) (wrap64 (x4 + 1)) x149000 x149001)) else (none)) else (some (x3, x149001))
def clerestorylaw1_brief.f (k : Nat) (l0_0 : List (S43)) (a0_1 : Bool) : Option ((List (S43)) × Bool) := (clerestorylaw1_few.f l0_0 a0_1 25).bind fun bt150 => ((some (([] : List (S43)) : List (S43))).bind fun y154 => (if y154.length + bt150.1.length < 1466015503701 then (clerestorylaw1_brief.l0 k (y154 ++ bt150.1) 0 bt150.1 bt150.2) else (none)))
set_option maxHeartbeats 8000000 in
set_option maxRecDepth 100000 in
theorem clerestorylaw1_brief.calls (k : Nat) (P0_0_ : Nat → Prop) (A0_0 : Option Addr) (c0_0 : Nat) (l0_0 : List (S43)) (a0_1 : Bool) (r1 : List (S43)) (r2 : Bool) (w : World) (hs0_0 : Kd.V k43 43 w w.heap.size (fun k_ => P0_0_ k_) (.slice A0_0 l0_0.length c0_0) l0_0) (h : clerestorylaw1_brief.f k l0_0 a0_1 = some (r1, r2)) :
 Calls Tryd.prog 31 #[.agg #[.slice A0_0 l0_0.length c0_0, .bool a0_1]] w fun e w' => ∃ v0_ : Value, e = .returned (.agg #[v0_, .bool r2]) ∧ Kd.N k43 43 w' w.heap.size (fun k_ => (P0_0_ k_ ∨ w.heap.size ≤ k_)) v0_ r1 ∧ Below w.heap.size w w' := by
 have hu24 := Tryd.underlying24
 have HO0_0 := aS (show Kd.V k43 43 w w.heap.size (fun k_ => (P0_0_ k_ ∨ w.heap.size ≤ k_)) (.slice A0_0 l0_0.length c0_0) l0_0 from Kd.V_mono hs0_0 (fun k_ hk => .inl hk))
 have HB := aS (Below.refl w.heap.size w)
 have H := h; clear h; unfold clerestorylaw1_brief.f at H
 replace H := iB H
 obtain ⟨⟨t150, t153⟩, A2, H⟩ := H
 try dsimp only at H
 obtain ⟨y154, hy154⟩ : ∃ y_ : List (S43), y_ = (([] : List (S43))) := ⟨_, rfl⟩
 replace H : (if y154.length + t150.length < 1466015503701 then (clerestorylaw1_brief.l0 k (y154 ++ t150) 0 t150 t153) else (none)) = some (r1, r2) := by first | (rw [hy154]; with_reducible exact H) | (have H2_ := (Option.bind_some _ _).symm.trans H; rw [hy154]; with_reducible exact H2_) | (have H2_ := (Option.bind_some _ _).symm.trans H; with_reducible exact H2_) | with_reducible exact H | (rw [hy154]; exact H) | exact H
 have Ny154 := aS hy154
 clear hy154
 refine iGp H ?_; clear H; intro c3 H
 have LMc3 := aS c3
 clear c3
 obtain ⟨y157, hy157⟩ : ∃ y_ : List (S43), y_ = (y154 ++ t150) := ⟨_, rfl⟩
 replace H : (clerestorylaw1_brief.l0 k y157 0 t150 t153) = some (r1, r2) := by first | (rw [hy157]; with_reducible exact H) | (have H2_ := (Option.bind_some _ _).symm.trans H; rw [hy157]; with_reducible exact H2_) | (have H2_ := (Option.bind_some _ _).symm.trans H; with_reducible exact H2_) | with_reducible exact H | (rw [hy157]; exact H) | exact H
 have Ny157 := aS hy157
 clear hy157
 have H' := aS H
 clear H
 go_enter Tryd.func31, Tryd.ntmps31
 go_wp2_with (first | ((with_reducible refine q07 (N := 1) rfl ?_); refine q0j ?hg (N := 1) ?hd (cs := #[.slice A0_0 l0_0.length c0_0, .bool a0_1]) (t := 24) ?hr ?_; (case hd => rfl); (case hg => rfl); (case hr => first | (go_simp; done) | (go_simp; rfl)); intro gb148 hg w4 hbox hb; replace HO0_0 := aS (Kd.V_below (Kd.V_elderB (ze HO0_0.out) gb148 (Nat.le_of_eq hg.symm)) hb); have BK148 := aS (hbox); have GW148 := aS ((by rw [hg]; exact (q06 (z7 HB.out)) : w.heap.size ≤ gb148)); have GE148 := aS ((by rw [hg]; exact (q06 (z7 HB.out)) : w.heap.size ≤ gb148)); replace HB := aS (q02 (z7 HB.out) hb); clear hb hbox hg) | ((with_reducible refine q07 (N := 2) rfl ?_); refine q0j ?hg (N := 2) ?hd (cs := #[.slice none 0 0, .bool false]) (t := 24) ?hr ?_; (case hd => rfl); (case hg => rfl); (case hr => first | (go_simp; done) | (go_simp; rfl)); intro gb149 hg w5 hbox hb; have n0_ := aS (Kd.V_below (Kd.V_elderB (ze HO0_0.out) gb149 (Nat.le_of_eq hg.symm)) hb); have n1_ := aS (q01 (g := gb148) (o := .cells #[.slice A0_0 l0_0.length c0_0, .bool a0_1] 24 (0, 0)) (za BK148.out) hb); have n2_ := aS (q02 (z6 HB.out GE148.out) hb); have n3_ := aS (hbox); have n4_ := aS ((by rw [hg]; exact (q06 (z6 HB.out GE148.out)) : w.heap.size ≤ gb149)); have n5_ := aS ((by rw [hg]; exact (q06 (z6 HB.out GE148.out)) : w.heap.size ≤ gb149)); have n6_ := aS ((by rw [hg]; exact Nat.ne_of_lt (q0i (g := gb148) (o := .cells #[.slice A0_0 l0_0.length c0_0, .bool a0_1] 24 (0, 0)) (za BK148.out)) : gb148 ≠ gb149)); have n7_ := aS ((by rw [hg]; exact Nat.ne_of_gt (q0i (g := gb148) (o := .cells #[.slice A0_0 l0_0.length c0_0, .bool a0_1] 24 (0, 0)) (za BK148.out)) : gb149 ≠ gb148)); clear HO0_0; clear BK148; clear HB; have HO0_0 := n0_; have BK148 := n1_; have HB := n2_; have BK149 := n3_; have GW149 := n4_; have GE149 := n5_; have NB148_149 := n6_; have NB149_148 := n7_; clear n0_ n1_ n2_ n3_ n4_ n5_ n6_ n7_; clear hb hbox hg; have hnb6 := NB148_149.out; have hnc6 := NB149_148.out; obtain ⟨hczL_0, hczL_1, hfzL_0, hfzL_1⟩ := bk2 BK148.out) | ((with_reducible refine q08 (f := 15) rfl ?_); refine q0n (some 6) rfl rfl Tryd.func15 (by kernel_rfl) rfl #[.agg #[.slice A0_0 l0_0.length c0_0, .bool a0_1], .int .i64 25] rfl zc ?_; (with_reducible refine (clerestorylaw1_few.calls (fun k_ => (((P0_0_ k_ ∨ w.heap.size ≤ k_) ∧ k_ ≠ gb148) ∧ k_ ≠ gb149)) _ _ l0_0 a0_1 25 t150 t153 _ ?side1 A2.out).mono ?_); (case side1 => exact HO0_0.out); rintro e w8 ⟨v151, rfl, ho0, hb⟩; refine ⟨_, rfl, ?_⟩; replace HO0_0 := aS (Kd.V_below (ze HO0_0.out) hb); have HO152 := aS (Kd.V_lower (Kd.V_mono (ok' := fun k_ => (P0_0_ k_ ∨ w.heap.size ≤ k_) ∧ k_ ≠ gb148 ∧ k_ ≠ gb149) ho0 (fun k_ hk_ => ⟨Or.elim hk_ (fun hs_ => hs_.1.1) (fun hn_ => (.inr (Nat.le_trans (q06 (by repeat (first | (with_reducible first | exact HB.out | apply bA | apply bN | apply bD | refine bS ?_ GE148.out | refine bS ?_ GE149.out) | exact HB.out))) hn_))), Or.elim hk_ (fun hs_ => hs_.1.2) (fun hn_ => (Kd.freshB (g := gb148) (o := .cells #[.slice A0_0 l0_0.length c0_0, .bool a0_1] 24 (0, 0)) (za BK148.out) k_ hn_)), Or.elim hk_ (fun hs_ => hs_.2) (fun hn_ => (Kd.freshB (g := gb149) (o := .cells #[.slice none 0 0, .bool false] 24 (0, 0)) (za BK149.out) k_ hn_))⟩)) (q06 (by repeat (first | (with_reducible first | exact HB.out | apply bA | apply bN | apply bD | refine bS ?_ GE148.out | refine bS ?_ GE149.out) | exact HB.out)))); replace BK148 := aS (q01 (g := gb148) (o := .cells #[.slice A0_0 l0_0.length c0_0, .bool a0_1] 24 (0, 0)) (za BK148.out) hb); replace BK149 := aS (q01 (g := gb149) (o := .cells #[.slice none 0 0, .bool false] 24 (0, 0)) (za BK149.out) hb); replace HB := aS (q02 (by repeat (first | (with_reducible first | exact HB.out | apply bA | apply bN | apply bD | refine bS ?_ GE148.out | refine bS ?_ GE149.out) | exact HB.out)) hb); (try clear hb); (try clear hb2); (try clear hk); (try clear hi); (try clear ho0); obtain ⟨Ao9, co9, eo9⟩ := Kd.V_slice HO152.out; subst eo9; obtain ⟨hczL_0, hczL_1, hfzL_0, hfzL_1⟩ := bk2 BK148.out) | ((with_reducible refine q07 (N := 7) rfl ?_); refine Kd.N_lit k43 _ 43 ?hg (N' := 7) ?hd (xs := ([] : List (S43))) (inner := []) (ok := (fun k_ => (P0_0_ k_ ∨ w.heap.size ≤ k_) ∧ k_ ≠ gb148 ∧ k_ ≠ gb149)) (okp := (fun k_ => (P0_0_ k_ ∨ w.heap.size ≤ k_) ∧ k_ ≠ gb148 ∧ k_ ≠ gb149)) ?hr ?hp (fun _ hk => hk) ((show ∀ k_, w8.heap.size ≤ k_ → (fun k_ => (P0_0_ k_ ∨ w.heap.size ≤ k_) ∧ k_ ≠ gb148 ∧ k_ ≠ gb149) k_ from fun k_ hk => ⟨(.inr (Nat.le_trans (q06 (by repeat (first | (with_reducible first | exact HB.out | apply bA | apply bN | apply bD | refine bS ?_ GE148.out | refine bS ?_ GE149.out) | exact HB.out))) hk)), (by first | exact Kd.freshB (g := gb148) BK148.out k_ hk | exact Kd.freshB (g := gb148) (o := .cells #[.slice Ao9 t150.length co9, .bool t153] 24 (0, 0)) (by (with_reducible repeat (first | refine kN ?_ _ | refine kD ?_ | refine kA ?_ _)); refine q0h (cs := #[.slice Ao9 t150.length co9, .bool a0_1]) ?_ 1 _ rfl; (with_reducible repeat (first | refine kN ?_ _ | refine kD ?_ | refine kA ?_ _)); refine q0h (cs := #[.slice A0_0 l0_0.length c0_0, .bool a0_1]) ?_ 0 _ rfl; (with_reducible repeat (first | refine kN ?_ _ | refine kD ?_ | refine kA ?_ _)); exact BK148.out) k_ hk), (by first | exact Kd.freshB (g := gb149) BK149.out k_ hk | exact Kd.freshB (g := gb149) (o := .cells #[.slice none 0 0, .bool false] 24 (0, 0)) (by (with_reducible repeat (first | refine kN ?_ _ | refine kD ?_ | refine kA ?_ _)); refine q0d ?_ NB149_148.out _; (with_reducible repeat (first | refine kN ?_ _ | refine kD ?_ | refine kA ?_ _)); refine q0d ?_ NB149_148.out _; (with_reducible repeat (first | refine kN ?_ _ | refine kD ?_ | refine kA ?_ _)); exact BK149.out) k_ hk)⟩) _ (by first | exact Nat.le_refl _ | simp)) (Below.refl _ _) (Nat.le_refl _) (by simp) ?_; (case hd => rfl); (case hg => rfl); (case hr => first | (go_simp; done) | (go_simp; rfl)); (case hp => exact (Reps.none _ _)); intro v155 w11 ho12 hb hg_ hnew_; clear hg_ hnew_; (first | rw [← Ny154.out] at ho12 | (simp only [Int.reduceToNat] at ho12; rw [← Ny154.out] at ho12)); replace HO0_0 := aS (Kd.V_elder' (by (with_reducible repeat (first | apply vA | apply vN | apply vD)); exact (Kd.V_mono (Kd.V_far (p := ⟨gb148, 1, none⟩) (Kd.V_far (p := ⟨gb148, 0, none⟩) (Kd.V_mono HO0_0.out (fun k_ hk => (⟨hk, hk.1.2⟩ : _ ∧ k_ ≠ gb148))) (fun _ hk => hk.2) (.slice Ao9 t150.length co9)) (fun _ hk => hk.2) (.bool t153)) (fun _ h_ => h_.1))) (Kd.N_base ho12) hb); replace HO152 := aS (Kd.V_elder' (by (with_reducible repeat (first | apply vA | apply vN | apply vD)); exact (Kd.V_mono (Kd.V_far (p := ⟨gb148, 1, none⟩) (Kd.V_far (p := ⟨gb148, 0, none⟩) (Kd.V_mono HO152.out (fun k_ hk => (⟨hk, hk.2.1⟩ : _ ∧ k_ ≠ gb148))) (fun _ hk => hk.2) (.slice Ao9 t150.length co9)) (fun _ hk => hk.2) (.bool t153)) (fun _ h_ => h_.1))) (Kd.N_base ho12) hb); have HO156 := aS (Kd.N_lower ho12 (q06 (by repeat (first | (with_reducible first | exact HB.out | apply bA | apply bN | apply bD | refine bS ?_ GE148.out | refine bS ?_ GE149.out) | exact HB.out)))); replace BK148 := aS (q01 (g := gb148) (o := .cells #[.slice Ao9 t150.length co9, .bool t153] 24 (0, 0)) (by (with_reducible repeat (first | refine kN ?_ _ | refine kD ?_ | refine kA ?_ _)); refine q0h (cs := #[.slice Ao9 t150.length co9, .bool a0_1]) ?_ 1 _ rfl; (with_reducible repeat (first | refine kN ?_ _ | refine kD ?_ | refine kA ?_ _)); refine q0h (cs := #[.slice A0_0 l0_0.length c0_0, .bool a0_1]) ?_ 0 _ rfl; (with_reducible repeat (first | refine kN ?_ _ | refine kD ?_ | refine kA ?_ _)); exact BK148.out) hb); replace BK149 := aS (q01 (g := gb149) (o := .cells #[.slice none 0 0, .bool false] 24 (0, 0)) (by (with_reducible repeat (first | refine kN ?_ _ | refine kD ?_ | refine kA ?_ _)); refine q0d ?_ NB149_148.out _; (with_reducible repeat (first | refine kN ?_ _ | refine kD ?_ | refine kA ?_ _)); refine q0d ?_ NB149_148.out _; (with_reducible repeat (first | refine kN ?_ _ | refine kD ?_ | refine kA ?_ _)); exact BK149.out) hb); replace HB := aS (q02 (by repeat (first | (with_reducible first | exact HB.out | apply bA | apply bN | apply bD | refine bS ?_ GE148.out | refine bS ?_ GE149.out) | exact HB.out)) hb); clear hb ho12; obtain ⟨hczL_0, hczL_1, hfzL_0, hfzL_1⟩ := bk2 BK148.out) | ((with_reducible refine q17 (b := .append) (xs := #[.tmp 7, .tmp 9]) rfl ?_); at_builtin; refine Kd.N_append_rows k43 (w0 := w) w.heap.size rfl (.tmp 7) (.tmp 9) 22 43 (.agg #[(.int .i64 0), (.string ⟨#[]⟩), (.slice none 0 0), (.string ⟨#[]⟩), (.int .i64 0), (.slice none 0 0)]) 96 rfl Tryd.underlying22 info43 rfl (by decide) (by omega) v155 y154 t150 _ _ _ (fun k_ => (P0_0_ k_ ∨ w.heap.size ≤ k_) ∧ k_ ≠ gb148 ∧ k_ ≠ gb149) (fun k_ => ((fun k_ => (P0_0_ k_ ∨ w.heap.size ≤ k_) ∧ k_ ≠ gb148 ∧ k_ ≠ gb149)) k_ ∧ some k_ ≠ (v155 : Value).ownBlock) rfl rfl ?aO ?aR (fun _ hk => hk) ?aF ?aB ?aS ?aL ?_; (case aR => exact (by skip; exact Kd.V_F (Kd.V_mono (ok' := (fun k_ => ((fun k_ => (P0_0_ k_ ∨ w.heap.size ≤ k_) ∧ k_ ≠ gb148 ∧ k_ ≠ gb149)) k_ ∧ some k_ ≠ (v155 : Value).ownBlock)) (HO152.out) (fun k_ hk => ⟨⟨hk.1.1, ⟨hk.1.2.1, hk.1.2.2⟩⟩, hk.2⟩)))); (case aB => exact (by repeat (first | (with_reducible first | exact HB.out | apply bA | apply bN | apply bD | refine bS ?_ GE148.out | refine bS ?_ GE149.out) | exact HB.out))); (case aF => exact (fun k_ hk => ⟨(.inr (Nat.le_trans (q06 (by repeat (first | (with_reducible first | exact HB.out | apply bA | apply bN | apply bD | refine bS ?_ GE148.out | refine bS ?_ GE149.out) | exact HB.out))) hk)), Kd.freshB (g := gb148) (o := .cells #[.slice Ao9 t150.length co9, .bool t153] 24 (0, 0)) (za BK148.out) k_ hk, Kd.freshB (g := gb149) (o := .cells #[.slice none 0 0, .bool false] 24 (0, 0)) (za BK149.out) k_ hk⟩)); (case aO => exact (by (with_reducible repeat (first | apply nA | apply nN | apply nD)); exact HO156.out)); (case aS => exact (q06 (by repeat (first | (with_reducible first | exact HB.out | apply bA | apply bN | apply bD | refine bS ?_ GE148.out | refine bS ?_ GE149.out) | exact HB.out)))); (case aL => have := LMc3.out; omega); intro v158 w14 ho hb hg hat; rw [← Ny157.out] at ho; have n0_ := aS (Kd.V_afterv (ok := (fun k_ => (P0_0_ k_ ∨ w.heap.size ≤ k_) ∧ k_ ≠ gb148 ∧ k_ ≠ gb149)) (by (with_reducible repeat (first | apply vA | apply vN | apply vD)); exact Kd.V_mono HO0_0.out (fun _ hk => ⟨⟨hk.1.1.1, ⟨hk.1.1.2, hk.1.2⟩⟩, hk.2⟩)) hg hat); have n1_ := aS (q0q (g := gb148) (o := .cells #[.slice Ao9 t150.length co9, .bool t153] 24 (0, 0)) (za BK148.out) hg (Kd.N_ne HO156.out BK148.out (by decide))); have n2_ := aS (q0q (g := gb149) (o := .cells #[.slice none 0 0, .bool false] 24 (0, 0)) (za BK149.out) hg (Kd.N_ne HO156.out BK149.out (by decide))); have n3_ := aS (Kd.V_afterv (ok := (fun k_ => (P0_0_ k_ ∨ w.heap.size ≤ k_) ∧ k_ ≠ gb148 ∧ k_ ≠ gb149)) (ze HO152.out) hg hat); have n4_ := aS (hb); have n5_ := aS (ho); clear HO0_0; clear BK148; clear BK149; clear HO152; clear HB; clear HO156; have HO0_0 := n0_; have BK148 := n1_; have BK149 := n2_; have HO152 := n3_; have HB := n4_; have HO159 := n5_; clear n0_ n1_ n2_ n3_ n4_ n5_; clear ho hb hg hat))
 go_loopg [4] k (fun kq v4 w' => ∃ (x3_1 : List (S43)) (x4_1 : Int), v4 = .int .i64 x4_1 ∧ Aside0 (clerestorylaw1_brief.l0 kq x3_1 x4_1 t150 t153 = some (r1, r2)) ∧ Aside0 (kq ≤ k) ∧ Aside0 (Kd.N k43 43 w' w.heap.size (fun k_ => (P0_0_ k_ ∨ w.heap.size ≤ k_) ∧ k_ ≠ gb148 ∧ k_ ≠ gb149) v158 x3_1) ∧ Aside0 (Kd.V k43 43 w' w.heap.size (fun k_ => (P0_0_ k_ ∨ w.heap.size ≤ k_) ∧ some k_ ≠ (v158 : Value).ownBlock ∧ k_ ≠ gb148 ∧ k_ ≠ gb149) (.slice Ao9 t150.length co9) t150) ∧ Aside0 (w'.heap[gb148]? = some (.cells #[(.slice Ao9 t150.length co9), .bool t153] 24 (0, 0))) ∧ Aside0 (w'.heap[gb149]? = some (.cells #[(.slice none 0 0), .bool false] 24 (0, 0))) ∧ Aside0 (Below w.heap.size w w'))
 case atStart => exact ⟨(y157), (0), zi, H', ⟨Nat.le_refl _⟩, ⟨by (with_reducible repeat (first | apply nA | apply nN | apply nD)); exact HO159.out⟩, ⟨by (with_reducible repeat (first | apply vA | apply vN | apply vD)); exact Kd.V_mono HO152.out (fun _ hk => ⟨hk.1.1, ⟨hk.2, ⟨hk.1.2.1, hk.1.2.2⟩⟩⟩)⟩, ⟨by (with_reducible repeat (first | refine kN ?_ _ | refine kD ?_ | refine kA ?_ _)); exact BK148.out⟩, ⟨by (with_reducible repeat (first | refine kN ?_ _ | refine kD ?_ | refine kA ?_ _)); exact BK149.out⟩, ⟨by repeat (first | (with_reducible first | exact HB.out | apply bA | apply bN | apply bD | refine bS ?_ GE148.out | refine bS ?_ GE149.out) | exact HB.out)⟩⟩
 case round =>
  clear H'
  obtain ⟨x3_1, x4_1, rfl, HA, HK1, HO_3, HO_149000, BK148, BK149, HB⟩ := hrel
  cases gk with
  | zero => exact absurd HA.out (by simp [clerestorylaw1_brief.l0])
  | succ k1 =>
   have H := HA.out
   clear HA
   simp only [clerestorylaw1_brief.l0] at H
   refine iT H ?p15 ?n15 <;> clear H
   case' p15 => intro c15b0 H; refine iLp H ?_; clear H; intro c16b0 H
   case' n15 => intro c15b0 H
   case p15 =>
    replace H := iB H
    obtain ⟨t161, A17, H⟩ := H
    obtain ⟨y162, hy162⟩ : ∃ y_ : List (S43), y_ = (x3_1.set (x4_1 : Int).toNat (⟨(q00 x3_1 x4_1).f0, (q00 x3_1 x4_1).f1, (q00 x3_1 x4_1).f2, t161, (q00 x3_1 x4_1).f4, (q00 x3_1 x4_1).f5⟩ : S43)) := ⟨_, rfl⟩
    replace H : (clerestorylaw1_brief.l0 k1 y162 (wrap64 (x4_1 + 1)) t150 t153) = some (r1, r2) := by first | (rw [hy162]; with_reducible exact H) | (have H2_ := (Option.bind_some _ _).symm.trans H; rw [hy162]; with_reducible exact H2_) | (have H2_ := (Option.bind_some _ _).symm.trans H; with_reducible exact H2_) | with_reducible exact H | (rw [hy162]; exact H) | exact H
    have Ny162 := aS hy162
    clear hy162
    have H' := aS H
    clear H
    obtain ⟨Ao19, co19, eo19⟩ := Kd.N_slice HO_3.out
    subst eo19
    have p160 : 0 ≤ (x4_1 : Int) := od zb
    have q160 : x4_1 < (x3_1.length : Int) := od zb
    obtain ⟨ad160, A160_2, c160_2, A160_5, c160_5, e160, hx160_0, hx160_1, hx160_2, hx160_3, hx160_4, hx160_5, hl160_2, hi160_2, hl160_5, hi160_5⟩ := at_T43 (Kd.N_reads' HO_3.out).2.2 x4_1 p160 q160
    cases e160
    obtain ⟨ce160, hce160, hMe160, hcc160⟩ := Kd.N_get HO_3.out z43 x4_1 p160 (by first | exact q160 | exact od zb | (have e_ := (Kd.N_reads' HO_3.out).1; omega))
    obtain ⟨ua160_2, uc160_2, ua160_5, uc160_5, rfl, ul160_2, ge160_2, ul160_5, ge160_5⟩ := k43_openF hMe160
    have hv160_2 := hcc160 2 _ rfl
    rw [q0u _ _ 2 (by omega)] at hv160_2
    replace hv160_2 := Option.some.inj (hv160_2.symm.trans hx160_2)
    injection hv160_2 with hva_ hvn_ hvc_
    rw [hva_] at ge160_2
    rw [hvc_] at ul160_2
    have HL160_2 := aS (show Kd.V k122 122 _ w.heap.size _ _ ((q00 x3_1 x4_1).f2) from Kd.V_mk ul160_2 ge160_2)
    clear hva_ hvn_ hvc_ ge160_2 ul160_2
    have hv160_5 := hcc160 5 _ rfl
    rw [q0u _ _ 5 (by omega)] at hv160_5
    replace hv160_5 := Option.some.inj (hv160_5.symm.trans hx160_5)
    injection hv160_5 with hva_ hvn_ hvc_
    rw [hva_] at ge160_5
    rw [hvc_] at ul160_5
    have HL160_5 := aS (show Kd.V (Kd.int .i64) 3 _ w.heap.size _ _ ((q00 x3_1 x4_1).f5) from Kd.V_mk ul160_5 ge160_5)
    clear hva_ hvn_ hvc_ ge160_5 ul160_5
    clear hcc160 hce160
    have HR160_2 := aS hi160_2
    have HC160_2 := aS hl160_2
    clear hi160_2 hl160_2
    have HR160_5 := aS hi160_5
    have HC160_5 := aS hl160_5
    clear hi160_5 hl160_5
    replace p160 := eq_true p160
    replace q160 := eq_true q160
    go_wp2_with (first | ((with_reducible refine q08 (f := 42) rfl ?_); refine q0n (some 24) rfl rfl Tryd.func42 (by kernel_rfl) rfl #[.string ((q00 x3_1 x4_1).f3), .int .i64 30] rfl zc ?_; (with_reducible refine (clerestorylaw1_some.calls ((q00 x3_1 x4_1).f3) 30 t161 _ A17.out).mono ?_); rintro e w20 ⟨rfl, hb⟩; refine ⟨_, rfl, ?_⟩; replace HO_3 := aS (Kd.N_below (by (with_reducible repeat (first | apply nA | apply nN | apply nD)); exact HO_3.out) hb); replace HO_149000 := aS (Kd.V_below (ze HO_149000.out) hb); replace HL160_2 := aS (Kd.V_below (ze HL160_2.out) hb); replace HL160_5 := aS (Kd.V_below (ze HL160_5.out) hb); replace BK148 := aS (q01 (g := gb148) (o := .cells #[.slice Ao9 t150.length co9, .bool t153] 24 (0, 0)) (za BK148.out) hb); replace BK149 := aS (q01 (g := gb149) (o := .cells #[.slice none 0 0, .bool false] 24 (0, 0)) (za BK149.out) hb); replace HR160_2 := aS (Kd.C_below (zd HR160_2.out) hb); replace HR160_5 := aS (Kd.C_below (zd HR160_5.out) hb); replace HB := aS (q02 (by repeat (first | (with_reducible first | exact HB.out | apply bA | apply bN | apply bD | refine bS ?_ GE148.out | refine bS ?_ GE149.out) | exact HB.out)) hb); (try clear hb); (try clear hb2); (try clear hk); (try clear hi); have p18 : 0 ≤ (x4_1 : Int) := od zb; have q18 : (x4_1 : Int) < ((x3_1.length : Int) : Int) := od zb; obtain ⟨go18, co18, eo18, gb18, gl18, cl18, HG18⟩ := Kd.N_form HO_3.out (by omega); (first | cases eo18 | (injection eo18 with ea_ en_ ec_; (first | subst ea_ | (injection ea_ with ea_; subst ea_)); subst ec_; clear en_)); have GB18 := aS gb18; have GG18 := aS HG18; clear gb18 gl18 HG18; (first | simp only [q1p] at hx160_0 | skip); (first | simp only [q1p] at hx160_1 | skip); (first | simp only [q1p] at hx160_2 | skip); (first | simp only [q1p] at hx160_3 | skip); (first | simp only [q1p] at hx160_4 | skip); (first | simp only [q1p] at hx160_5 | skip); obtain ⟨ce18, hcl18, hM18, hcc18, hfr18⟩ := Kd.N_elem HO_3.out z43 (x4_1 : Int) p18 q18; obtain ⟨ua18_2, uc18_2, ua18_5, uc18_5, rfl, ul18_2, ge18_2, ul18_5, ge18_5⟩ := k43_openF hM18; have hx18_0 : w20.cell? ⟨go18, (x4_1 : Int).toNat * 6, none⟩ = some (.int .i64 ((q00 x3_1 x4_1).f0)) := hcc18 0 _ rfl; have hx18_1 : w20.cell? ⟨go18, (x4_1 : Int).toNat * 6 + 1, none⟩ = some (.string ((q00 x3_1 x4_1).f1)) := hcc18 1 _ rfl; have hx18_2 : w20.cell? ⟨go18, (x4_1 : Int).toNat * 6 + 2, none⟩ = some (.slice ua18_2 ((q00 x3_1 x4_1).f2).length uc18_2) := hcc18 2 _ rfl; have hx18_3 : w20.cell? ⟨go18, (x4_1 : Int).toNat * 6 + 3, none⟩ = some (.string ((q00 x3_1 x4_1).f3)) := hcc18 3 _ rfl; have hx18_4 : w20.cell? ⟨go18, (x4_1 : Int).toNat * 6 + 4, none⟩ = some (.int .i64 ((q00 x3_1 x4_1).f4)) := hcc18 4 _ rfl; have hx18_5 : w20.cell? ⟨go18, (x4_1 : Int).toNat * 6 + 5, none⟩ = some (.slice ua18_5 ((q00 x3_1 x4_1).f5).length uc18_5) := hcc18 5 _ rfl; have hf18_0 : w20.frozen? ⟨go18, (x4_1 : Int).toNat * 6, none⟩ = false := hfr18 0; have hf18_1 : w20.frozen? ⟨go18, (x4_1 : Int).toNat * 6 + 1, none⟩ = false := hfr18 1; have hf18_2 : w20.frozen? ⟨go18, (x4_1 : Int).toNat * 6 + 2, none⟩ = false := hfr18 2; have hf18_3 : w20.frozen? ⟨go18, (x4_1 : Int).toNat * 6 + 3, none⟩ = false := hfr18 3; have hf18_4 : w20.frozen? ⟨go18, (x4_1 : Int).toNat * 6 + 4, none⟩ = false := hfr18 4; have hf18_5 : w20.frozen? ⟨go18, (x4_1 : Int).toNat * 6 + 5, none⟩ = false := hfr18 5; clear hcl18 hcc18 hfr18 hM18; replace p18 := eq_true p18; replace q18 := eq_true q18; have HX21 := aS (show Kd.N k43 43 w20 w.heap.size (fun k_ => (P0_0_ k_ ∨ w.heap.size ≤ k_) ∧ k_ ≠ gb148 ∧ k_ ≠ gb149) (.slice (some ⟨go18, 0, none⟩) x3_1.length co19) x3_1 from (by (with_reducible repeat (first | apply nA | apply nN | apply nD)); exact HO_3.out)); obtain ⟨ce21, hcl21, hM21, hcc21, hfr21⟩ := Kd.N_elem HX21.out z43 (x4_1 : Int) (od zb) (by have h_ : (x4_1 : Int) < ((x3_1.length : Int) : Int) := od zb; first | exact h_ | (have e_ := (Kd.N_reads' HO_3.out).1; omega) | simpa using h_); obtain ⟨ua21_2, uc21_2, ua21_5, uc21_5, rfl, ul21_2, ge21_2, ul21_5, ge21_5⟩ := k43_openF hM21; have HP21 := Kd.N_seg HX21.out (x4_1 : Int) (od zb) (by have h_ : (x4_1 : Int) < ((x3_1.length : Int) : Int) := od zb; first | exact h_ | (have e_ := (Kd.N_reads' HO_3.out).1; omega) | simpa using h_) (seg := [.string t161]) (j := 3) hcl21 hcc21 (show 4 ≤ 6 from by decide) (x' := (⟨(q00 x3_1 x4_1).f0, (q00 x3_1 x4_1).f1, (q00 x3_1 x4_1).f2, t161, (q00 x3_1 x4_1).f4, (q00 x3_1 x4_1).f5⟩ : S43)) (k43_mkF _ _ (⟨(q00 x3_1 x4_1).f0, (q00 x3_1 x4_1).f1, (q00 x3_1 x4_1).f2, t161, (q00 x3_1 x4_1).f4, (q00 x3_1 x4_1).f5⟩ : S43) ul21_2 ge21_2 ul21_5 ge21_5) (fun _ hk => hk); have hx21_3 := hcc21 3 _ rfl; (try simp only [show (k43).sz = 6 from rfl, Nat.mul_one, Nat.add_zero] at hx21_3); have hf21_3 := hfr21 3; (try simp only [show (k43).sz = 6 from rfl, Nat.mul_one, Nat.add_zero] at hf21_3); clear hcl21 hcc21 hfr21 hM21) | ((with_reducible refine gate_store (t := 9) (p := 26) rfl ?_); refine store_event (t := 9) (p := 26) (v := ?vo_w22) (w1 := (w20.setCell ⟨go18, (x4_1 : Int).toNat * 6 + 3, none⟩ (.string t161))) ?hg ?ho ?hn ?hr ?_; (case ho => rfl); (case hg => rfl); (case hn => rfl); (case hr => first | (go_simp; done) | (go_simp; rfl)); intro w22 hw; have hg : w20.grownBy w22 (some go18) := (by rw [hw]; exact HP21.2); have hp_ : Kd.N k43 43 w22 w.heap.size (fun k_ => (P0_0_ k_ ∨ w.heap.size ≤ k_) ∧ k_ ≠ gb148 ∧ k_ ≠ gb149) (.slice (some ⟨go18, 0, none⟩) x3_1.length co19) y162 := (by rw [hw, Ny162.out]; exact HP21.1); clear HP21; have n0_ := aS (hp_); have n1_ := aS (Kd.V_afterv (v := (.slice (some ⟨go18, 0, none⟩) x3_1.length co19)) (v1 := (.slice (some ⟨go18, 0, none⟩) x3_1.length co19)) (ok := (fun k_ => (P0_0_ k_ ∨ w.heap.size ≤ k_) ∧ k_ ≠ gb148 ∧ k_ ≠ gb149)) (by (with_reducible repeat (first | apply vA | apply vN | apply vD)); exact Kd.V_mono HO_149000.out (fun _ hk => ⟨⟨hk.1, ⟨hk.2.2.1, hk.2.2.2⟩⟩, hk.2.1⟩)) hg (.inl rfl)); have n2_ := aS (q0q (g := gb148) (o := .cells #[.slice Ao9 t150.length co9, .bool t153] 24 (0, 0)) (za BK148.out) hg (Kd.N_ne HO_3.out BK148.out (by decide))); have n3_ := aS (q0q (g := gb149) (o := .cells #[.slice none 0 0, .bool false] 24 (0, 0)) (za BK149.out) hg (Kd.N_ne HO_3.out BK149.out (by decide))); have n4_ := aS (Kd.V_afterv (v := (.slice (some ⟨go18, 0, none⟩) x3_1.length co19)) (v1 := (.slice (some ⟨go18, 0, none⟩) x3_1.length co19)) (ok := (fun k_ => (P0_0_ k_ ∨ w.heap.size ≤ k_) ∧ k_ ≠ gb148 ∧ k_ ≠ gb149)) (ze HL160_2.out) hg (.inl rfl)); have n5_ := aS (Kd.V_afterv (v := (.slice (some ⟨go18, 0, none⟩) x3_1.length co19)) (v1 := (.slice (some ⟨go18, 0, none⟩) x3_1.length co19)) (ok := (fun k_ => (P0_0_ k_ ∨ w.heap.size ≤ k_) ∧ k_ ≠ gb148 ∧ k_ ≠ gb149)) (ze HL160_5.out) hg (.inl rfl)); have n6_ := aS ((by rw [hw]; exact below_set (HB.out) GB18.out : Below w.heap.size w w22)); clear HO_3; clear HO_149000; clear BK148; clear BK149; clear HL160_2; clear HL160_5; clear HB; have HO_3 := n0_; have HO_149000 := n1_; have BK148 := n2_; have BK149 := n3_; have HL160_2 := n4_; have HL160_5 := n5_; have HB := n6_; clear n0_ n1_ n2_ n3_ n4_ n5_ n6_; clear hg hw hp_))
    go_roundg k1
    case measure => have := HK1.out; omega
    case rel => exact ⟨(y162), (wrap64 (x4_1 + 1)), zi, H', ⟨by have := HK1.out; omega⟩, ⟨by (with_reducible repeat (first | apply nA | apply nN | apply nD)); exact HO_3.out⟩, ⟨by (with_reducible repeat (first | apply vA | apply vN | apply vD)); exact Kd.V_mono HO_149000.out (fun _ hk => ⟨hk.1.1, ⟨hk.2, ⟨hk.1.2.1, hk.1.2.2⟩⟩⟩)⟩, ⟨by (with_reducible repeat (first | refine kN ?_ _ | refine kD ?_ | refine kA ?_ _)); exact BK148.out⟩, ⟨by (with_reducible repeat (first | refine kN ?_ _ | refine kD ?_ | refine kA ?_ _)); exact BK149.out⟩, ⟨by repeat (first | (with_reducible first | exact HB.out | apply bA | apply bN | apply bD | refine bS ?_ GE148.out | refine bS ?_ GE149.out) | exact HB.out)⟩⟩
   case n15 =>
    simp only [Option.some.injEq, Prod.mk.injEq] at H
    obtain ⟨rfl, rfl⟩ := H
    obtain ⟨Ao23, co23, eo23⟩ := Kd.N_slice HO_3.out
    subst eo23
    have hnb24 := NB148_149.out
    have hnc24 := NB149_148.out
    obtain ⟨hczL_0, hczL_1, hfzL_0, hfzL_1⟩ := bk2 BK148.out
    obtain ⟨hczL_0, hczL_1, hfzL_0, hfzL_1⟩ := bk2 BK149.out
    go_wp2
    refine bodyPost_ret (results_cell_row rfl _ _ gb149 24 #[.slice Ao23 x3_1.length co23, .bool t153] (0, 0) _ rfl (by (with_reducible repeat (first | refine kN ?_ _ | refine kD ?_ | refine kA ?_ _)); refine q0h (cs := #[.slice Ao23 x3_1.length co23, .bool false]) ?_ 1 _ rfl; (with_reducible repeat (first | refine kN ?_ _ | refine kD ?_ | refine kA ?_ _)); refine q0h (cs := #[.slice none 0 0, .bool false]) ?_ 0 _ rfl; (with_reducible repeat (first | refine kN ?_ _ | refine kD ?_ | refine kA ?_ _)); refine q0d ?_ NB149_148.out _; (with_reducible repeat (first | refine kN ?_ _ | refine kD ?_ | refine kA ?_ _)); exact BK149.out) Tryd.underlying24 rfl (by kernel_rfl)) rfl ?_
    exact ⟨_, by first | rfl | (simp [q05, q04] <;> rfl) | (simp [*, q05, q04] <;> rfl), by (with_reducible repeat (first | apply nA | apply nN | apply nD)); exact Kd.N_mono (Kd.N_far (p := ⟨gb149, 1, none⟩) (Kd.N_far (p := ⟨gb149, 0, none⟩) (Kd.N_far (p := ⟨gb148, 0, none⟩) (Kd.N_mono (Kd.N_mono HO_3.out (fun k_ hk => (⟨hk, hk.2.1⟩ : _ ∧ k_ ≠ gb148))) (fun k_ hk => (⟨hk, hk.1.2.2⟩ : _ ∧ k_ ≠ gb149))) (fun _ hk => hk.1.2) (.slice Ao23 x3_1.length co23)) (fun _ hk => hk.2) (.slice Ao23 x3_1.length co23)) (fun _ hk => hk.2) (.bool t153)) (fun _ hk => hk.1.1.1), by repeat (first | (with_reducible first | exact HB.out | apply bA | apply bN | apply bD | refine bS ?_ GE148.out | refine bS ?_ GE149.out) | exact HB.out)⟩
def clerestoryref1_Under.l0 : Nat → Int → Int → List (S43) → Bool → Option (Bool)
 | 0, _, _, _, _ => none
 | k + 1, x1, x2, x164000, x164001 => if x1 = x2 then (some (x1 == x2)) else (if x1 ≥ 0 then (if 0 ≤ x1 then (if x1 < (x164000.length : Int) then (clerestoryref1_Under.l0 k ((q00 x164000 x1).f4) x2 x164000 x164001) else (none)) else (none)) else (some (x1 == x2)))
def clerestoryref1_Under.f (k : Nat) (l0_0 : List (S43)) (a0_1 : Bool) (a1 : Int) (a2 : Int) : Option (Bool) := clerestoryref1_Under.l0 k a1 a2 l0_0 a0_1
set_option maxHeartbeats 8000000 in
set_option maxRecDepth 100000 in
theorem clerestoryref1_Under.calls (k : Nat) (A0_0 : Option Addr) (c0_0 : Nat) (l0_0 : List (S43)) (a0_1 : Bool) (a1 : Int) (a2 : Int) (r : Bool) (w : World) (hr0_0 : Kd.C k43 w A0_0 l0_0.length l0_0) (hc0_0 : l0_0.length ≤ c0_0) (h : clerestoryref1_Under.f k l0_0 a0_1 a1 a2 = some r) :
 Calls Tryd.prog 26 #[.agg #[.slice A0_0 l0_0.length c0_0, .bool a0_1], .int .i64 a1, .int .i64 a2] w fun e w' => e = .returned (.bool r) ∧ Below w.heap.size w w' := by
 have hu24 := Tryd.underlying24
 have HR0_0 := aS hr0_0
 have HC0_0 := aS hc0_0
 clear hr0_0 hc0_0
 have HB := aS (Below.refl w.heap.size w)
 have H := h; clear h; unfold clerestoryref1_Under.f at H
 have H' := aS H
 clear H
 go_enter Tryd.func26, Tryd.ntmps26
 go_wp2_with (first | ((with_reducible refine q07 (N := 3) rfl ?_); refine box0 rfl (N := 3) rfl (cs := #[.slice A0_0 l0_0.length c0_0, .bool a0_1]) (t := 24) zh (z7 HB.out) ?_; clear HB; intro gb163 w4 BK163 GW163 HB; have GE163 := GW163))
 go_loopg [1] k (fun kq v1 w' => ∃ (x1_1 : Int), v1 = .int .i64 x1_1 ∧ Aside0 (clerestoryref1_Under.l0 kq x1_1 a2 l0_0 a0_1 = some r) ∧ Aside0 (kq ≤ k) ∧ Aside0 (w'.heap[gb163]? = some (.cells #[(.slice A0_0 l0_0.length c0_0), .bool a0_1] 24 (0, 0))) ∧ Aside0 (Below w.heap.size w w'))
 case atStart => exact ⟨(a1), zi, H', ⟨Nat.le_refl _⟩, ⟨by (with_reducible repeat (first | refine kN ?_ _ | refine kD ?_ | refine kA ?_ _)); exact BK163.out⟩, ⟨by repeat (first | (with_reducible first | exact HB.out | apply bA | apply bN | apply bD | refine bS ?_ GE163.out) | exact HB.out)⟩⟩
 case round =>
  clear H'
  obtain ⟨x1_1, rfl, HA, HK1, BK163, HB⟩ := hrel
  cases gk with
  | zero => exact absurd HA.out (by simp [clerestoryref1_Under.l0])
  | succ k1 =>
   have H := HA.out
   clear HA
   simp only [clerestoryref1_Under.l0] at H
   refine iE H ?p5 ?n5 <;> clear H
   case' p5 => intro c5b0 c5b1 H
   case' n5 => intro c5 c5b0 c5b1 H; refine iL H ?p6 ?n6 <;> clear H
   case' p6 => intro c6b0 H; obtain ⟨hczL_0, hczL_1, hfzL_0, hfzL_1⟩ := bk2 BK163.out; refine iLp H ?_; clear H; intro c7b0 H; refine iTp H ?_; clear H; intro c8b0 H
   case' n6 => intro c6b0 H
   case p5|n6 =>
    obtain rfl := Option.some.inj H
    go_wp2
    go_ret
    exact ⟨by first | rfl | (simp [q05, q04] <;> rfl) | (simp [*, q05, q04] <;> rfl), by repeat (first | (with_reducible first | exact HB.out | apply bA | apply bN | apply bD | refine bS ?_ GE163.out) | exact HB.out)⟩
   case p6 =>
    have H' := aS H
    clear H
    obtain ⟨ad164, A164_2, c164_2, A164_5, c164_5, e164, hx164_0, hx164_1, hx164_2, hx164_3, hx164_4, hx164_5, HC164_2, HR164_2, HC164_5, HR164_5, p164, q164⟩ := q0o HB.out HR0_0.out x1_1 zb zb
    cases e164
    go_wp2
    go_roundg k1
    case measure => have := HK1.out; omega
    case rel => exact ⟨((q00 l0_0 x1_1).f4), zi, H', ⟨by have := HK1.out; omega⟩, ⟨by (with_reducible repeat (first | refine kN ?_ _ | refine kD ?_ | refine kA ?_ _)); exact BK163.out⟩, ⟨by repeat (first | (with_reducible first | exact HB.out | apply bA | apply bN | apply bD | refine bS ?_ GE163.out) | exact HB.out)⟩⟩
mutual
def clerestoryref1_PointErr.j0 : Nat → Int → Bool → List (S43) → Bool → Int → Int → Int → ByteArray → List (S122) → ByteArray → Int → List Int → Option (Int)
 | 0, _, _, _, _, _, _, _, _, _, _, _, _ => none
 | k + 1, x6, x31, x166000, x166001, x167000, x167001, x170000, x170001, x170002, x170003, x170004, x170005 => if x31 = true then (clerestoryref1_PointErr.j1 k (x170003.size : Int) x166000 x166001 x167000 x167001) else (clerestoryref1_PointErr.j1 k x6 x166000 x166001 x167000 x167001)
def clerestoryref1_PointErr.j1 : Nat → Int → List (S43) → Bool → Int → Int → Option (Int)
 | 0, _, _, _, _, _ => none
 | k + 1, x6, x166000, x166001, x167000, x167001 => (clerestoryref1_between.f x167001 0 x6).bind fun t170 => (if t170 = true then ((clerestoryref1_Under.f k x166000 x166001 x167000 0).bind fun t171 => (if t171 = true then (some 0) else (some 5))) else (some 1))
end
def clerestoryref1_PointErr.f (k : Nat) (l0_0 : List (S43)) (a0_1 : Bool) (a1_0 : Int) (a1_1 : Int) : Option (Int) := (clerestoryref1_between.f a1_0 0 (wrap64 ((l0_0.length : Int) - 1))).bind fun t167 => (if t167 = true then (if 0 ≤ a1_0 then (if a1_0 < (l0_0.length : Int) then (if ((q00 l0_0 a1_0).f0) = 3 then (clerestoryref1_PointErr.j0 k (((q00 l0_0 a1_0).f5).length : Int) true l0_0 a0_1 a1_0 a1_1 ((q00 l0_0 a1_0).f0) ((q00 l0_0 a1_0).f1) ((q00 l0_0 a1_0).f2) ((q00 l0_0 a1_0).f3) ((q00 l0_0 a1_0).f4) ((q00 l0_0 a1_0).f5)) else (clerestoryref1_PointErr.j0 k (((q00 l0_0 a1_0).f5).length : Int) (((q00 l0_0 a1_0).f0) == 4) l0_0 a0_1 a1_0 a1_1 ((q00 l0_0 a1_0).f0) ((q00 l0_0 a1_0).f1) ((q00 l0_0 a1_0).f2) ((q00 l0_0 a1_0).f3) ((q00 l0_0 a1_0).f4) ((q00 l0_0 a1_0).f5))) else (none)) else (none)) else (some 1))
set_option maxHeartbeats 8000000 in
set_option maxRecDepth 100000 in
theorem clerestoryref1_PointErr.calls (k : Nat) (A0_0 : Option Addr) (c0_0 : Nat) (l0_0 : List (S43)) (a0_1 : Bool) (a1_0 : Int) (a1_1 : Int) (r : Int) (w : World) (hr0_0 : Kd.C k43 w A0_0 l0_0.length l0_0) (hc0_0 : l0_0.length ≤ c0_0) (h : clerestoryref1_PointErr.f k l0_0 a0_1 a1_0 a1_1 = some r) :
 Calls Tryd.prog 39 #[.agg #[.slice A0_0 l0_0.length c0_0, .bool a0_1], .agg #[.int .i64 a1_0, .int .i64 a1_1]] w fun e w' => e = .returned (.int .i64 r) ∧ Below w.heap.size w w' := by
 have hu24 := Tryd.underlying24
 have hu50 := Tryd.underlying50
 have hu43 := Tryd.underlying43
 have HR0_0 := aS hr0_0
 have HC0_0 := aS hc0_0
 clear hr0_0 hc0_0
 have HB := aS (Below.refl w.heap.size w)
 have H := h; clear h; unfold clerestoryref1_PointErr.f at H
 replace H := iB H
 obtain ⟨t167, A3, H⟩ := H
 refine iV H ?p4 ?n4 <;> clear H
 case' p4 => intro c4 H; subst c4; refine iLp H ?_; clear H; intro c5b0 H; refine iTp H ?_; clear H; intro c6b0 H
 case' n4 => intro c4 H; subst c4
 case p4 =>
  have HC7 := aS H
  clear H
  go_enter Tryd.func39, Tryd.ntmps39
  go_upto_region 5 with (first | ((with_reducible refine q07 (N := 2) rfl ?_); refine box0 rfl (N := 2) rfl (cs := #[.slice A0_0 l0_0.length c0_0, .bool a0_1]) (t := 24) zh (z7 HB.out) ?_; clear HB; intro gb165 w8 BK165 GW165 HB; have GE165 := GW165) | ((with_reducible refine q07 (N := 3) rfl ?_); refine q0j ?hg (N := 3) ?hd (cs := #[.int .i64 a1_0, .int .i64 a1_1]) (t := 50) ?hr ?_; (case hd => rfl); (case hg => rfl); (case hr => first | (go_simp; done) | (go_simp; rfl)); intro gb166 hg w9 hbox hb; have n0_ := aS (q01 (g := gb165) (o := .cells #[.slice A0_0 l0_0.length c0_0, .bool a0_1] 24 (0, 0)) (za BK165.out) hb); have n1_ := aS (q02 (z6 HB.out GE165.out) hb); have n2_ := aS (hbox); have n3_ := aS ((by rw [hg]; exact (q06 (z6 HB.out GE165.out)) : w.heap.size ≤ gb166)); have n4_ := aS ((by rw [hg]; exact (q06 (z6 HB.out GE165.out)) : w.heap.size ≤ gb166)); have n5_ := aS ((by rw [hg]; exact Nat.ne_of_lt (q0i (g := gb165) (o := .cells #[.slice A0_0 l0_0.length c0_0, .bool a0_1] 24 (0, 0)) (za BK165.out)) : gb165 ≠ gb166)); have n6_ := aS ((by rw [hg]; exact Nat.ne_of_gt (q0i (g := gb165) (o := .cells #[.slice A0_0 l0_0.length c0_0, .bool a0_1] 24 (0, 0)) (za BK165.out)) : gb166 ≠ gb165)); clear BK165; clear HB; have BK165 := n0_; have HB := n1_; have BK166 := n2_; have GW166 := n3_; have GE166 := n4_; have NB165_166 := n5_; have NB166_165 := n6_; clear n0_ n1_ n2_ n3_ n4_ n5_ n6_; clear hb hbox hg; have hnb10 := NB166_165.out; have hnc10 := NB165_166.out; obtain ⟨hczL_0, hczL_1, hfzL_0, hfzL_1⟩ := bk2 BK166.out; obtain ⟨hczL_0, hczL_1, hfzL_0, hfzL_1⟩ := bk2 BK165.out) | ((with_reducible refine q08 (f := 73) rfl ?_); refine q0n (some 13) rfl rfl Tryd.func73 (by kernel_rfl) rfl #[.int .i64 a1_0, .int .i64 0, .int .i64 (wrap64 ((l0_0.length : Int) - 1))] rfl zc ?_; (with_reducible refine (clerestoryref1_between.calls a1_0 0 (wrap64 ((l0_0.length : Int) - 1)) true _ A3.out).mono ?_); rintro e w' ⟨rfl, ⟨nd, rfl⟩⟩; refine ⟨_, rfl, ?_⟩; (try (rw [drewN_self w9]; generalize hq_ : World.drewN w9 _ = w9; have n0_ : Aside0 (w9.heap[gb165]? = some (.cells #[.slice A0_0 l0_0.length c0_0, .bool a0_1] 24 (0, 0))) := ⟨by rw [← hq_]; exact (za BK165.out)⟩; have n1_ : Aside0 (w9.heap[gb166]? = some (.cells #[.int .i64 a1_0, .int .i64 a1_1] 50 (0, 0))) := ⟨by rw [← hq_]; exact (za BK166.out)⟩; have n2_ : Aside0 (Below w.heap.size w w9) := ⟨by rw [← hq_]; exact (by repeat (first | (with_reducible first | exact HB.out | apply bA | apply bN | apply bD | refine bS ?_ GE165.out | refine bS ?_ GE166.out) | exact HB.out))⟩; clear BK165 BK166 HB hq_; have BK165 := n0_; have BK166 := n1_; have HB := n2_; clear n0_ n1_ n2_; have hcG165 := bk2 BK165.out; obtain ⟨hcG165_0, hcG165_1, hcG165_2, hcG165_3⟩ := hcG165; have hcG166 := bk2 BK166.out; obtain ⟨hcG166_0, hcG166_1, hcG166_2, hcG166_3⟩ := hcG166)); obtain ⟨ad168, A168_2, c168_2, A168_5, c168_5, e168, hx168_0, hx168_1, hx168_2, hx168_3, hx168_4, hx168_5, HC168_2, HR168_2, HC168_5, HR168_5, p168, q168⟩ := q0o HB.out HR0_0.out a1_0 zb zb; cases e168) | ((with_reducible refine q07 (N := 5) rfl ?_); refine q0j ?hg (N := 5) ?hd (cs := #[.int .i64 0, .string (⟨#[]⟩ : ByteArray), .slice none 0 0, .string (⟨#[]⟩ : ByteArray), .int .i64 0, .slice none 0 0]) (t := 43) ?hr ?_; (case hd => rfl); (case hg => rfl); (case hr => first | (go_simp; done) | (go_simp; rfl)); intro gb169 hg w13 hbox hb; have n0_ := aS (q01 (g := gb165) (o := .cells #[.slice (some ad168) l0_0.length c0_0, .bool a0_1] 24 (0, 0)) (za BK165.out) hb); have n1_ := aS (q01 (g := gb166) (o := .cells #[.int .i64 a1_0, .int .i64 a1_1] 50 (0, 0)) (za BK166.out) hb); have n2_ := aS (q02 (by repeat (first | (with_reducible first | exact HB.out | apply bA | apply bN | apply bD | refine bS ?_ GE165.out | refine bS ?_ GE166.out) | exact HB.out)) hb); have n3_ := aS (hbox); have n4_ := aS ((by rw [hg]; exact (q06 (by repeat (first | (with_reducible first | exact HB.out | apply bA | apply bN | apply bD | refine bS ?_ GE165.out | refine bS ?_ GE166.out) | exact HB.out))) : w.heap.size ≤ gb169)); have n5_ := aS ((by rw [hg]; exact (q06 (by repeat (first | (with_reducible first | exact HB.out | apply bA | apply bN | apply bD | refine bS ?_ GE165.out | refine bS ?_ GE166.out) | exact HB.out))) : w.heap.size ≤ gb169)); have n6_ := aS ((by rw [hg]; exact Nat.ne_of_lt (q0i (g := gb165) (o := .cells #[.slice (some ad168) l0_0.length c0_0, .bool a0_1] 24 (0, 0)) (za BK165.out)) : gb165 ≠ gb169)); have n7_ := aS ((by rw [hg]; exact Nat.ne_of_gt (q0i (g := gb165) (o := .cells #[.slice (some ad168) l0_0.length c0_0, .bool a0_1] 24 (0, 0)) (za BK165.out)) : gb169 ≠ gb165)); have n8_ := aS ((by rw [hg]; exact Nat.ne_of_lt (q0i (g := gb166) (o := .cells #[.int .i64 a1_0, .int .i64 a1_1] 50 (0, 0)) (za BK166.out)) : gb166 ≠ gb169)); have n9_ := aS ((by rw [hg]; exact Nat.ne_of_gt (q0i (g := gb166) (o := .cells #[.int .i64 a1_0, .int .i64 a1_1] 50 (0, 0)) (za BK166.out)) : gb169 ≠ gb166)); clear BK165; clear BK166; clear HB; have BK165 := n0_; have BK166 := n1_; have HB := n2_; have BK169 := n3_; have GW169 := n4_; have GE169 := n5_; have NB165_169 := n6_; have NB169_165 := n7_; have NB166_169 := n8_; have NB169_166 := n9_; clear n0_ n1_ n2_ n3_ n4_ n5_ n6_ n7_ n8_ n9_; clear hb hbox hg; have hnb14 := NB169_165.out; have hnc14 := NB165_169.out; have hnb15 := NB169_166.out; have hnc15 := NB166_169.out; obtain ⟨hczL_0, hczL_1, hczL_2, hczL_3, hczL_4, hczL_5, hfzL_0, hfzL_1, hfzL_2, hfzL_3, hfzL_4, hfzL_5⟩ := bk6 BK169.out))
  (try simp only [Act.put, s1, s2, s3])
  go_cut [31] (fun v31 wc => ∃ (kq : Nat) (x31_6 : Bool), v31 = .bool x31_6 ∧ Aside0 (clerestoryref1_PointErr.j0 kq (((q00 l0_0 a1_0).f5).length : Int) x31_6 l0_0 a0_1 a1_0 a1_1 ((q00 l0_0 a1_0).f0) ((q00 l0_0 a1_0).f1) ((q00 l0_0 a1_0).f2) ((q00 l0_0 a1_0).f3) ((q00 l0_0 a1_0).f4) ((q00 l0_0 a1_0).f5) = some r) ∧ Aside0 (kq ≤ k) ∧ Aside0 (wc.heap[gb165]? = some (.cells #[(.slice (some ad168) l0_0.length c0_0), .bool a0_1] 24 (0, 0))) ∧ Aside0 (wc.heap[gb166]? = some (.cells #[.int .i64 a1_0, .int .i64 a1_1] 50 (0, 0))) ∧ Aside0 (wc.heap[gb169]? = some (.cells #[.int .i64 ((q00 l0_0 a1_0).f0), .string ((q00 l0_0 a1_0).f1), (.slice A168_2 ((q00 l0_0 a1_0).f2).length c168_2), .string ((q00 l0_0 a1_0).f3), .int .i64 ((q00 l0_0 a1_0).f4), (.slice A168_5 ((q00 l0_0 a1_0).f5).length c168_5)] 43 (0, 0))) ∧ Aside0 (Below w.heap.size w wc))
  case first =>
   have H := HC7.out
   clear HC7
   refine iE H ?p17 ?n17 <;> clear H
   case' p17 => intro c17b0 c17b1 H
   case' n17 => intro c17 c17b0 c17b1 H
   case p17 =>
    (first | rw [c17b0] | (simp only [q09, q0a]; rw [c17b0]) | skip)
    have H' := aS H
    clear H
    have hnb18 := NB169_165.out
    have hnc18 := NB165_169.out
    have hnb19 := NB169_166.out
    have hnc19 := NB166_169.out
    obtain ⟨hczL_0, hczL_1, hczL_2, hczL_3, hczL_4, hczL_5, hfzL_0, hfzL_1, hfzL_2, hfzL_3, hfzL_4, hfzL_5⟩ := bk6 BK169.out
    go_wp2
    go_meet
    case rel => exact ⟨_, _, zi, H', ⟨by first | omega | exact Nat.le_refl _⟩, ⟨by (with_reducible repeat (first | refine kN ?_ _ | refine kD ?_ | refine kA ?_ _)); refine q0d ?_ NB165_169.out _; (with_reducible repeat (first | refine kN ?_ _ | refine kD ?_ | refine kA ?_ _)); refine q0d ?_ NB165_169.out _; (with_reducible repeat (first | refine kN ?_ _ | refine kD ?_ | refine kA ?_ _)); refine q0d ?_ NB165_169.out _; (with_reducible repeat (first | refine kN ?_ _ | refine kD ?_ | refine kA ?_ _)); refine q0d ?_ NB165_169.out _; (with_reducible repeat (first | refine kN ?_ _ | refine kD ?_ | refine kA ?_ _)); refine q0d ?_ NB165_169.out _; (with_reducible repeat (first | refine kN ?_ _ | refine kD ?_ | refine kA ?_ _)); refine q0d ?_ NB165_169.out _; (with_reducible repeat (first | refine kN ?_ _ | refine kD ?_ | refine kA ?_ _)); exact BK165.out⟩, ⟨by (with_reducible repeat (first | refine kN ?_ _ | refine kD ?_ | refine kA ?_ _)); refine q0d ?_ NB166_169.out _; (with_reducible repeat (first | refine kN ?_ _ | refine kD ?_ | refine kA ?_ _)); refine q0d ?_ NB166_169.out _; (with_reducible repeat (first | refine kN ?_ _ | refine kD ?_ | refine kA ?_ _)); refine q0d ?_ NB166_169.out _; (with_reducible repeat (first | refine kN ?_ _ | refine kD ?_ | refine kA ?_ _)); refine q0d ?_ NB166_169.out _; (with_reducible repeat (first | refine kN ?_ _ | refine kD ?_ | refine kA ?_ _)); refine q0d ?_ NB166_169.out _; (with_reducible repeat (first | refine kN ?_ _ | refine kD ?_ | refine kA ?_ _)); refine q0d ?_ NB166_169.out _; (with_reducible repeat (first | refine kN ?_ _ | refine kD ?_ | refine kA ?_ _)); exact BK166.out⟩, ⟨by (with_reducible repeat (first | refine kN ?_ _ | refine kD ?_ | refine kA ?_ _)); refine q0h (cs := #[.int .i64 ((q00 l0_0 a1_0).f0), .string ((q00 l0_0 a1_0).f1), .slice A168_2 ((q00 l0_0 a1_0).f2).length c168_2, .string ((q00 l0_0 a1_0).f3), .int .i64 ((q00 l0_0 a1_0).f4), .slice none 0 0]) ?_ 5 _ rfl; (with_reducible repeat (first | refine kN ?_ _ | refine kD ?_ | refine kA ?_ _)); refine q0h (cs := #[.int .i64 ((q00 l0_0 a1_0).f0), .string ((q00 l0_0 a1_0).f1), .slice A168_2 ((q00 l0_0 a1_0).f2).length c168_2, .string ((q00 l0_0 a1_0).f3), .int .i64 0, .slice none 0 0]) ?_ 4 _ rfl; (with_reducible repeat (first | refine kN ?_ _ | refine kD ?_ | refine kA ?_ _)); refine q0h (cs := #[.int .i64 ((q00 l0_0 a1_0).f0), .string ((q00 l0_0 a1_0).f1), .slice A168_2 ((q00 l0_0 a1_0).f2).length c168_2, .string (⟨#[]⟩ : ByteArray), .int .i64 0, .slice none 0 0]) ?_ 3 _ rfl; (with_reducible repeat (first | refine kN ?_ _ | refine kD ?_ | refine kA ?_ _)); refine q0h (cs := #[.int .i64 ((q00 l0_0 a1_0).f0), .string ((q00 l0_0 a1_0).f1), .slice none 0 0, .string (⟨#[]⟩ : ByteArray), .int .i64 0, .slice none 0 0]) ?_ 2 _ rfl; (with_reducible repeat (first | refine kN ?_ _ | refine kD ?_ | refine kA ?_ _)); refine q0h (cs := #[.int .i64 ((q00 l0_0 a1_0).f0), .string (⟨#[]⟩ : ByteArray), .slice none 0 0, .string (⟨#[]⟩ : ByteArray), .int .i64 0, .slice none 0 0]) ?_ 1 _ rfl; (with_reducible repeat (first | refine kN ?_ _ | refine kD ?_ | refine kA ?_ _)); refine q0h (cs := #[.int .i64 0, .string (⟨#[]⟩ : ByteArray), .slice none 0 0, .string (⟨#[]⟩ : ByteArray), .int .i64 0, .slice none 0 0]) ?_ 0 _ rfl; (with_reducible repeat (first | refine kN ?_ _ | refine kD ?_ | refine kA ?_ _)); exact BK169.out⟩, ⟨by repeat (first | (with_reducible first | exact HB.out | apply bA | apply bN | apply bD | refine bS ?_ GE165.out | refine bS ?_ GE166.out | refine bS ?_ GE169.out) | exact HB.out)⟩⟩
   case n17 =>
    (first | rw [c17b0] | (simp only [q09, q0a]; rw [c17b0]) | skip)
    have H' := aS H
    clear H
    have hnb21 := NB169_165.out
    have hnc21 := NB165_169.out
    have hnb22 := NB169_166.out
    have hnc22 := NB166_169.out
    obtain ⟨hczL_0, hczL_1, hczL_2, hczL_3, hczL_4, hczL_5, hfzL_0, hfzL_1, hfzL_2, hfzL_3, hfzL_4, hfzL_5⟩ := bk6 BK169.out
    go_wp2
    go_meet
    case rel => exact ⟨_, ((((q00 l0_0 a1_0).f0) == 4)), zi, H', ⟨by first | omega | exact Nat.le_refl _⟩, ⟨by (with_reducible repeat (first | refine kN ?_ _ | refine kD ?_ | refine kA ?_ _)); refine q0d ?_ NB165_169.out _; (with_reducible repeat (first | refine kN ?_ _ | refine kD ?_ | refine kA ?_ _)); refine q0d ?_ NB165_169.out _; (with_reducible repeat (first | refine kN ?_ _ | refine kD ?_ | refine kA ?_ _)); refine q0d ?_ NB165_169.out _; (with_reducible repeat (first | refine kN ?_ _ | refine kD ?_ | refine kA ?_ _)); refine q0d ?_ NB165_169.out _; (with_reducible repeat (first | refine kN ?_ _ | refine kD ?_ | refine kA ?_ _)); refine q0d ?_ NB165_169.out _; (with_reducible repeat (first | refine kN ?_ _ | refine kD ?_ | refine kA ?_ _)); refine q0d ?_ NB165_169.out _; (with_reducible repeat (first | refine kN ?_ _ | refine kD ?_ | refine kA ?_ _)); exact BK165.out⟩, ⟨by (with_reducible repeat (first | refine kN ?_ _ | refine kD ?_ | refine kA ?_ _)); refine q0d ?_ NB166_169.out _; (with_reducible repeat (first | refine kN ?_ _ | refine kD ?_ | refine kA ?_ _)); refine q0d ?_ NB166_169.out _; (with_reducible repeat (first | refine kN ?_ _ | refine kD ?_ | refine kA ?_ _)); refine q0d ?_ NB166_169.out _; (with_reducible repeat (first | refine kN ?_ _ | refine kD ?_ | refine kA ?_ _)); refine q0d ?_ NB166_169.out _; (with_reducible repeat (first | refine kN ?_ _ | refine kD ?_ | refine kA ?_ _)); refine q0d ?_ NB166_169.out _; (with_reducible repeat (first | refine kN ?_ _ | refine kD ?_ | refine kA ?_ _)); refine q0d ?_ NB166_169.out _; (with_reducible repeat (first | refine kN ?_ _ | refine kD ?_ | refine kA ?_ _)); exact BK166.out⟩, ⟨by (with_reducible repeat (first | refine kN ?_ _ | refine kD ?_ | refine kA ?_ _)); refine q0h (cs := #[.int .i64 ((q00 l0_0 a1_0).f0), .string ((q00 l0_0 a1_0).f1), .slice A168_2 ((q00 l0_0 a1_0).f2).length c168_2, .string ((q00 l0_0 a1_0).f3), .int .i64 ((q00 l0_0 a1_0).f4), .slice none 0 0]) ?_ 5 _ rfl; (with_reducible repeat (first | refine kN ?_ _ | refine kD ?_ | refine kA ?_ _)); refine q0h (cs := #[.int .i64 ((q00 l0_0 a1_0).f0), .string ((q00 l0_0 a1_0).f1), .slice A168_2 ((q00 l0_0 a1_0).f2).length c168_2, .string ((q00 l0_0 a1_0).f3), .int .i64 0, .slice none 0 0]) ?_ 4 _ rfl; (with_reducible repeat (first | refine kN ?_ _ | refine kD ?_ | refine kA ?_ _)); refine q0h (cs := #[.int .i64 ((q00 l0_0 a1_0).f0), .string ((q00 l0_0 a1_0).f1), .slice A168_2 ((q00 l0_0 a1_0).f2).length c168_2, .string (⟨#[]⟩ : ByteArray), .int .i64 0, .slice none 0 0]) ?_ 3 _ rfl; (with_reducible repeat (first | refine kN ?_ _ | refine kD ?_ | refine kA ?_ _)); refine q0h (cs := #[.int .i64 ((q00 l0_0 a1_0).f0), .string ((q00 l0_0 a1_0).f1), .slice none 0 0, .string (⟨#[]⟩ : ByteArray), .int .i64 0, .slice none 0 0]) ?_ 2 _ rfl; (with_reducible repeat (first | refine kN ?_ _ | refine kD ?_ | refine kA ?_ _)); refine q0h (cs := #[.int .i64 ((q00 l0_0 a1_0).f0), .string (⟨#[]⟩ : ByteArray), .slice none 0 0, .string (⟨#[]⟩ : ByteArray), .int .i64 0, .slice none 0 0]) ?_ 1 _ rfl; (with_reducible repeat (first | refine kN ?_ _ | refine kD ?_ | refine kA ?_ _)); refine q0h (cs := #[.int .i64 0, .string (⟨#[]⟩ : ByteArray), .slice none 0 0, .string (⟨#[]⟩ : ByteArray), .int .i64 0, .slice none 0 0]) ?_ 0 _ rfl; (with_reducible repeat (first | refine kN ?_ _ | refine kD ?_ | refine kA ?_ _)); exact BK169.out⟩, ⟨by repeat (first | (with_reducible first | exact HB.out | apply bA | apply bN | apply bD | refine bS ?_ GE165.out | refine bS ?_ GE166.out | refine bS ?_ GE169.out) | exact HB.out)⟩⟩
  case rest =>
   clear HC7
   obtain ⟨kq, x31_6, rfl, HA, HJ6, BK165, BK166, BK169, HB⟩ := hcut
   cases kq with
   | zero => exact absurd HA.out (by simp [clerestoryref1_PointErr.j0])
   | succ kj6 =>
    have H := HA.out
    clear HA
    simp only [clerestoryref1_PointErr.j0] at H
    have HC24 := aS H
    clear H
    go_upto_if 31 with (fail)
    go_cut [6] (fun v6 wc => ∃ (kq : Nat) (x6_23 : Int), v6 = .int .i64 x6_23 ∧ Aside0 (clerestoryref1_PointErr.j1 kq x6_23 l0_0 a0_1 a1_0 a1_1 = some r) ∧ Aside0 (kq ≤ kj6) ∧ Aside0 (wc.heap[gb165]? = some (.cells #[(.slice (some ad168) l0_0.length c0_0), .bool a0_1] 24 (0, 0))) ∧ Aside0 (wc.heap[gb166]? = some (.cells #[.int .i64 a1_0, .int .i64 a1_1] 50 (0, 0))) ∧ Aside0 (wc.heap[gb169]? = some (.cells #[.int .i64 ((q00 l0_0 a1_0).f0), .string ((q00 l0_0 a1_0).f1), (.slice A168_2 ((q00 l0_0 a1_0).f2).length c168_2), .string ((q00 l0_0 a1_0).f3), .int .i64 ((q00 l0_0 a1_0).f4), (.slice A168_5 ((q00 l0_0 a1_0).f5).length c168_5)] 43 (0, 0))) ∧ Aside0 (Below w.heap.size w wc))
    case first =>
     have H := HC24.out
     clear HC24
     refine iV H ?p25 ?n25 <;> clear H
     case' p25 => intro c25 H; subst c25
     case' n25 => intro c25 H; subst c25
     case p25 =>
      have H' := aS H
      clear H
      have hnb26 := NB169_165.out
      have hnc26 := NB165_169.out
      have hnb27 := NB169_166.out
      have hnc27 := NB166_169.out
      obtain ⟨hczL_0, hczL_1, hczL_2, hczL_3, hczL_4, hczL_5, hfzL_0, hfzL_1, hfzL_2, hfzL_3, hfzL_4, hfzL_5⟩ := bk6 BK169.out
      go_wp2
      go_meet
      case rel => exact ⟨_, ((((q00 l0_0 a1_0).f3).size : Int)), zi, H', ⟨by have := HJ6.out; first | omega | exact Nat.le_refl _⟩, ⟨by (with_reducible repeat (first | refine kN ?_ _ | refine kD ?_ | refine kA ?_ _)); exact BK165.out⟩, ⟨by (with_reducible repeat (first | refine kN ?_ _ | refine kD ?_ | refine kA ?_ _)); exact BK166.out⟩, ⟨by (with_reducible repeat (first | refine kN ?_ _ | refine kD ?_ | refine kA ?_ _)); exact BK169.out⟩, ⟨by repeat (first | (with_reducible first | exact HB.out | apply bA | apply bN | apply bD | refine bS ?_ GE165.out | refine bS ?_ GE166.out | refine bS ?_ GE169.out) | exact HB.out)⟩⟩
     case n25 =>
      have H' := aS H
      clear H
      go_wp2
      go_meet
      case rel => exact ⟨_, ((((q00 l0_0 a1_0).f5).length : Int)), zi, H', ⟨by have := HJ6.out; first | omega | exact Nat.le_refl _⟩, ⟨by (with_reducible repeat (first | refine kN ?_ _ | refine kD ?_ | refine kA ?_ _)); exact BK165.out⟩, ⟨by (with_reducible repeat (first | refine kN ?_ _ | refine kD ?_ | refine kA ?_ _)); exact BK166.out⟩, ⟨by (with_reducible repeat (first | refine kN ?_ _ | refine kD ?_ | refine kA ?_ _)); exact BK169.out⟩, ⟨by repeat (first | (with_reducible first | exact HB.out | apply bA | apply bN | apply bD | refine bS ?_ GE165.out | refine bS ?_ GE166.out | refine bS ?_ GE169.out) | exact HB.out)⟩⟩
    case rest =>
     clear HC24
     obtain ⟨kq, x6_23, rfl, HA, HJ23, BK165, BK166, BK169, HB⟩ := hcut
     cases kq with
     | zero => exact absurd HA.out (by simp [clerestoryref1_PointErr.j1])
     | succ kj23 =>
      have H := HA.out
      clear HA
      simp only [clerestoryref1_PointErr.j1] at H
      replace H := iB H
      obtain ⟨t170, A29, H⟩ := H
      refine iV H ?p30 ?n30 <;> clear H
      case' p30 => intro c30 H; subst c30; replace H := iB H; obtain ⟨t171, A31, H⟩ := H; refine iV H ?p32 ?n32 <;> clear H
      case' p32 => intro c32 H; subst c32
      case' n32 => intro c32 H; subst c32
      case' n30 => intro c30 H; subst c30
      case p32 =>
       obtain rfl := Option.some.inj H
       have hnb33 := NB166_165.out
       have hnc33 := NB165_166.out
       have hnb34 := NB166_169.out
       have hnc34 := NB169_166.out
       obtain ⟨hczL_0, hczL_1, hfzL_0, hfzL_1⟩ := bk2 BK166.out
       go_wp2_with (first | ((with_reducible refine q08 (f := 73) rfl ?_); refine q0n (some 38) rfl rfl Tryd.func73 (by kernel_rfl) rfl #[.int .i64 a1_1, .int .i64 0, .int .i64 x6_23] rfl zc ?_; (with_reducible refine (clerestoryref1_between.calls a1_1 0 x6_23 true _ A29.out).mono ?_); rintro e w' ⟨rfl, ⟨nd, rfl⟩⟩; refine ⟨_, rfl, ?_⟩; have hnb36 := NB165_169.out; have hnc36 := NB169_165.out; obtain ⟨hczL_0, hczL_1, hfzL_0, hfzL_1⟩ := bk2 BK165.out) | ((with_reducible refine q08 (f := 26) rfl ?_); refine q0n (some 43) rfl rfl Tryd.func26 (by kernel_rfl) rfl #[.agg #[.slice (some ad168) l0_0.length c0_0, .bool a0_1], .int .i64 a1_0, .int .i64 0] rfl zc ?_; (with_reducible refine (clerestoryref1_Under.calls kj23 _ _ l0_0 a0_1 a1_0 0 true _ ?side1 ?side2 A31.out).mono ?_); (case side1 => repeat (first | exact (Kd.C_below HR0_0.out (by repeat (first | (with_reducible first | exact HB.out | apply bA | apply bN | apply bD | refine bS ?_ GE165.out | refine bS ?_ GE166.out | refine bS ?_ GE169.out) | exact HB.out))) | (with_reducible refine cA ?_ _) | (with_reducible refine cN ?_ _) | (with_reducible refine cD ?_))); (case side2 => exact HC0_0.out); rintro e w38 ⟨rfl, hb⟩; refine ⟨_, rfl, ?_⟩; replace BK165 := aS (q01 (g := gb165) (o := .cells #[.slice (some ad168) l0_0.length c0_0, .bool a0_1] 24 (0, 0)) (za BK165.out) hb); replace BK166 := aS (q01 (g := gb166) (o := .cells #[.int .i64 a1_0, .int .i64 a1_1] 50 (0, 0)) (za BK166.out) hb); replace BK169 := aS (q01 (g := gb169) (o := .cells #[.int .i64 ((q00 l0_0 a1_0).f0), .string ((q00 l0_0 a1_0).f1), .slice A168_2 ((q00 l0_0 a1_0).f2).length c168_2, .string ((q00 l0_0 a1_0).f3), .int .i64 ((q00 l0_0 a1_0).f4), .slice A168_5 ((q00 l0_0 a1_0).f5).length c168_5] 43 (0, 0)) (za BK169.out) hb); replace HB := aS (q02 (by repeat (first | (with_reducible first | exact HB.out | apply bA | apply bN | apply bD | refine bS ?_ GE165.out | refine bS ?_ GE166.out | refine bS ?_ GE169.out) | exact HB.out)) hb); (try clear hb); (try clear hb2); (try clear hk); (try clear hi)))
       go_ret
       exact ⟨by first | rfl | (simp [q05, q04] <;> rfl) | (simp [*, q05, q04] <;> rfl), by repeat (first | (with_reducible first | exact HB.out | apply bA | apply bN | apply bD | refine bS ?_ GE165.out | refine bS ?_ GE166.out | refine bS ?_ GE169.out) | exact HB.out)⟩
      case n32 =>
       obtain rfl := Option.some.inj H
       have hnb39 := NB166_165.out
       have hnc39 := NB165_166.out
       have hnb40 := NB166_169.out
       have hnc40 := NB169_166.out
       obtain ⟨hczL_0, hczL_1, hfzL_0, hfzL_1⟩ := bk2 BK166.out
       go_wp2_with (first | ((with_reducible refine q08 (f := 73) rfl ?_); refine q0n (some 38) rfl rfl Tryd.func73 (by kernel_rfl) rfl #[.int .i64 a1_1, .int .i64 0, .int .i64 x6_23] rfl zc ?_; (with_reducible refine (clerestoryref1_between.calls a1_1 0 x6_23 true _ A29.out).mono ?_); rintro e w' ⟨rfl, ⟨nd, rfl⟩⟩; refine ⟨_, rfl, ?_⟩; have hnb42 := NB165_169.out; have hnc42 := NB169_165.out; obtain ⟨hczL_0, hczL_1, hfzL_0, hfzL_1⟩ := bk2 BK165.out) | ((with_reducible refine q08 (f := 26) rfl ?_); refine q0n (some 43) rfl rfl Tryd.func26 (by kernel_rfl) rfl #[.agg #[.slice (some ad168) l0_0.length c0_0, .bool a0_1], .int .i64 a1_0, .int .i64 0] rfl zc ?_; (with_reducible refine (clerestoryref1_Under.calls kj23 _ _ l0_0 a0_1 a1_0 0 false _ ?side1 ?side2 A31.out).mono ?_); (case side1 => repeat (first | exact (Kd.C_below HR0_0.out (by repeat (first | (with_reducible first | exact HB.out | apply bA | apply bN | apply bD | refine bS ?_ GE165.out | refine bS ?_ GE166.out | refine bS ?_ GE169.out) | exact HB.out))) | (with_reducible refine cA ?_ _) | (with_reducible refine cN ?_ _) | (with_reducible refine cD ?_))); (case side2 => exact HC0_0.out); rintro e w44 ⟨rfl, hb⟩; refine ⟨_, rfl, ?_⟩; replace BK165 := aS (q01 (g := gb165) (o := .cells #[.slice (some ad168) l0_0.length c0_0, .bool a0_1] 24 (0, 0)) (za BK165.out) hb); replace BK166 := aS (q01 (g := gb166) (o := .cells #[.int .i64 a1_0, .int .i64 a1_1] 50 (0, 0)) (za BK166.out) hb); replace BK169 := aS (q01 (g := gb169) (o := .cells #[.int .i64 ((q00 l0_0 a1_0).f0), .string ((q00 l0_0 a1_0).f1), .slice A168_2 ((q00 l0_0 a1_0).f2).length c168_2, .string ((q00 l0_0 a1_0).f3), .int .i64 ((q00 l0_0 a1_0).f4), .slice A168_5 ((q00 l0_0 a1_0).f5).length c168_5] 43 (0, 0)) (za BK169.out) hb); replace HB := aS (q02 (by repeat (first | (with_reducible first | exact HB.out | apply bA | apply bN | apply bD | refine bS ?_ GE165.out | refine bS ?_ GE166.out | refine bS ?_ GE169.out) | exact HB.out)) hb); (try clear hb); (try clear hb2); (try clear hk); (try clear hi)))
       go_ret
       exact ⟨by first | rfl | (simp [q05, q04] <;> rfl) | (simp [*, q05, q04] <;> rfl), by repeat (first | (with_reducible first | exact HB.out | apply bA | apply bN | apply bD | refine bS ?_ GE165.out | refine bS ?_ GE166.out | refine bS ?_ GE169.out) | exact HB.out)⟩
      case n30 =>
       obtain rfl := Option.some.inj H
       have hnb45 := NB166_165.out
       have hnc45 := NB165_166.out
       have hnb46 := NB166_169.out
       have hnc46 := NB169_166.out
       obtain ⟨hczL_0, hczL_1, hfzL_0, hfzL_1⟩ := bk2 BK166.out
       go_wp2_with (first | ((with_reducible refine q08 (f := 73) rfl ?_); refine q0n (some 38) rfl rfl Tryd.func73 (by kernel_rfl) rfl #[.int .i64 a1_1, .int .i64 0, .int .i64 x6_23] rfl zc ?_; (with_reducible refine (clerestoryref1_between.calls a1_1 0 x6_23 false _ A29.out).mono ?_); rintro e w' ⟨rfl, ⟨nd, rfl⟩⟩; refine ⟨_, rfl, ?_⟩))
       go_ret
       exact ⟨by first | rfl | (simp [q05, q04] <;> rfl) | (simp [*, q05, q04] <;> rfl), by repeat (first | (with_reducible first | exact HB.out | apply bA | apply bN | apply bD | refine bS ?_ GE165.out | refine bS ?_ GE166.out | refine bS ?_ GE169.out) | exact HB.out)⟩
 case n4 =>
  obtain rfl := Option.some.inj H
  go_enter Tryd.func39, Tryd.ntmps39
  go_wp2_with (first | ((with_reducible refine q07 (N := 2) rfl ?_); refine box0 rfl (N := 2) rfl (cs := #[.slice A0_0 l0_0.length c0_0, .bool a0_1]) (t := 24) zh (z7 HB.out) ?_; clear HB; intro gb165 w48 BK165 GW165 HB; have GE165 := GW165) | ((with_reducible refine q07 (N := 3) rfl ?_); refine q0j ?hg (N := 3) ?hd (cs := #[.int .i64 a1_0, .int .i64 a1_1]) (t := 50) ?hr ?_; (case hd => rfl); (case hg => rfl); (case hr => first | (go_simp; done) | (go_simp; rfl)); intro gb166 hg w49 hbox hb; have n0_ := aS (q01 (g := gb165) (o := .cells #[.slice A0_0 l0_0.length c0_0, .bool a0_1] 24 (0, 0)) (za BK165.out) hb); have n1_ := aS (q02 (z6 HB.out GE165.out) hb); have n2_ := aS (hbox); have n3_ := aS ((by rw [hg]; exact (q06 (z6 HB.out GE165.out)) : w.heap.size ≤ gb166)); have n4_ := aS ((by rw [hg]; exact (q06 (z6 HB.out GE165.out)) : w.heap.size ≤ gb166)); have n5_ := aS ((by rw [hg]; exact Nat.ne_of_lt (q0i (g := gb165) (o := .cells #[.slice A0_0 l0_0.length c0_0, .bool a0_1] 24 (0, 0)) (za BK165.out)) : gb165 ≠ gb166)); have n6_ := aS ((by rw [hg]; exact Nat.ne_of_gt (q0i (g := gb165) (o := .cells #[.slice A0_0 l0_0.length c0_0, .bool a0_1] 24 (0, 0)) (za BK165.out)) : gb166 ≠ gb165)); clear BK165; clear HB; have BK165 := n0_; have HB := n1_; have BK166 := n2_; have GW166 := n3_; have GE166 := n4_; have NB165_166 := n5_; have NB166_165 := n6_; clear n0_ n1_ n2_ n3_ n4_ n5_ n6_; clear hb hbox hg; have hnb50 := NB166_165.out; have hnc50 := NB165_166.out; obtain ⟨hczL_0, hczL_1, hfzL_0, hfzL_1⟩ := bk2 BK166.out; obtain ⟨hczL_0, hczL_1, hfzL_0, hfzL_1⟩ := bk2 BK165.out) | ((with_reducible refine q08 (f := 73) rfl ?_); refine q0n (some 13) rfl rfl Tryd.func73 (by kernel_rfl) rfl #[.int .i64 a1_0, .int .i64 0, .int .i64 (wrap64 ((l0_0.length : Int) - 1))] rfl zc ?_; (with_reducible refine (clerestoryref1_between.calls a1_0 0 (wrap64 ((l0_0.length : Int) - 1)) false _ A3.out).mono ?_); rintro e w' ⟨rfl, ⟨nd, rfl⟩⟩; refine ⟨_, rfl, ?_⟩))
  go_ret
  exact ⟨by first | rfl | (simp [q05, q04] <;> rfl) | (simp [*, q05, q04] <;> rfl), by repeat (first | (with_reducible first | exact HB.out | apply bA | apply bN | apply bD | refine bS ?_ GE165.out | refine bS ?_ GE166.out) | exact HB.out)⟩
mutual
def clerestoryref1_NodeErr.j0 : Nat → Bool → Int → ByteArray → List (S122) → ByteArray → Int → List Int → Option (Int)
 | 0, _, _, _, _, _, _, _ => none
 | k + 1, x59, x107000, x107001, x107002, x107003, x107004, x107005 => if x59 = true then (some 7) else (if x107000 = 2 then ((clerestoryref1_domName.f k x107001 true).bind fun t108 => (clerestoryref1_NodeErr.j1 k (!t108) x107000 x107001 x107002 x107003 x107004 x107005)) else (clerestoryref1_NodeErr.j1 k false x107000 x107001 x107002 x107003 x107004 x107005))
def clerestoryref1_NodeErr.j1 : Nat → Bool → Int → ByteArray → List (S122) → ByteArray → Int → List Int → Option (Int)
 | 0, _, _, _, _, _, _, _ => none
 | k + 1, x68, x107000, x107001, x107002, x107003, x107004, x107005 => if x68 = true then (some 3) else (if (x107002.length : Int) > 12 then (some 2) else (clerestoryref1_NodeErr.l0 k 0 x107000 x107001 x107002 x107003 x107004 x107005))
def clerestoryref1_NodeErr.l0 : Nat → Int → Int → ByteArray → List (S122) → ByteArray → Int → List Int → Option (Int)
 | 0, _, _, _, _, _, _, _ => none
 | k + 1, x3, x107000, x107001, x107002, x107003, x107004, x107005 => if x3 < (x107002.length : Int) then (if 0 ≤ x3 then ((clerestoryref1_domName.f k ((q0c x107002 x3).f0) false).bind fun t110 => (if t110 = true then (if (((q0c x107002 x3).f1).size : Int) > 400 then (some 2) else (if x3 ≤ (x107002.length : Int) then ((clerestoryref1_AttrOf.f k (x107002.take (x3 : Int).toNat) ((q0c x107002 x3).f0)).bind fun bt117 => (if bt117.2 = true then (some 3) else (clerestoryref1_NodeErr.l0 k (wrap64 (x3 + 1)) x107000 x107001 x107002 x107003 x107004 x107005))) else (none))) else (some 3))) else (none)) else (if (x107003.size : Int) > 400 then (some 2) else (if (x107001.size : Int) > 400 then (some 2) else (some 0)))
end
def clerestoryref1_NodeErr.f (k : Nat) (a0_0 : Int) (a0_1 : ByteArray) (l0_2 : List (S122)) (a0_3 : ByteArray) (a0_4 : Int) (l0_5 : List Int) : Option (Int) := (clerestoryref1_between.f a0_0 1 5).bind fun t107 => (if t107 = true then (if a0_1.toList = ([] : List UInt8) then (if (l0_2.length : Int) > 0 then (if a0_0 = 2 then (if a0_3.toList = ([] : List UInt8) then (if (l0_5.length : Int) > 0 then (clerestoryref1_NodeErr.j0 k (decide (a0_0 > 2)) a0_0 a0_1 l0_2 a0_3 a0_4 l0_5) else (clerestoryref1_NodeErr.j0 k false a0_0 a0_1 l0_2 a0_3 a0_4 l0_5)) else (if a0_0 = 3 then (if (l0_5.length : Int) > 0 then (clerestoryref1_NodeErr.j0 k (decide (a0_0 > 2)) a0_0 a0_1 l0_2 a0_3 a0_4 l0_5) else (clerestoryref1_NodeErr.j0 k false a0_0 a0_1 l0_2 a0_3 a0_4 l0_5)) else (if a0_0 = 4 then (if (l0_5.length : Int) > 0 then (clerestoryref1_NodeErr.j0 k (decide (a0_0 > 2)) a0_0 a0_1 l0_2 a0_3 a0_4 l0_5) else (clerestoryref1_NodeErr.j0 k false a0_0 a0_1 l0_2 a0_3 a0_4 l0_5)) else (clerestoryref1_NodeErr.j0 k true a0_0 a0_1 l0_2 a0_3 a0_4 l0_5)))) else (clerestoryref1_NodeErr.j0 k true a0_0 a0_1 l0_2 a0_3 a0_4 l0_5)) else (if a0_3.toList = ([] : List UInt8) then (if (l0_5.length : Int) > 0 then (clerestoryref1_NodeErr.j0 k (decide (a0_0 > 2)) a0_0 a0_1 l0_2 a0_3 a0_4 l0_5) else (clerestoryref1_NodeErr.j0 k false a0_0 a0_1 l0_2 a0_3 a0_4 l0_5)) else (if a0_0 = 3 then (if (l0_5.length : Int) > 0 then (clerestoryref1_NodeErr.j0 k (decide (a0_0 > 2)) a0_0 a0_1 l0_2 a0_3 a0_4 l0_5) else (clerestoryref1_NodeErr.j0 k false a0_0 a0_1 l0_2 a0_3 a0_4 l0_5)) else (if a0_0 = 4 then (if (l0_5.length : Int) > 0 then (clerestoryref1_NodeErr.j0 k (decide (a0_0 > 2)) a0_0 a0_1 l0_2 a0_3 a0_4 l0_5) else (clerestoryref1_NodeErr.j0 k false a0_0 a0_1 l0_2 a0_3 a0_4 l0_5)) else (clerestoryref1_NodeErr.j0 k true a0_0 a0_1 l0_2 a0_3 a0_4 l0_5))))) else (if a0_0 = 2 then (if (l0_2.length : Int) > 0 then (if a0_3.toList = ([] : List UInt8) then (if (l0_5.length : Int) > 0 then (clerestoryref1_NodeErr.j0 k (decide (a0_0 > 2)) a0_0 a0_1 l0_2 a0_3 a0_4 l0_5) else (clerestoryref1_NodeErr.j0 k false a0_0 a0_1 l0_2 a0_3 a0_4 l0_5)) else (if a0_0 = 3 then (if (l0_5.length : Int) > 0 then (clerestoryref1_NodeErr.j0 k (decide (a0_0 > 2)) a0_0 a0_1 l0_2 a0_3 a0_4 l0_5) else (clerestoryref1_NodeErr.j0 k false a0_0 a0_1 l0_2 a0_3 a0_4 l0_5)) else (if a0_0 = 4 then (if (l0_5.length : Int) > 0 then (clerestoryref1_NodeErr.j0 k (decide (a0_0 > 2)) a0_0 a0_1 l0_2 a0_3 a0_4 l0_5) else (clerestoryref1_NodeErr.j0 k false a0_0 a0_1 l0_2 a0_3 a0_4 l0_5)) else (clerestoryref1_NodeErr.j0 k true a0_0 a0_1 l0_2 a0_3 a0_4 l0_5)))) else (if a0_3.toList = ([] : List UInt8) then (if (l0_5.length : Int) > 0 then (clerestoryref1_NodeErr.j0 k (decide (a0_0 > 2)) a0_0 a0_1 l0_2 a0_3 a0_4 l0_5) else (clerestoryref1_NodeErr.j0 k false a0_0 a0_1 l0_2 a0_3 a0_4 l0_5)) else (if a0_0 = 3 then (if (l0_5.length : Int) > 0 then (clerestoryref1_NodeErr.j0 k (decide (a0_0 > 2)) a0_0 a0_1 l0_2 a0_3 a0_4 l0_5) else (clerestoryref1_NodeErr.j0 k false a0_0 a0_1 l0_2 a0_3 a0_4 l0_5)) else (if a0_0 = 4 then (if (l0_5.length : Int) > 0 then (clerestoryref1_NodeErr.j0 k (decide (a0_0 > 2)) a0_0 a0_1 l0_2 a0_3 a0_4 l0_5) else (clerestoryref1_NodeErr.j0 k false a0_0 a0_1 l0_2 a0_3 a0_4 l0_5)) else (clerestoryref1_NodeErr.j0 k true a0_0 a0_1 l0_2 a0_3 a0_4 l0_5))))) else (if a0_0 = 5 then (if (l0_2.length : Int) > 0 then (clerestoryref1_NodeErr.j0 k true a0_0 a0_1 l0_2 a0_3 a0_4 l0_5) else (if a0_3.toList = ([] : List UInt8) then (if (l0_5.length : Int) > 0 then (clerestoryref1_NodeErr.j0 k (decide (a0_0 > 2)) a0_0 a0_1 l0_2 a0_3 a0_4 l0_5) else (clerestoryref1_NodeErr.j0 k false a0_0 a0_1 l0_2 a0_3 a0_4 l0_5)) else (if a0_0 = 3 then (if (l0_5.length : Int) > 0 then (clerestoryref1_NodeErr.j0 k (decide (a0_0 > 2)) a0_0 a0_1 l0_2 a0_3 a0_4 l0_5) else (clerestoryref1_NodeErr.j0 k false a0_0 a0_1 l0_2 a0_3 a0_4 l0_5)) else (if a0_0 = 4 then (if (l0_5.length : Int) > 0 then (clerestoryref1_NodeErr.j0 k (decide (a0_0 > 2)) a0_0 a0_1 l0_2 a0_3 a0_4 l0_5) else (clerestoryref1_NodeErr.j0 k false a0_0 a0_1 l0_2 a0_3 a0_4 l0_5)) else (clerestoryref1_NodeErr.j0 k true a0_0 a0_1 l0_2 a0_3 a0_4 l0_5))))) else (clerestoryref1_NodeErr.j0 k true a0_0 a0_1 l0_2 a0_3 a0_4 l0_5)))) else (some 7))
set_option maxHeartbeats 8000000 in
set_option maxRecDepth 100000 in
theorem clerestoryref1_NodeErr.calls (k : Nat) (a0_0 : Int) (a0_1 : ByteArray) (A0_2 : Option Addr) (c0_2 : Nat) (l0_2 : List (S122)) (a0_3 : ByteArray) (a0_4 : Int) (A0_5 : Option Addr) (c0_5 : Nat) (l0_5 : List Int) (r : Int) (w : World) (hr0_2 : Kd.C k122 w A0_2 l0_2.length l0_2) (hc0_2 : l0_2.length ≤ c0_2) (hr0_5 : Kd.C (Kd.int .i64) w A0_5 l0_5.length l0_5) (hc0_5 : l0_5.length ≤ c0_5) (h : clerestoryref1_NodeErr.f k a0_0 a0_1 l0_2 a0_3 a0_4 l0_5 = some r) :
 Calls Tryd.prog 72 #[.agg #[.int .i64 a0_0, .string a0_1, .slice A0_2 l0_2.length c0_2, .string a0_3, .int .i64 a0_4, .slice A0_5 l0_5.length c0_5]] w fun e w' => e = .returned (.int .i64 r) ∧ Below w.heap.size w w' := by
 have hu43 := Tryd.underlying43
 have HR0_2 := aS hr0_2
 have HC0_2 := aS hc0_2
 clear hr0_2 hc0_2
 have HR0_5 := aS hr0_5
 have HC0_5 := aS hc0_5
 clear hr0_5 hc0_5
 have HB := aS (Below.refl w.heap.size w)
 have H := h; clear h; unfold clerestoryref1_NodeErr.f at H
 replace H := iB H
 obtain ⟨t107, A2, H⟩ := H
 refine iV H ?p3 ?n3 <;> clear H
 case' p3 => intro c3 H; subst c3
 case' n3 => intro c3 H; subst c3
 case p3 =>
  have HC4 := aS H
  clear H
  go_enter Tryd.func72, Tryd.ntmps72
  go_upto_region 3 with (first | ((with_reducible refine q07 (N := 1) rfl ?_); (try (refine q0z (by rfl) ?_; dsimp only)); refine box0 rfl (N := 1) rfl (cs := #[.int .i64 a0_0, .string a0_1, .slice A0_2 l0_2.length c0_2, .string a0_3, .int .i64 a0_4, .slice A0_5 l0_5.length c0_5]) (t := 43) zh (z7 HB.out) ?_; clear HB; intro gb106 w5 BK106 GW106 HB; have GE106 := GW106; obtain ⟨hczL_0, hczL_1, hczL_2, hczL_3, hczL_4, hczL_5, hfzL_0, hfzL_1, hfzL_2, hfzL_3, hfzL_4, hfzL_5⟩ := bk6 BK106.out) | (go_at_call 73; (with_reducible refine (clerestoryref1_between.calls a0_0 1 5 true _ A2.out).mono ?_); rintro e w' ⟨rfl, ⟨nd, rfl⟩⟩; (try first | exact ⟨rfl, _, World.drewN_drewN _ _ _⟩ | exact ⟨rfl, _, Eq.trans (World.drewN_drewN _ _ _) (congrArg (World.drewN _) (Nat.add_assoc _ _ _))⟩)))
  repeat (go_quiet (first | ((with_reducible refine q07 (N := 1) rfl ?_); (try (refine q0z (by rfl) ?_; dsimp only)); refine box0 rfl (N := 1) rfl (cs := #[.int .i64 a0_0, .string a0_1, .slice A0_2 l0_2.length c0_2, .string a0_3, .int .i64 a0_4, .slice A0_5 l0_5.length c0_5]) (t := 43) zh (z7 HB.out) ?_; clear HB; intro gb106 w5 BK106 GW106 HB; have GE106 := GW106; obtain ⟨hczL_0, hczL_1, hczL_2, hczL_3, hczL_4, hczL_5, hfzL_0, hfzL_1, hfzL_2, hfzL_3, hfzL_4, hfzL_5⟩ := bk6 BK106.out) | (go_at_call 73; (with_reducible refine (clerestoryref1_between.calls a0_0 1 5 true _ A2.out).mono ?_); rintro e w' ⟨rfl, ⟨nd, rfl⟩⟩; (try first | exact ⟨rfl, _, World.drewN_drewN _ _ _⟩ | exact ⟨rfl, _, Eq.trans (World.drewN_drewN _ _ _) (congrArg (World.drewN _) (Nat.add_assoc _ _ _))⟩))); go_upto_region 3 with (first | ((with_reducible refine q07 (N := 1) rfl ?_); (try (refine q0z (by rfl) ?_; dsimp only)); refine box0 rfl (N := 1) rfl (cs := #[.int .i64 a0_0, .string a0_1, .slice A0_2 l0_2.length c0_2, .string a0_3, .int .i64 a0_4, .slice A0_5 l0_5.length c0_5]) (t := 43) zh (z7 HB.out) ?_; clear HB; intro gb106 w5 BK106 GW106 HB; have GE106 := GW106; obtain ⟨hczL_0, hczL_1, hczL_2, hczL_3, hczL_4, hczL_5, hfzL_0, hfzL_1, hfzL_2, hfzL_3, hfzL_4, hfzL_5⟩ := bk6 BK106.out) | (go_at_call 73; (with_reducible refine (clerestoryref1_between.calls a0_0 1 5 true _ A2.out).mono ?_); rintro e w' ⟨rfl, ⟨nd, rfl⟩⟩; (try first | exact ⟨rfl, _, World.drewN_drewN _ _ _⟩ | exact ⟨rfl, _, Eq.trans (World.drewN_drewN _ _ _) (congrArg (World.drewN _) (Nat.add_assoc _ _ _))⟩))))
  (try simp only [Act.put, s1, s2, s3])
  go_cut [59] (fun v59 wc => ∃ (kq : Nat) (x59_3 : Bool), v59 = .bool x59_3 ∧ Aside0 (clerestoryref1_NodeErr.j0 kq x59_3 a0_0 a0_1 l0_2 a0_3 a0_4 l0_5 = some r) ∧ Aside0 (kq ≤ k) ∧ Aside0 (wc.heap[gb106]? = some (.cells #[.int .i64 a0_0, .string a0_1, (.slice A0_2 l0_2.length c0_2), .string a0_3, .int .i64 a0_4, (.slice A0_5 l0_5.length c0_5)] 43 (0, 0))) ∧ Aside0 (Below w.heap.size w wc))
  case first =>
   have H := HC4.out
   clear HC4
   obtain ⟨hczL_0, hczL_1, hczL_2, hczL_3, hczL_4, hczL_5, hfzL_0, hfzL_1, hfzL_2, hfzL_3, hfzL_4, hfzL_5⟩ := bk6 BK106.out
   refine iE H ?p7 ?n7 <;> clear H
   case' p7 => intro c7b0 c7b1 H; (first | rw [c7b0] | (simp only [q09, q0a]; rw [c7b0]) | skip); refine iTN (m := 0) (n := l0_2.length) H rfl rfl ?p8 ?n8 <;> clear H
   case' p8 => intro c8b0 c8b1 H; refine iE H ?p9 ?n9 <;> clear H
   case' p9 => intro c9b0 c9b1 H; refine iE H ?p10 ?n10 <;> clear H
   case' p10 => intro c10b0 c10b1 H; refine iTN (m := 0) (n := l0_5.length) H rfl rfl ?p11 ?n11 <;> clear H
   case' p11 => intro c11b0 c11b1 H
   case' n11 => intro c11b0 c11b1 H
   case' n10 => intro c10 c10b0 c10b1 H; refine iE H ?p14 ?n14 <;> clear H
   case' p14 => intro c14b0 c14b1 H; refine iTN (m := 0) (n := l0_5.length) H rfl rfl ?p15 ?n15 <;> clear H
   case' p15 => intro c15b0 c15b1 H
   case' n15 => intro c15b0 c15b1 H
   case' n14 => intro c14 c14b0 c14b1 H; refine iE H ?p18 ?n18 <;> clear H
   case' p18 => intro c18b0 c18b1 H; refine iTN (m := 0) (n := l0_5.length) H rfl rfl ?p19 ?n19 <;> clear H
   case' p19 => intro c19b0 c19b1 H
   case' n19 => intro c19b0 c19b1 H
   case' n18 => intro c18 c18b0 c18b1 H
   case' n9 => intro c9 c9b0 c9b1 H
   case' n8 => intro c8b0 c8b1 H; refine iE H ?p24 ?n24 <;> clear H
   case' p24 => intro c24b0 c24b1 H; refine iTN (m := 0) (n := l0_5.length) H rfl rfl ?p25 ?n25 <;> clear H
   case' p25 => intro c25b0 c25b1 H
   case' n25 => intro c25b0 c25b1 H
   case' n24 => intro c24 c24b0 c24b1 H; refine iE H ?p28 ?n28 <;> clear H
   case' p28 => intro c28b0 c28b1 H; refine iTN (m := 0) (n := l0_5.length) H rfl rfl ?p29 ?n29 <;> clear H
   case' p29 => intro c29b0 c29b1 H
   case' n29 => intro c29b0 c29b1 H
   case' n28 => intro c28 c28b0 c28b1 H; refine iE H ?p32 ?n32 <;> clear H
   case' p32 => intro c32b0 c32b1 H; refine iTN (m := 0) (n := l0_5.length) H rfl rfl ?p33 ?n33 <;> clear H
   case' p33 => intro c33b0 c33b1 H
   case' n33 => intro c33b0 c33b1 H
   case' n32 => intro c32 c32b0 c32b1 H
   case' n7 => intro c7 c7b0 c7b1 H; (first | rw [c7b0] | (simp only [q09, q0a]; rw [c7b0]) | skip); refine iE H ?p37 ?n37 <;> clear H
   case' p37 => intro c37b0 c37b1 H; refine iTN (m := 0) (n := l0_2.length) H rfl rfl ?p38 ?n38 <;> clear H
   case' p38 => intro c38b0 c38b1 H; refine iE H ?p39 ?n39 <;> clear H
   case' p39 => intro c39b0 c39b1 H; refine iTN (m := 0) (n := l0_5.length) H rfl rfl ?p40 ?n40 <;> clear H
   case' p40 => intro c40b0 c40b1 H
   case' n40 => intro c40b0 c40b1 H
   case' n39 => intro c39 c39b0 c39b1 H; refine iE H ?p43 ?n43 <;> clear H
   case' p43 => intro c43b0 c43b1 H; refine iTN (m := 0) (n := l0_5.length) H rfl rfl ?p44 ?n44 <;> clear H
   case' p44 => intro c44b0 c44b1 H
   case' n44 => intro c44b0 c44b1 H
   case' n43 => intro c43 c43b0 c43b1 H; refine iE H ?p47 ?n47 <;> clear H
   case' p47 => intro c47b0 c47b1 H; refine iTN (m := 0) (n := l0_5.length) H rfl rfl ?p48 ?n48 <;> clear H
   case' p48 => intro c48b0 c48b1 H
   case' n48 => intro c48b0 c48b1 H
   case' n47 => intro c47 c47b0 c47b1 H
   case' n38 => intro c38b0 c38b1 H; refine iE H ?p52 ?n52 <;> clear H
   case' p52 => intro c52b0 c52b1 H; refine iTN (m := 0) (n := l0_5.length) H rfl rfl ?p53 ?n53 <;> clear H
   case' p53 => intro c53b0 c53b1 H
   case' n53 => intro c53b0 c53b1 H
   case' n52 => intro c52 c52b0 c52b1 H; refine iE H ?p56 ?n56 <;> clear H
   case' p56 => intro c56b0 c56b1 H; refine iTN (m := 0) (n := l0_5.length) H rfl rfl ?p57 ?n57 <;> clear H
   case' p57 => intro c57b0 c57b1 H
   case' n57 => intro c57b0 c57b1 H
   case' n56 => intro c56 c56b0 c56b1 H; refine iE H ?p60 ?n60 <;> clear H
   case' p60 => intro c60b0 c60b1 H; refine iTN (m := 0) (n := l0_5.length) H rfl rfl ?p61 ?n61 <;> clear H
   case' p61 => intro c61b0 c61b1 H
   case' n61 => intro c61b0 c61b1 H
   case' n60 => intro c60 c60b0 c60b1 H
   case' n37 => intro c37 c37b0 c37b1 H; refine iE H ?p65 ?n65 <;> clear H
   case' p65 => intro c65b0 c65b1 H; refine iTN (m := 0) (n := l0_2.length) H rfl rfl ?p66 ?n66 <;> clear H
   case' p66 => intro c66b0 c66b1 H
   case' n66 => intro c66b0 c66b1 H; refine iE H ?p68 ?n68 <;> clear H
   case' p68 => intro c68b0 c68b1 H; refine iTN (m := 0) (n := l0_5.length) H rfl rfl ?p69 ?n69 <;> clear H
   case' p69 => intro c69b0 c69b1 H
   case' n69 => intro c69b0 c69b1 H
   case' n68 => intro c68 c68b0 c68b1 H; refine iE H ?p72 ?n72 <;> clear H
   case' p72 => intro c72b0 c72b1 H; refine iTN (m := 0) (n := l0_5.length) H rfl rfl ?p73 ?n73 <;> clear H
   case' p73 => intro c73b0 c73b1 H
   case' n73 => intro c73b0 c73b1 H
   case' n72 => intro c72 c72b0 c72b1 H; refine iE H ?p76 ?n76 <;> clear H
   case' p76 => intro c76b0 c76b1 H; refine iTN (m := 0) (n := l0_5.length) H rfl rfl ?p77 ?n77 <;> clear H
   case' p77 => intro c77b0 c77b1 H
   case' n77 => intro c77b0 c77b1 H
   case' n76 => intro c76 c76b0 c76b1 H
   case' n65 => intro c65 c65b0 c65b1 H
   case p11|n11|p15|n15|p19|n19|n18|n9|p25|n25|p29|n29|p33|n33|n32|p40|n40|p44|n44|p48|n48|n47|p53|n53|p57|n57|p61|n61|n60|p66|p69|n69|p73|n73|p77|n77|n76|n65 =>
    have H' := aS H
    clear H
    go_wp2
    repeat (go_quiet (fail); try go_wp2)
    go_meet
    case rel => exact ⟨_, _, zi, H', ⟨by first | omega | exact Nat.le_refl _⟩, ⟨by (with_reducible repeat (first | refine kN ?_ _ | refine kD ?_ | refine kA ?_ _)); exact BK106.out⟩, ⟨by repeat (first | (with_reducible first | exact HB.out | apply bA | apply bN | apply bD | refine bS ?_ GE106.out) | exact HB.out)⟩⟩
  case rest =>
   clear HC4
   obtain ⟨kq, x59_3, rfl, HA, HJ3, BK106, HB⟩ := hcut
   cases kq with
   | zero => exact absurd HA.out (by simp [clerestoryref1_NodeErr.j0])
   | succ kj3 =>
    have H := HA.out
    clear HA
    simp only [clerestoryref1_NodeErr.j0] at H
    refine iV H ?p82 ?n82 <;> clear H
    case' p82 => intro c82 H; subst c82
    case' n82 => intro c82 H; subst c82
    case p82 =>
     obtain rfl := Option.some.inj H
     go_wp2
     repeat (go_quiet (fail); try go_wp2)
     go_ret
     exact ⟨by first | rfl | (simp [q05, q04] <;> rfl) | (simp [*, q05, q04] <;> rfl), by repeat (first | (with_reducible first | exact HB.out | apply bA | apply bN | apply bD | refine bS ?_ GE106.out) | exact HB.out)⟩
    case n82 =>
     have HC83 := aS H
     clear H
     go_upto_region 5 with (fail)
     repeat (go_quiet (fail); go_upto_region 5 with (fail))
     go_cut [68] (fun v68 wc => ∃ (kq : Nat) (x68_82 : Bool), v68 = .bool x68_82 ∧ Aside0 (clerestoryref1_NodeErr.j1 kq x68_82 a0_0 a0_1 l0_2 a0_3 a0_4 l0_5 = some r) ∧ Aside0 (kq ≤ kj3) ∧ Aside0 (wc.heap[gb106]? = some (.cells #[.int .i64 a0_0, .string a0_1, (.slice A0_2 l0_2.length c0_2), .string a0_3, .int .i64 a0_4, (.slice A0_5 l0_5.length c0_5)] 43 (0, 0))) ∧ Aside0 (Below w.heap.size w wc))
     case first =>
      have H := HC83.out
      clear HC83
      refine iE H ?p84 ?n84 <;> clear H
      case' p84 => intro c84b0 c84b1 H
      case' n84 => intro c84 c84b0 c84b1 H
      case p84 =>
       (first | rw [c84b0] | (simp only [q09, q0a]; rw [c84b0]) | skip)
       replace H := iB H
       obtain ⟨t108, A85, H⟩ := H
       have H' := aS H
       clear H
       obtain ⟨hczL_0, hczL_1, hczL_2, hczL_3, hczL_4, hczL_5, hfzL_0, hfzL_1, hfzL_2, hfzL_3, hfzL_4, hfzL_5⟩ := bk6 BK106.out
       go_wp2_with (first | (go_at_call 120; (with_reducible refine (clerestoryref1_domName.calls kj3 a0_1 true t108 _ A85.out).mono ?_); rintro e w' ⟨rfl, ⟨nd, rfl⟩⟩; (try first | exact ⟨rfl, _, World.drewN_drewN _ _ _⟩ | exact ⟨rfl, _, Eq.trans (World.drewN_drewN _ _ _) (congrArg (World.drewN _) (Nat.add_assoc _ _ _))⟩)))
       repeat (go_quiet (first | (go_at_call 120; (with_reducible refine (clerestoryref1_domName.calls kj3 a0_1 true t108 _ A85.out).mono ?_); rintro e w' ⟨rfl, ⟨nd, rfl⟩⟩; (try first | exact ⟨rfl, _, World.drewN_drewN _ _ _⟩ | exact ⟨rfl, _, Eq.trans (World.drewN_drewN _ _ _) (congrArg (World.drewN _) (Nat.add_assoc _ _ _))⟩))); try go_wp2_with (first | (go_at_call 120; (with_reducible refine (clerestoryref1_domName.calls kj3 a0_1 true t108 _ A85.out).mono ?_); rintro e w' ⟨rfl, ⟨nd, rfl⟩⟩; (try first | exact ⟨rfl, _, World.drewN_drewN _ _ _⟩ | exact ⟨rfl, _, Eq.trans (World.drewN_drewN _ _ _) (congrArg (World.drewN _) (Nat.add_assoc _ _ _))⟩))))
       go_meet
       case rel => exact ⟨_, (!t108), zi, H', ⟨by have := HJ3.out; first | omega | exact Nat.le_refl _⟩, ⟨by (with_reducible repeat (first | refine kN ?_ _ | refine kD ?_ | refine kA ?_ _)); exact BK106.out⟩, ⟨by repeat (first | (with_reducible first | exact HB.out | apply bA | apply bN | apply bD | refine bS ?_ GE106.out) | exact HB.out)⟩⟩
      case n84 =>
       (first | rw [c84b0] | (simp only [q09, q0a]; rw [c84b0]) | skip)
       have H' := aS H
       clear H
       obtain ⟨hczL_0, hczL_1, hczL_2, hczL_3, hczL_4, hczL_5, hfzL_0, hfzL_1, hfzL_2, hfzL_3, hfzL_4, hfzL_5⟩ := bk6 BK106.out
       go_wp2
       repeat (go_quiet (fail); try go_wp2)
       go_meet
       case rel => exact ⟨_, _, zi, H', ⟨by have := HJ3.out; first | omega | exact Nat.le_refl _⟩, ⟨by (with_reducible repeat (first | refine kN ?_ _ | refine kD ?_ | refine kA ?_ _)); exact BK106.out⟩, ⟨by repeat (first | (with_reducible first | exact HB.out | apply bA | apply bN | apply bD | refine bS ?_ GE106.out) | exact HB.out)⟩⟩
     case rest =>
      clear HC83
      obtain ⟨kq, x68_82, rfl, HA, HJ82, BK106, HB⟩ := hcut
      cases kq with
      | zero => exact absurd HA.out (by simp [clerestoryref1_NodeErr.j1])
      | succ kj82 =>
       have H := HA.out
       clear HA
       simp only [clerestoryref1_NodeErr.j1] at H
       refine iV H ?p88 ?n88 <;> clear H
       case' p88 => intro c88 H; subst c88
       case' n88 =>
        intro c88 H; subst c88
        obtain ⟨hczL_0, hczL_1, hczL_2, hczL_3, hczL_4, hczL_5, hfzL_0, hfzL_1, hfzL_2, hfzL_3, hfzL_4, hfzL_5⟩ := bk6 BK106.out
        refine iTN (m := 12) (n := l0_2.length) H rfl rfl ?p89 ?n89 <;> clear H
       case' p89 => intro c89b0 c89b1 H
       case' n89 => intro c89b0 c89b1 H
       case p88|p89 =>
        obtain rfl := Option.some.inj H
        go_wp2
        repeat (go_quiet (fail); try go_wp2)
        go_ret
        exact ⟨by first | rfl | (simp [q05, q04] <;> rfl) | (simp [*, q05, q04] <;> rfl), by repeat (first | (with_reducible first | exact HB.out | apply bA | apply bN | apply bD | refine bS ?_ GE106.out) | exact HB.out)⟩
       case n89 =>
        have H' := aS H
        clear H
        go_wp2
        repeat (go_quiet (fail); try go_wp2)
        go_loopg [3] kj82 (fun kq v3 w' => ∃ (x3_3 : Int), v3 = .int .i64 x3_3 ∧ Aside0 (clerestoryref1_NodeErr.l0 kq x3_3 a0_0 a0_1 l0_2 a0_3 a0_4 l0_5 = some r) ∧ Aside0 (kq ≤ kj82) ∧ Aside0 (w'.heap[gb106]? = some (.cells #[.int .i64 a0_0, .string a0_1, (.slice A0_2 l0_2.length c0_2), .string a0_3, .int .i64 a0_4, (.slice A0_5 l0_5.length c0_5)] 43 (0, 0))) ∧ Aside0 (Below w.heap.size w w'))
        case atStart => exact ⟨(0), zi, H', ⟨Nat.le_refl _⟩, ⟨by (with_reducible repeat (first | refine kN ?_ _ | refine kD ?_ | refine kA ?_ _)); exact BK106.out⟩, ⟨by repeat (first | (with_reducible first | exact HB.out | apply bA | apply bN | apply bD | refine bS ?_ GE106.out) | exact HB.out)⟩⟩
        case round =>
         clear H'
         obtain ⟨x3_3, rfl, HA, HK3, BK106, HB⟩ := hrel
         cases gk with
         | zero => exact absurd HA.out (by simp [clerestoryref1_NodeErr.l0])
         | succ k3 =>
          have H := HA.out
          clear HA
          simp only [clerestoryref1_NodeErr.l0] at H
          obtain ⟨hczL_0, hczL_1, hczL_2, hczL_3, hczL_4, hczL_5, hfzL_0, hfzL_1, hfzL_2, hfzL_3, hfzL_4, hfzL_5⟩ := bk6 BK106.out
          refine iT H ?p92 ?n92 <;> clear H
          case' p92 => intro c92b0 H; refine iLp H ?_; clear H; intro c93b0 H; replace H := iB H; obtain ⟨t110, A94, H⟩ := H; refine iV H ?p95 ?n95 <;> clear H
          case' p95 => intro c95 H; subst c95; refine iTN (m := 400) (n := ((q0c l0_2 x3_3).f1).size) H rfl rfl ?p96 ?n96 <;> clear H
          case' p96 => intro c96b0 c96b1 H
          case' n96 =>
           intro c96b0 c96b1 H
           have c98b0 := eq_true (od zb : 0 ≤ x3_3)
           refine iGp H ?_; clear H; intro c99 H
           have c99b0 := eq_true c99
           have c99b1 : decide (x3_3 ≤ (l0_2.length : Int)) = true := decide_eq_true c99
           clear c99
           obtain ⟨y112, hy112⟩ : ∃ y_ : List (S122), y_ = (l0_2.take (x3_3 : Int).toNat) := ⟨_, rfl⟩
           replace H : ((clerestoryref1_AttrOf.f k3 y112 ((q0c l0_2 x3_3).f0)).bind fun bt117 => (if bt117.2 = true then (some 3) else (clerestoryref1_NodeErr.l0 k3 (wrap64 (x3_3 + 1)) a0_0 a0_1 l0_2 a0_3 a0_4 l0_5))) = some r := by first | (rw [hy112]; with_reducible exact H) | (have H2_ := (Option.bind_some _ _).symm.trans H; rw [hy112]; with_reducible exact H2_) | (have H2_ := (Option.bind_some _ _).symm.trans H; with_reducible exact H2_) | with_reducible exact H | (rw [hy112]; exact H) | exact H
           have Ny112 := aS hy112
           clear hy112
           replace H := iB H
           obtain ⟨⟨t117, t118⟩, A100, H⟩ := H
           try dsimp only at H
           obtain ⟨ad109, e109, hx109_0, hx109_1, p109, q109⟩ := q12 HB.out HR0_2.out x3_3 zb zb
           cases e109
           refine iV H ?p101 ?n101 <;> clear H
          case' p101 => intro c101 H; subst c101
          case' n101 => intro c101 H; subst c101
          case' n95 => intro c95 H; subst c95
          case' n92 => intro c92b0 H; refine iTN (m := 400) (n := a0_3.size) H rfl rfl ?p107 ?n107 <;> clear H
          case' p107 => intro c107b0 c107b1 H
          case' n107 => intro c107b0 c107b1 H; refine iTN (m := 400) (n := a0_1.size) H rfl rfl ?p109 ?n109 <;> clear H
          case' p109 => intro c109b0 c109b1 H
          case' n109 => intro c109b0 c109b1 H
          case p96 =>
           obtain rfl := Option.some.inj H
           obtain ⟨ad109, e109, hx109_0, hx109_1, p109, q109⟩ := q12 HB.out HR0_2.out x3_3 zb zb
           cases e109
           go_wp2_with (first | (go_at_call 120; (with_reducible refine (clerestoryref1_domName.calls k3 ((q0c l0_2 x3_3).f0) false true _ A94.out).mono ?_); rintro e w' ⟨rfl, ⟨nd, rfl⟩⟩; (try first | exact ⟨rfl, _, World.drewN_drewN _ _ _⟩ | exact ⟨rfl, _, Eq.trans (World.drewN_drewN _ _ _) (congrArg (World.drewN _) (Nat.add_assoc _ _ _))⟩); obtain ⟨ad111, e111, hx111_0, hx111_1, p111, q111⟩ := q12 HB.out HR0_2.out x3_3 zb zb; obtain rfl : ad109 = ad111 := (by injection e111)))
           repeat (go_quiet (first | (go_at_call 120; (with_reducible refine (clerestoryref1_domName.calls k3 ((q0c l0_2 x3_3).f0) false true _ A94.out).mono ?_); rintro e w' ⟨rfl, ⟨nd, rfl⟩⟩; (try first | exact ⟨rfl, _, World.drewN_drewN _ _ _⟩ | exact ⟨rfl, _, Eq.trans (World.drewN_drewN _ _ _) (congrArg (World.drewN _) (Nat.add_assoc _ _ _))⟩); obtain ⟨ad111, e111, hx111_0, hx111_1, p111, q111⟩ := q12 HB.out HR0_2.out x3_3 zb zb; obtain rfl : ad109 = ad111 := (by injection e111))); try go_wp2_with (first | (go_at_call 120; (with_reducible refine (clerestoryref1_domName.calls k3 ((q0c l0_2 x3_3).f0) false true _ A94.out).mono ?_); rintro e w' ⟨rfl, ⟨nd, rfl⟩⟩; (try first | exact ⟨rfl, _, World.drewN_drewN _ _ _⟩ | exact ⟨rfl, _, Eq.trans (World.drewN_drewN _ _ _) (congrArg (World.drewN _) (Nat.add_assoc _ _ _))⟩); obtain ⟨ad111, e111, hx111_0, hx111_1, p111, q111⟩ := q12 HB.out HR0_2.out x3_3 zb zb; obtain rfl : ad109 = ad111 := (by injection e111))))
           go_ret
           exact ⟨by first | rfl | (simp [q05, q04] <;> rfl) | (simp [*, q05, q04] <;> rfl), by repeat (first | (with_reducible first | exact HB.out | apply bA | apply bN | apply bD | refine bS ?_ GE106.out) | exact HB.out)⟩
          case p101 =>
           obtain rfl := Option.some.inj H
           go_wp2_with (first | (go_at_call 120; (with_reducible refine (clerestoryref1_domName.calls k3 ((q0c l0_2 x3_3).f0) false true _ A94.out).mono ?_); rintro e w' ⟨rfl, ⟨nd, rfl⟩⟩; (try first | exact ⟨rfl, _, World.drewN_drewN _ _ _⟩ | exact ⟨rfl, _, Eq.trans (World.drewN_drewN _ _ _) (congrArg (World.drewN _) (Nat.add_assoc _ _ _))⟩); obtain ⟨ad111, e111, hx111_0, hx111_1, p111, q111⟩ := q12 HB.out HR0_2.out x3_3 zb zb; obtain rfl : ad109 = ad111 := (by injection e111); have q103 : (x3_3 : Int) ≤ ((l0_2.length : Int) : Int) := od zb; obtain ⟨i0103, hi0103, _, hsz103, _⟩ := info_parts info122; have hroom103 : l0_2.length ≤ c0_2 := HC0_2.out; have hC103 : Kd.C k122 _ (some ad109) l0_2.length l0_2 := HR0_2.out; have hcut103 := cut_to (P := Tryd.prog) 41 122 .i64 Tryd.underlying41 hi0103 (some ad109) l0_2.length c0_2 x3_3 (od zb) q103 hroom103; have hr103 := Kd.C_take (m := (x3_3 : Int).toNat) hC103 (by omega); have hy103 : y112.length = (x3_3 : Int).toNat := (by rw [Ny112.out, List.length_take]; omega); rw [← Ny112.out] at hr103; rw [← hy103] at hcut103; have HR115 := aS hr103; have HC115 := aS (show y112.length ≤ c0_2 from by omega); clear hr103 hC103 hroom103 hi0103 hsz103; have KY103 := aS hy103; clear hy103; replace q103 := eq_true q103; obtain ⟨ad116, e116, hx116_0, hx116_1, p116, q116⟩ := q12 HB.out HR0_2.out x3_3 zb zb; obtain rfl : ad109 = ad116 := (by injection e116)) | (go_at_call 64; (with_reducible refine (clerestoryref1_AttrOf.calls k3 _ _ y112 ((q0c l0_2 x3_3).f0) t117 true _ ?side1 ?side2 A100.out).mono ?_); (case side1 => repeat (first | exact (Kd.C_below HR115.out (z6 HB.out GE106.out)) | (with_reducible refine cA ?_ _) | (with_reducible refine cN ?_ _) | (with_reducible refine cD ?_))); (case side2 => exact HC115.out); rintro e w' ⟨rfl, ⟨nd, rfl⟩⟩; (try first | exact ⟨rfl, _, World.drewN_drewN _ _ _⟩ | exact ⟨rfl, _, Eq.trans (World.drewN_drewN _ _ _) (congrArg (World.drewN _) (Nat.add_assoc _ _ _))⟩)))
           repeat (go_quiet (first | (go_at_call 120; (with_reducible refine (clerestoryref1_domName.calls k3 ((q0c l0_2 x3_3).f0) false true _ A94.out).mono ?_); rintro e w' ⟨rfl, ⟨nd, rfl⟩⟩; (try first | exact ⟨rfl, _, World.drewN_drewN _ _ _⟩ | exact ⟨rfl, _, Eq.trans (World.drewN_drewN _ _ _) (congrArg (World.drewN _) (Nat.add_assoc _ _ _))⟩); obtain ⟨ad111, e111, hx111_0, hx111_1, p111, q111⟩ := q12 HB.out HR0_2.out x3_3 zb zb; obtain rfl : ad109 = ad111 := (by injection e111); have q103 : (x3_3 : Int) ≤ ((l0_2.length : Int) : Int) := od zb; obtain ⟨i0103, hi0103, _, hsz103, _⟩ := info_parts info122; have hroom103 : l0_2.length ≤ c0_2 := HC0_2.out; have hC103 : Kd.C k122 _ (some ad109) l0_2.length l0_2 := HR0_2.out; have hcut103 := cut_to (P := Tryd.prog) 41 122 .i64 Tryd.underlying41 hi0103 (some ad109) l0_2.length c0_2 x3_3 (od zb) q103 hroom103; have hr103 := Kd.C_take (m := (x3_3 : Int).toNat) hC103 (by omega); have hy103 : y112.length = (x3_3 : Int).toNat := (by rw [Ny112.out, List.length_take]; omega); rw [← Ny112.out] at hr103; rw [← hy103] at hcut103; have HR115 := aS hr103; have HC115 := aS (show y112.length ≤ c0_2 from by omega); clear hr103 hC103 hroom103 hi0103 hsz103; have KY103 := aS hy103; clear hy103; replace q103 := eq_true q103; obtain ⟨ad116, e116, hx116_0, hx116_1, p116, q116⟩ := q12 HB.out HR0_2.out x3_3 zb zb; obtain rfl : ad109 = ad116 := (by injection e116)) | (go_at_call 64; (with_reducible refine (clerestoryref1_AttrOf.calls k3 _ _ y112 ((q0c l0_2 x3_3).f0) t117 true _ ?side1 ?side2 A100.out).mono ?_); (case side1 => repeat (first | exact (Kd.C_below HR115.out (z6 HB.out GE106.out)) | (with_reducible refine cA ?_ _) | (with_reducible refine cN ?_ _) | (with_reducible refine cD ?_))); (case side2 => exact HC115.out); rintro e w' ⟨rfl, ⟨nd, rfl⟩⟩; (try first | exact ⟨rfl, _, World.drewN_drewN _ _ _⟩ | exact ⟨rfl, _, Eq.trans (World.drewN_drewN _ _ _) (congrArg (World.drewN _) (Nat.add_assoc _ _ _))⟩))); try go_wp2_with (first | (go_at_call 120; (with_reducible refine (clerestoryref1_domName.calls k3 ((q0c l0_2 x3_3).f0) false true _ A94.out).mono ?_); rintro e w' ⟨rfl, ⟨nd, rfl⟩⟩; (try first | exact ⟨rfl, _, World.drewN_drewN _ _ _⟩ | exact ⟨rfl, _, Eq.trans (World.drewN_drewN _ _ _) (congrArg (World.drewN _) (Nat.add_assoc _ _ _))⟩); obtain ⟨ad111, e111, hx111_0, hx111_1, p111, q111⟩ := q12 HB.out HR0_2.out x3_3 zb zb; obtain rfl : ad109 = ad111 := (by injection e111); have q103 : (x3_3 : Int) ≤ ((l0_2.length : Int) : Int) := od zb; obtain ⟨i0103, hi0103, _, hsz103, _⟩ := info_parts info122; have hroom103 : l0_2.length ≤ c0_2 := HC0_2.out; have hC103 : Kd.C k122 _ (some ad109) l0_2.length l0_2 := HR0_2.out; have hcut103 := cut_to (P := Tryd.prog) 41 122 .i64 Tryd.underlying41 hi0103 (some ad109) l0_2.length c0_2 x3_3 (od zb) q103 hroom103; have hr103 := Kd.C_take (m := (x3_3 : Int).toNat) hC103 (by omega); have hy103 : y112.length = (x3_3 : Int).toNat := (by rw [Ny112.out, List.length_take]; omega); rw [← Ny112.out] at hr103; rw [← hy103] at hcut103; have HR115 := aS hr103; have HC115 := aS (show y112.length ≤ c0_2 from by omega); clear hr103 hC103 hroom103 hi0103 hsz103; have KY103 := aS hy103; clear hy103; replace q103 := eq_true q103; obtain ⟨ad116, e116, hx116_0, hx116_1, p116, q116⟩ := q12 HB.out HR0_2.out x3_3 zb zb; obtain rfl : ad109 = ad116 := (by injection e116)) | (go_at_call 64; (with_reducible refine (clerestoryref1_AttrOf.calls k3 _ _ y112 ((q0c l0_2 x3_3).f0) t117 true _ ?side1 ?side2 A100.out).mono ?_); (case side1 => repeat (first | exact (Kd.C_below HR115.out (z6 HB.out GE106.out)) | (with_reducible refine cA ?_ _) | (with_reducible refine cN ?_ _) | (with_reducible refine cD ?_))); (case side2 => exact HC115.out); rintro e w' ⟨rfl, ⟨nd, rfl⟩⟩; (try first | exact ⟨rfl, _, World.drewN_drewN _ _ _⟩ | exact ⟨rfl, _, Eq.trans (World.drewN_drewN _ _ _) (congrArg (World.drewN _) (Nat.add_assoc _ _ _))⟩))))
           go_ret
           exact ⟨by first | rfl | (simp [q05, q04] <;> rfl) | (simp [*, q05, q04] <;> rfl), by repeat (first | (with_reducible first | exact HB.out | apply bA | apply bN | apply bD | refine bS ?_ GE106.out) | exact HB.out)⟩
          case n101 =>
           have H' := aS H
           clear H
           go_wp2_with (first | (go_at_call 120; (with_reducible refine (clerestoryref1_domName.calls k3 ((q0c l0_2 x3_3).f0) false true _ A94.out).mono ?_); rintro e w' ⟨rfl, ⟨nd, rfl⟩⟩; (try first | exact ⟨rfl, _, World.drewN_drewN _ _ _⟩ | exact ⟨rfl, _, Eq.trans (World.drewN_drewN _ _ _) (congrArg (World.drewN _) (Nat.add_assoc _ _ _))⟩); obtain ⟨ad111, e111, hx111_0, hx111_1, p111, q111⟩ := q12 HB.out HR0_2.out x3_3 zb zb; obtain rfl : ad109 = ad111 := (by injection e111); have q105 : (x3_3 : Int) ≤ ((l0_2.length : Int) : Int) := od zb; obtain ⟨i0105, hi0105, _, hsz105, _⟩ := info_parts info122; have hroom105 : l0_2.length ≤ c0_2 := HC0_2.out; have hC105 : Kd.C k122 _ (some ad109) l0_2.length l0_2 := HR0_2.out; have hcut105 := cut_to (P := Tryd.prog) 41 122 .i64 Tryd.underlying41 hi0105 (some ad109) l0_2.length c0_2 x3_3 (od zb) q105 hroom105; have hr105 := Kd.C_take (m := (x3_3 : Int).toNat) hC105 (by omega); have hy105 : y112.length = (x3_3 : Int).toNat := (by rw [Ny112.out, List.length_take]; omega); rw [← Ny112.out] at hr105; rw [← hy105] at hcut105; have HR115 := aS hr105; have HC115 := aS (show y112.length ≤ c0_2 from by omega); clear hr105 hC105 hroom105 hi0105 hsz105; have KY105 := aS hy105; clear hy105; replace q105 := eq_true q105; obtain ⟨ad116, e116, hx116_0, hx116_1, p116, q116⟩ := q12 HB.out HR0_2.out x3_3 zb zb; obtain rfl : ad109 = ad116 := (by injection e116)) | (go_at_call 64; (with_reducible refine (clerestoryref1_AttrOf.calls k3 _ _ y112 ((q0c l0_2 x3_3).f0) t117 false _ ?side1 ?side2 A100.out).mono ?_); (case side1 => repeat (first | exact (Kd.C_below HR115.out (z6 HB.out GE106.out)) | (with_reducible refine cA ?_ _) | (with_reducible refine cN ?_ _) | (with_reducible refine cD ?_))); (case side2 => exact HC115.out); rintro e w' ⟨rfl, ⟨nd, rfl⟩⟩; (try first | exact ⟨rfl, _, World.drewN_drewN _ _ _⟩ | exact ⟨rfl, _, Eq.trans (World.drewN_drewN _ _ _) (congrArg (World.drewN _) (Nat.add_assoc _ _ _))⟩)))
           repeat (go_quiet (first | (go_at_call 120; (with_reducible refine (clerestoryref1_domName.calls k3 ((q0c l0_2 x3_3).f0) false true _ A94.out).mono ?_); rintro e w' ⟨rfl, ⟨nd, rfl⟩⟩; (try first | exact ⟨rfl, _, World.drewN_drewN _ _ _⟩ | exact ⟨rfl, _, Eq.trans (World.drewN_drewN _ _ _) (congrArg (World.drewN _) (Nat.add_assoc _ _ _))⟩); obtain ⟨ad111, e111, hx111_0, hx111_1, p111, q111⟩ := q12 HB.out HR0_2.out x3_3 zb zb; obtain rfl : ad109 = ad111 := (by injection e111); have q105 : (x3_3 : Int) ≤ ((l0_2.length : Int) : Int) := od zb; obtain ⟨i0105, hi0105, _, hsz105, _⟩ := info_parts info122; have hroom105 : l0_2.length ≤ c0_2 := HC0_2.out; have hC105 : Kd.C k122 _ (some ad109) l0_2.length l0_2 := HR0_2.out; have hcut105 := cut_to (P := Tryd.prog) 41 122 .i64 Tryd.underlying41 hi0105 (some ad109) l0_2.length c0_2 x3_3 (od zb) q105 hroom105; have hr105 := Kd.C_take (m := (x3_3 : Int).toNat) hC105 (by omega); have hy105 : y112.length = (x3_3 : Int).toNat := (by rw [Ny112.out, List.length_take]; omega); rw [← Ny112.out] at hr105; rw [← hy105] at hcut105; have HR115 := aS hr105; have HC115 := aS (show y112.length ≤ c0_2 from by omega); clear hr105 hC105 hroom105 hi0105 hsz105; have KY105 := aS hy105; clear hy105; replace q105 := eq_true q105; obtain ⟨ad116, e116, hx116_0, hx116_1, p116, q116⟩ := q12 HB.out HR0_2.out x3_3 zb zb; obtain rfl : ad109 = ad116 := (by injection e116)) | (go_at_call 64; (with_reducible refine (clerestoryref1_AttrOf.calls k3 _ _ y112 ((q0c l0_2 x3_3).f0) t117 false _ ?side1 ?side2 A100.out).mono ?_); (case side1 => repeat (first | exact (Kd.C_below HR115.out (z6 HB.out GE106.out)) | (with_reducible refine cA ?_ _) | (with_reducible refine cN ?_ _) | (with_reducible refine cD ?_))); (case side2 => exact HC115.out); rintro e w' ⟨rfl, ⟨nd, rfl⟩⟩; (try first | exact ⟨rfl, _, World.drewN_drewN _ _ _⟩ | exact ⟨rfl, _, Eq.trans (World.drewN_drewN _ _ _) (congrArg (World.drewN _) (Nat.add_assoc _ _ _))⟩))); try go_wp2_with (first | (go_at_call 120; (with_reducible refine (clerestoryref1_domName.calls k3 ((q0c l0_2 x3_3).f0) false true _ A94.out).mono ?_); rintro e w' ⟨rfl, ⟨nd, rfl⟩⟩; (try first | exact ⟨rfl, _, World.drewN_drewN _ _ _⟩ | exact ⟨rfl, _, Eq.trans (World.drewN_drewN _ _ _) (congrArg (World.drewN _) (Nat.add_assoc _ _ _))⟩); obtain ⟨ad111, e111, hx111_0, hx111_1, p111, q111⟩ := q12 HB.out HR0_2.out x3_3 zb zb; obtain rfl : ad109 = ad111 := (by injection e111); have q105 : (x3_3 : Int) ≤ ((l0_2.length : Int) : Int) := od zb; obtain ⟨i0105, hi0105, _, hsz105, _⟩ := info_parts info122; have hroom105 : l0_2.length ≤ c0_2 := HC0_2.out; have hC105 : Kd.C k122 _ (some ad109) l0_2.length l0_2 := HR0_2.out; have hcut105 := cut_to (P := Tryd.prog) 41 122 .i64 Tryd.underlying41 hi0105 (some ad109) l0_2.length c0_2 x3_3 (od zb) q105 hroom105; have hr105 := Kd.C_take (m := (x3_3 : Int).toNat) hC105 (by omega); have hy105 : y112.length = (x3_3 : Int).toNat := (by rw [Ny112.out, List.length_take]; omega); rw [← Ny112.out] at hr105; rw [← hy105] at hcut105; have HR115 := aS hr105; have HC115 := aS (show y112.length ≤ c0_2 from by omega); clear hr105 hC105 hroom105 hi0105 hsz105; have KY105 := aS hy105; clear hy105; replace q105 := eq_true q105; obtain ⟨ad116, e116, hx116_0, hx116_1, p116, q116⟩ := q12 HB.out HR0_2.out x3_3 zb zb; obtain rfl : ad109 = ad116 := (by injection e116)) | (go_at_call 64; (with_reducible refine (clerestoryref1_AttrOf.calls k3 _ _ y112 ((q0c l0_2 x3_3).f0) t117 false _ ?side1 ?side2 A100.out).mono ?_); (case side1 => repeat (first | exact (Kd.C_below HR115.out (z6 HB.out GE106.out)) | (with_reducible refine cA ?_ _) | (with_reducible refine cN ?_ _) | (with_reducible refine cD ?_))); (case side2 => exact HC115.out); rintro e w' ⟨rfl, ⟨nd, rfl⟩⟩; (try first | exact ⟨rfl, _, World.drewN_drewN _ _ _⟩ | exact ⟨rfl, _, Eq.trans (World.drewN_drewN _ _ _) (congrArg (World.drewN _) (Nat.add_assoc _ _ _))⟩))))
           go_roundg k3
           case measure => have := HJ3.out; have := HJ82.out; have := HK3.out; omega
           case rel => exact ⟨(wrap64 (x3_3 + 1)), zi, H', ⟨by have := HJ3.out; have := HJ82.out; have := HK3.out; omega⟩, ⟨by (with_reducible repeat (first | refine kN ?_ _ | refine kD ?_ | refine kA ?_ _)); exact BK106.out⟩, ⟨by repeat (first | (with_reducible first | exact HB.out | apply bA | apply bN | apply bD | refine bS ?_ GE106.out) | exact HB.out)⟩⟩
          case n95 =>
           obtain rfl := Option.some.inj H
           obtain ⟨ad109, e109, hx109_0, hx109_1, p109, q109⟩ := q12 HB.out HR0_2.out x3_3 zb zb
           cases e109
           go_wp2_with (first | (go_at_call 120; (with_reducible refine (clerestoryref1_domName.calls k3 ((q0c l0_2 x3_3).f0) false false _ A94.out).mono ?_); rintro e w' ⟨rfl, ⟨nd, rfl⟩⟩; (try first | exact ⟨rfl, _, World.drewN_drewN _ _ _⟩ | exact ⟨rfl, _, Eq.trans (World.drewN_drewN _ _ _) (congrArg (World.drewN _) (Nat.add_assoc _ _ _))⟩)))
           repeat (go_quiet (first | (go_at_call 120; (with_reducible refine (clerestoryref1_domName.calls k3 ((q0c l0_2 x3_3).f0) false false _ A94.out).mono ?_); rintro e w' ⟨rfl, ⟨nd, rfl⟩⟩; (try first | exact ⟨rfl, _, World.drewN_drewN _ _ _⟩ | exact ⟨rfl, _, Eq.trans (World.drewN_drewN _ _ _) (congrArg (World.drewN _) (Nat.add_assoc _ _ _))⟩))); try go_wp2_with (first | (go_at_call 120; (with_reducible refine (clerestoryref1_domName.calls k3 ((q0c l0_2 x3_3).f0) false false _ A94.out).mono ?_); rintro e w' ⟨rfl, ⟨nd, rfl⟩⟩; (try first | exact ⟨rfl, _, World.drewN_drewN _ _ _⟩ | exact ⟨rfl, _, Eq.trans (World.drewN_drewN _ _ _) (congrArg (World.drewN _) (Nat.add_assoc _ _ _))⟩))))
           go_ret
           exact ⟨by first | rfl | (simp [q05, q04] <;> rfl) | (simp [*, q05, q04] <;> rfl), by repeat (first | (with_reducible first | exact HB.out | apply bA | apply bN | apply bD | refine bS ?_ GE106.out) | exact HB.out)⟩
          case p107|p109|n109 =>
           obtain rfl := Option.some.inj H
           go_wp2
           repeat (go_quiet (fail); try go_wp2)
           go_ret
           exact ⟨by first | rfl | (simp [q05, q04] <;> rfl) | (simp [*, q05, q04] <;> rfl), by repeat (first | (with_reducible first | exact HB.out | apply bA | apply bN | apply bD | refine bS ?_ GE106.out) | exact HB.out)⟩
 case n3 =>
  obtain rfl := Option.some.inj H
  go_enter Tryd.func72, Tryd.ntmps72
  go_wp2_with (first | ((with_reducible refine q07 (N := 1) rfl ?_); (try (refine q0z (by rfl) ?_; dsimp only)); refine box0 rfl (N := 1) rfl (cs := #[.int .i64 a0_0, .string a0_1, .slice A0_2 l0_2.length c0_2, .string a0_3, .int .i64 a0_4, .slice A0_5 l0_5.length c0_5]) (t := 43) zh (z7 HB.out) ?_; clear HB; intro gb106 w112 BK106 GW106 HB; have GE106 := GW106; obtain ⟨hczL_0, hczL_1, hczL_2, hczL_3, hczL_4, hczL_5, hfzL_0, hfzL_1, hfzL_2, hfzL_3, hfzL_4, hfzL_5⟩ := bk6 BK106.out) | (go_at_call 73; (with_reducible refine (clerestoryref1_between.calls a0_0 1 5 false _ A2.out).mono ?_); rintro e w' ⟨rfl, ⟨nd, rfl⟩⟩; (try first | exact ⟨rfl, _, World.drewN_drewN _ _ _⟩ | exact ⟨rfl, _, Eq.trans (World.drewN_drewN _ _ _) (congrArg (World.drewN _) (Nat.add_assoc _ _ _))⟩)))
  repeat (go_quiet (first | ((with_reducible refine q07 (N := 1) rfl ?_); (try (refine q0z (by rfl) ?_; dsimp only)); refine box0 rfl (N := 1) rfl (cs := #[.int .i64 a0_0, .string a0_1, .slice A0_2 l0_2.length c0_2, .string a0_3, .int .i64 a0_4, .slice A0_5 l0_5.length c0_5]) (t := 43) zh (z7 HB.out) ?_; clear HB; intro gb106 w112 BK106 GW106 HB; have GE106 := GW106; obtain ⟨hczL_0, hczL_1, hczL_2, hczL_3, hczL_4, hczL_5, hfzL_0, hfzL_1, hfzL_2, hfzL_3, hfzL_4, hfzL_5⟩ := bk6 BK106.out) | (go_at_call 73; (with_reducible refine (clerestoryref1_between.calls a0_0 1 5 false _ A2.out).mono ?_); rintro e w' ⟨rfl, ⟨nd, rfl⟩⟩; (try first | exact ⟨rfl, _, World.drewN_drewN _ _ _⟩ | exact ⟨rfl, _, Eq.trans (World.drewN_drewN _ _ _) (congrArg (World.drewN _) (Nat.add_assoc _ _ _))⟩))); try go_wp2_with (first | ((with_reducible refine q07 (N := 1) rfl ?_); (try (refine q0z (by rfl) ?_; dsimp only)); refine box0 rfl (N := 1) rfl (cs := #[.int .i64 a0_0, .string a0_1, .slice A0_2 l0_2.length c0_2, .string a0_3, .int .i64 a0_4, .slice A0_5 l0_5.length c0_5]) (t := 43) zh (z7 HB.out) ?_; clear HB; intro gb106 w112 BK106 GW106 HB; have GE106 := GW106; obtain ⟨hczL_0, hczL_1, hczL_2, hczL_3, hczL_4, hczL_5, hfzL_0, hfzL_1, hfzL_2, hfzL_3, hfzL_4, hfzL_5⟩ := bk6 BK106.out) | (go_at_call 73; (with_reducible refine (clerestoryref1_between.calls a0_0 1 5 false _ A2.out).mono ?_); rintro e w' ⟨rfl, ⟨nd, rfl⟩⟩; (try first | exact ⟨rfl, _, World.drewN_drewN _ _ _⟩ | exact ⟨rfl, _, Eq.trans (World.drewN_drewN _ _ _) (congrArg (World.drewN _) (Nat.add_assoc _ _ _))⟩))))
  go_ret
  exact ⟨by first | rfl | (simp [q05, q04] <;> rfl) | (simp [*, q05, q04] <;> rfl), by repeat (first | (with_reducible first | exact HB.out | apply bA | apply bN | apply bD | refine bS ?_ GE106.out) | exact HB.out)⟩
def clerestoryref1_placeIn.l0 : Nat → List Int → Int → Int → Option (Int)
 | 0, _, _, _ => none
 | k + 1, x0, x1, x5 => if x5 < (x0.length : Int) then (if 0 ≤ x5 then (if (rd x0 x5) = x1 then (some x5) else (clerestoryref1_placeIn.l0 k x0 x1 (wrap64 (x5 + 1)))) else (none)) else (some (-1))
def clerestoryref1_placeIn.f (k : Nat) (l0 : List Int) (a1 : Int) : Option (Int) := clerestoryref1_placeIn.l0 k l0 a1 0
set_option maxHeartbeats 8000000 in
set_option maxRecDepth 100000 in
theorem clerestoryref1_placeIn.calls (k : Nat) (A0 : Option Addr) (c0 : Nat) (l0 : List Int) (a1 : Int) (r : Int) (w : World) (hr0 : Kd.C (Kd.int .i64) w A0 l0.length l0) (hc0 : l0.length ≤ c0) (h : clerestoryref1_placeIn.f k l0 a1 = some r) :
 Calls Tryd.prog 74 #[.slice A0 l0.length c0, .int .i64 a1] w fun e w' => e = .returned (.int .i64 r) ∧ Drawn0 w w' := by
 have HR0 := aS hr0
 have HC0 := aS hc0
 clear hr0 hc0
 have H := h; clear h; unfold clerestoryref1_placeIn.f at H
 have H' := aS H
 clear H
 go_enter Tryd.func74, Tryd.ntmps74
 go_wp2
 go_loopg [5] k (fun kq v5 w' => ∃ (x5_1 : Int), v5 = .int .i64 x5_1 ∧ Aside0 (clerestoryref1_placeIn.l0 kq l0 a1 x5_1 = some r) ∧ Aside0 (kq ≤ k) ∧ Drawn0 w w')
 case atStart => exact ⟨(0), zi, H', ⟨Nat.le_refl _⟩, by repeat (first | exact Drawn0.refl _ | apply Drawn0.step)⟩
 case round =>
  clear H'
  obtain ⟨x5_1, rfl, HA, HK1, ⟨m1, rfl⟩⟩ := hrel
  cases gk with
  | zero => exact absurd HA.out (by simp [clerestoryref1_placeIn.l0])
  | succ k1 =>
   have H := HA.out
   clear HA
   simp only [clerestoryref1_placeIn.l0] at H
   refine iT H ?p3 ?n3 <;> clear H
   case' p3 =>
    intro c3b0 H
    refine iLp H ?_; clear H; intro c4b0 H
    obtain ⟨ad119, e119, hx119_0, p119, q119⟩ := atIA HR0.out x5_1 zb zb
    cases e119
    refine iE H ?p5 ?n5 <;> clear H
   case' p5 => intro c5b0 c5b1 H
   case' n5 => intro c5 c5b0 c5b1 H
   case' n3 => intro c3b0 H
   case p5|n3 =>
    obtain rfl := Option.some.inj H
    go_wp2
    go_ret
    exact ⟨by first | rfl | (simp; done) | (simp [*]; done), by repeat (first | exact Drawn0.refl _ | apply Drawn0.step)⟩
   case n5 =>
    have H' := aS H
    clear H
    go_wp2
    go_roundg k1
    case measure => have := HK1.out; omega
    case rel => exact ⟨(wrap64 (x5_1 + 1)), zi, H', ⟨by have := HK1.out; omega⟩, by repeat (first | exact Drawn0.refl _ | apply Drawn0.step)⟩
mutual
def clerestoryref1_DocErr.l0 : Nat → Int → Int → List (S43) → Bool → Option (Int)
 | 0, _, _, _, _ => none
 | k + 1, x3, x4, x121000, x121001 => if x4 < x3 then (if x4 = 0 then (if 0 ≤ x4 then (if x4 < (x121000.length : Int) then (if ((q00 x121000 x4).f0) = 1 then (if x4 > 0 then (clerestoryref1_DocErr.j1 k x3 x4 (((q00 x121000 x4).f0) == 1) x121000 x121001) else (clerestoryref1_DocErr.j1 k x3 x4 false x121000 x121001)) else (clerestoryref1_DocErr.j1 k x3 x4 true x121000 x121001)) else (none)) else (none)) else (if x4 > 0 then (if 0 ≤ x4 then (if x4 < (x121000.length : Int) then (clerestoryref1_DocErr.j1 k x3 x4 (((q00 x121000 x4).f0) == 1) x121000 x121001) else (none)) else (none)) else (clerestoryref1_DocErr.j1 k x3 x4 false x121000 x121001))) else (clerestoryref1_DocErr.l1 k x3 0 x121000 x121001)
def clerestoryref1_DocErr.j1 : Nat → Int → Int → Bool → List (S43) → Bool → Option (Int)
 | 0, _, _, _, _, _ => none
 | k + 1, x3, x4, x48, x121000, x121001 => if x48 = true then (some 3) else (if 0 ≤ x4 then (if x4 < (x121000.length : Int) then ((clerestoryref1_NodeErr.f k ((q00 x121000 x4).f0) ((q00 x121000 x4).f1) ((q00 x121000 x4).f2) ((q00 x121000 x4).f3) ((q00 x121000 x4).f4) ((q00 x121000 x4).f5)).bind fun t125 => (if t125 = 0 then (clerestoryref1_DocErr.l0 k x3 (wrap64 (x4 + 1)) x121000 x121001) else (some t125))) else (none)) else (none))
def clerestoryref1_DocErr.l1 : Nat → Int → Int → List (S43) → Bool → Option (Int)
 | 0, _, _, _, _ => none
 | k + 1, x3, x6, x121000, x121001 => if x6 < x3 then (clerestoryref1_DocErr.l2 k x3 x6 0 x121000 x121001) else (clerestoryref1_DocErr.l3 k x3 0 x121000 x121001)
def clerestoryref1_DocErr.l2 : Nat → Int → Int → Int → List (S43) → Bool → Option (Int)
 | 0, _, _, _, _, _ => none
 | k + 1, x3, x6, x7, x121000, x121001 => if 0 ≤ x6 then (if x6 < (x121000.length : Int) then (if x7 < (((q00 x121000 x6).f5).length : Int) then (if 0 ≤ x7 then ((clerestoryref1_between.f (rd ((q00 x121000 x6).f5) x7) 0 (wrap64 (x3 - 1))).bind fun t129 => (if t129 = true then (if 0 ≤ (rd ((q00 x121000 x6).f5) x7) then (if (rd ((q00 x121000 x6).f5) x7) < (x121000.length : Int) then (if ((q00 x121000 (rd ((q00 x121000 x6).f5) x7)).f4) = x6 then (if x7 ≤ (((q00 x121000 x6).f5).length : Int) then ((clerestoryref1_placeIn.f k (((q00 x121000 x6).f5).take (x7 : Int).toNat) (rd ((q00 x121000 x6).f5) x7)).bind fun t133 => (clerestoryref1_DocErr.j4 k x3 x6 x7 (rd ((q00 x121000 x6).f5) x7) (decide (t133 ≥ 0)) x121000 x121001)) else (none)) else (clerestoryref1_DocErr.j4 k x3 x6 x7 (rd ((q00 x121000 x6).f5) x7) true x121000 x121001)) else (none)) else (none)) else (clerestoryref1_DocErr.j4 k x3 x6 x7 (rd ((q00 x121000 x6).f5) x7) true x121000 x121001))) else (none)) else (clerestoryref1_DocErr.l1 k x3 (wrap64 (x6 + 1)) x121000 x121001)) else (none)) else (none)
def clerestoryref1_DocErr.j4 : Nat → Int → Int → Int → Int → Bool → List (S43) → Bool → Option (Int)
 | 0, _, _, _, _, _, _, _ => none
 | k + 1, x3, x6, x7, x8, x110, x121000, x121001 => if x110 = true then (some 3) else (if x6 = 0 then (if 0 ≤ x8 then (if x8 < (x121000.length : Int) then (if ((q00 x121000 x8).f0) = 3 then (some 7) else (clerestoryref1_DocErr.l2 k x3 x6 (wrap64 (x7 + 1)) x121000 x121001)) else (none)) else (none)) else (clerestoryref1_DocErr.l2 k x3 x6 (wrap64 (x7 + 1)) x121000 x121001))
def clerestoryref1_DocErr.l3 : Nat → Int → Int → List (S43) → Bool → Option (Int)
 | 0, _, _, _, _ => none
 | k + 1, x3, x9, x121000, x121001 => if x9 < x3 then (if 0 ≤ x9 then (if x9 < (x121000.length : Int) then (if ((q00 x121000 x9).f4) = (-1) then (clerestoryref1_DocErr.l3 k x3 (wrap64 (x9 + 1)) x121000 x121001) else ((clerestoryref1_between.f ((q00 x121000 x9).f4) 0 (wrap64 (x3 - 1))).bind fun t136 => (if t136 = true then (if 0 ≤ ((q00 x121000 x9).f4) then (if ((q00 x121000 x9).f4) < (x121000.length : Int) then ((clerestoryref1_placeIn.f k ((q00 x121000 ((q00 x121000 x9).f4)).f5) x9).bind fun t138 => (if t138 < 0 then (some 3) else (clerestoryref1_DocErr.l3 k x3 (wrap64 (x9 + 1)) x121000 x121001))) else (none)) else (none)) else (some 3)))) else (none)) else (none)) else (if 0 < (x121000.length : Int) then (if ((q00 x121000 0).f4) = (-1) then (clerestoryref1_DocErr.l4 k x3 0 x121000 x121001) else (some 3)) else (none))
def clerestoryref1_DocErr.l4 : Nat → Int → Int → List (S43) → Bool → Option (Int)
 | 0, _, _, _, _ => none
 | k + 1, x3, x11, x121000, x121001 => if x11 < x3 then ((clerestoryref1_Deep.f k x121000 x121001 x11).bind fun t140 => (if t140 < 0 then (some 8) else (if t140 > 40 then (some 2) else (clerestoryref1_DocErr.l4 k x3 (wrap64 (x11 + 1)) x121000 x121001)))) else (some 0)
end
def clerestoryref1_DocErr.f (k : Nat) (l0_0 : List (S43)) (a0_1 : Bool) : Option (Int) := if (l0_0.length : Int) > 200 then (some 2) else (if (l0_0.length : Int) = 0 then (some 3) else (clerestoryref1_DocErr.l0 k (l0_0.length : Int) 0 l0_0 a0_1))
set_option maxHeartbeats 8000000 in
set_option maxRecDepth 100000 in
theorem clerestoryref1_DocErr.calls (k : Nat) (A0_0 : Option Addr) (c0_0 : Nat) (l0_0 : List (S43)) (a0_1 : Bool) (r : Int) (w : World) (hr0_0 : Kd.C k43 w A0_0 l0_0.length l0_0) (hc0_0 : l0_0.length ≤ c0_0) (h : clerestoryref1_DocErr.f k l0_0 a0_1 = some r) :
 Calls Tryd.prog 17 #[.agg #[.slice A0_0 l0_0.length c0_0, .bool a0_1]] w fun e w' => e = .returned (.int .i64 r) ∧ Below w.heap.size w w' := by
 have hu24 := Tryd.underlying24
 have hu43 := Tryd.underlying43
 have HR0_0 := aS hr0_0
 have HC0_0 := aS hc0_0
 clear hr0_0 hc0_0
 have HB := aS (Below.refl w.heap.size w)
 have H := h; clear h; unfold clerestoryref1_DocErr.f at H
 refine iTN (m := 200) (n := l0_0.length) H rfl rfl ?p2 ?n2 <;> clear H
 case' p2 => intro c2b0 c2b1 H
 case' n2 => intro c2b0 c2b1 H; refine iG H ?p5 ?n5 <;> clear H
 case' p5 => intro c5 H; have c5b0 : ((l0_0.length : Int) == 0) = true := beq_iff_eq.mpr c5; have c5b1 : ((l0_0.length : Int) != 0) = false := bne_eq_false_iff_eq.mpr c5; clear c5
 case' n5 => intro c5 H; have c5b0 : ((l0_0.length : Int) == 0) = false := beq_eq_false_iff_ne.mpr c5; have c5b1 : ((l0_0.length : Int) != 0) = true := bne_iff_ne.mpr c5; have c5b2 : ¬ (l0_0 = []) := fun h_ => c5 (by rw [h_]; rfl)
 case p2 =>
  obtain rfl := Option.some.inj H
  go_enter Tryd.func17, Tryd.ntmps17
  go_wp2_with (first | ((with_reducible refine q07 (N := 1) rfl ?_); refine box0 rfl (N := 1) rfl (cs := #[.slice A0_0 l0_0.length c0_0, .bool a0_1]) (t := 24) zh (z7 HB.out) ?_; clear HB; intro gb120 w3 BK120 GW120 HB; have GE120 := GW120; obtain ⟨hczL_0, hczL_1, hfzL_0, hfzL_1⟩ := bk2 BK120.out))
  go_ret
  exact ⟨by first | rfl | (simp [q05, q04] <;> rfl) | (simp [*, q05, q04] <;> rfl), by repeat (first | (with_reducible first | exact HB.out | apply bA | apply bN | apply bD | refine bS ?_ GE120.out) | exact HB.out)⟩
 case p5 =>
  obtain rfl := Option.some.inj H
  go_enter Tryd.func17, Tryd.ntmps17
  go_wp2_with (first | ((with_reducible refine q07 (N := 1) rfl ?_); refine box0 rfl (N := 1) rfl (cs := #[.slice A0_0 l0_0.length c0_0, .bool a0_1]) (t := 24) zh (z7 HB.out) ?_; clear HB; intro gb120 w6 BK120 GW120 HB; have GE120 := GW120; obtain ⟨hczL_0, hczL_1, hfzL_0, hfzL_1⟩ := bk2 BK120.out))
  go_ret
  exact ⟨by first | rfl | (simp [q05, q04] <;> rfl) | (simp [*, q05, q04] <;> rfl), by repeat (first | (with_reducible first | exact HB.out | apply bA | apply bN | apply bD | refine bS ?_ GE120.out) | exact HB.out)⟩
 case n5 =>
  have H' := aS H
  clear H
  go_enter Tryd.func17, Tryd.ntmps17
  go_wp2_with (first | ((with_reducible refine q07 (N := 1) rfl ?_); refine box0 rfl (N := 1) rfl (cs := #[.slice A0_0 l0_0.length c0_0, .bool a0_1]) (t := 24) zh (z7 HB.out) ?_; clear HB; intro gb120 w8 BK120 GW120 HB; have GE120 := GW120; obtain ⟨hczL_0, hczL_1, hfzL_0, hfzL_1⟩ := bk2 BK120.out))
  go_loopg [4] k (fun kq v4 w' => ∃ (x4_1 : Int), v4 = .int .i64 x4_1 ∧ Aside0 (clerestoryref1_DocErr.l0 kq (l0_0.length : Int) x4_1 l0_0 a0_1 = some r) ∧ Aside0 (kq ≤ k) ∧ Aside0 (w'.heap[gb120]? = some (.cells #[(.slice A0_0 l0_0.length c0_0), .bool a0_1] 24 (0, 0))) ∧ Aside0 (Below w.heap.size w w'))
  case atStart => exact ⟨(0), zi, H', ⟨Nat.le_refl _⟩, ⟨by (with_reducible repeat (first | refine kN ?_ _ | refine kD ?_ | refine kA ?_ _)); exact BK120.out⟩, ⟨by repeat (first | (with_reducible first | exact HB.out | apply bA | apply bN | apply bD | refine bS ?_ GE120.out) | exact HB.out)⟩⟩
  case round =>
   clear H'
   obtain ⟨x4_1, rfl, HA, HK1, BK120, HB⟩ := hrel
   cases gk with
   | zero => exact absurd HA.out (by simp [clerestoryref1_DocErr.l0])
   | succ k1 =>
    have H := HA.out
    clear HA
    simp only [clerestoryref1_DocErr.l0] at H
    refine iT H ?p10 ?n10 <;> clear H
    case' p10 => intro c10b0 H
    case' n10 => intro c10b0 H
    case p10 =>
     have HC11 := aS H
     clear H
     go_upto_region 9 with (fail)
     go_cut [48] (fun v48 wc => ∃ (kq : Nat) (x48_10 : Bool), v48 = .bool x48_10 ∧ Aside0 (clerestoryref1_DocErr.j1 kq (l0_0.length : Int) x4_1 x48_10 l0_0 a0_1 = some r) ∧ Aside0 (kq ≤ k1) ∧ Aside0 (wc.heap[gb120]? = some (.cells #[(.slice A0_0 l0_0.length c0_0), .bool a0_1] 24 (0, 0))) ∧ Aside0 (Below w.heap.size w wc))
     case first =>
      have H := HC11.out
      clear HC11
      refine iE H ?p12 ?n12 <;> clear H
      case' p12 =>
       intro c12b0 c12b1 H
       (first | rw [c12b0] | (simp only [q09, q0a]; rw [c12b0]) | skip)
       obtain ⟨hczL_0, hczL_1, hfzL_0, hfzL_1⟩ := bk2 BK120.out
       refine iLp H ?_; clear H; intro c13b0 H
       refine iTp H ?_; clear H; intro c14b0 H
       obtain ⟨ad121, A121_2, c121_2, A121_5, c121_5, e121, hx121_0, hx121_1, hx121_2, hx121_3, hx121_4, hx121_5, HC121_2, HR121_2, HC121_5, HR121_5, p121, q121⟩ := q0o HB.out HR0_0.out x4_1 zb zb
       cases e121
       refine iE H ?p15 ?n15 <;> clear H
      case' p15 => intro c15b0 c15b1 H; refine iT H ?p16 ?n16 <;> clear H
      case' p16 => intro c16b0 H
      case' n16 => intro c16b0 H
      case' n15 => intro c15 c15b0 c15b1 H
      case' n12 => intro c12 c12b0 c12b1 H; (first | rw [c12b0] | (simp only [q09, q0a]; rw [c12b0]) | skip); refine iT H ?p20 ?n20 <;> clear H
      case' p20 => intro c20b0 H; obtain ⟨hczL_0, hczL_1, hfzL_0, hfzL_1⟩ := bk2 BK120.out; refine iLp H ?_; clear H; intro c21b0 H; refine iTp H ?_; clear H; intro c22b0 H
      case' n20 => intro c20b0 H
      case p16 =>
       have H' := aS H
       clear H
       obtain ⟨ad122, A122_2, c122_2, A122_5, c122_5, e122, hx122_0, hx122_1, hx122_2, hx122_3, hx122_4, hx122_5, HC122_2, HR122_2, HC122_5, HR122_5, p122, q122⟩ := q0o HB.out HR0_0.out x4_1 zb zb
       obtain rfl : ad121 = ad122 := (by injection e122)
       have ea_ := Option.some.inj (hx121_2.symm.trans hx122_2)
       injection ea_ with ea_ en_ ec_
       subst ea_
       subst ec_
       clear en_
       have ea_ := Option.some.inj (hx121_5.symm.trans hx122_5)
       injection ea_ with ea_ en_ ec_
       subst ea_
       subst ec_
       clear en_
       go_wp2
       go_meet
       case rel => exact ⟨_, ((((q00 l0_0 x4_1).f0) == 1)), zi, H', ⟨by have := HK1.out; first | omega | exact Nat.le_refl _⟩, ⟨by (with_reducible repeat (first | refine kN ?_ _ | refine kD ?_ | refine kA ?_ _)); exact BK120.out⟩, ⟨by repeat (first | (with_reducible first | exact HB.out | apply bA | apply bN | apply bD | refine bS ?_ GE120.out) | exact HB.out)⟩⟩
      case n16|n15|n20 =>
       have H' := aS H
       clear H
       go_wp2
       go_meet
       case rel => exact ⟨_, _, zi, H', ⟨by have := HK1.out; first | omega | exact Nat.le_refl _⟩, ⟨by (with_reducible repeat (first | refine kN ?_ _ | refine kD ?_ | refine kA ?_ _)); exact BK120.out⟩, ⟨by repeat (first | (with_reducible first | exact HB.out | apply bA | apply bN | apply bD | refine bS ?_ GE120.out) | exact HB.out)⟩⟩
      case p20 =>
       have H' := aS H
       clear H
       obtain ⟨ad123, A123_2, c123_2, A123_5, c123_5, e123, hx123_0, hx123_1, hx123_2, hx123_3, hx123_4, hx123_5, HC123_2, HR123_2, HC123_5, HR123_5, p123, q123⟩ := q0o HB.out HR0_0.out x4_1 zb zb
       cases e123
       go_wp2
       go_meet
       case rel => exact ⟨_, ((((q00 l0_0 x4_1).f0) == 1)), zi, H', ⟨by have := HK1.out; first | omega | exact Nat.le_refl _⟩, ⟨by (with_reducible repeat (first | refine kN ?_ _ | refine kD ?_ | refine kA ?_ _)); exact BK120.out⟩, ⟨by repeat (first | (with_reducible first | exact HB.out | apply bA | apply bN | apply bD | refine bS ?_ GE120.out) | exact HB.out)⟩⟩
     case rest =>
      clear HC11
      obtain ⟨kq, x48_10, rfl, HA, HJ10, BK120, HB⟩ := hcut
      cases kq with
      | zero => exact absurd HA.out (by simp [clerestoryref1_DocErr.j1])
      | succ kj10 =>
       have H := HA.out
       clear HA
       simp only [clerestoryref1_DocErr.j1] at H
       refine iV H ?p24 ?n24 <;> clear H
       case' p24 => intro c24 H; subst c24
       case' n24 =>
        intro c24 H; subst c24
        obtain ⟨hczL_0, hczL_1, hfzL_0, hfzL_1⟩ := bk2 BK120.out
        refine iLp H ?_; clear H; intro c25b0 H
        refine iTp H ?_; clear H; intro c26b0 H
        replace H := iB H
        obtain ⟨t125, A27, H⟩ := H
        obtain ⟨ad124, A124_2, c124_2, A124_5, c124_5, e124, hx124_0, hx124_1, hx124_2, hx124_3, hx124_4, hx124_5, HC124_2, HR124_2, HC124_5, HR124_5, p124, q124⟩ := q0o HB.out HR0_0.out x4_1 zb zb
        cases e124
        refine iE H ?p28 ?n28 <;> clear H
       case' p28 => intro c28b0 c28b1 H
       case' n28 => intro c28 c28b0 c28b1 H
       case p24 =>
        obtain rfl := Option.some.inj H
        go_wp2
        go_ret
        exact ⟨by first | rfl | (simp [q05, q04] <;> rfl) | (simp [*, q05, q04] <;> rfl), by repeat (first | (with_reducible first | exact HB.out | apply bA | apply bN | apply bD | refine bS ?_ GE120.out) | exact HB.out)⟩
       case p28 =>
        have H' := aS H
        clear H
        go_wp2_with (first | ((with_reducible refine q08 (f := 72) rfl ?_); refine q0n (some 54) rfl rfl Tryd.func72 (by kernel_rfl) rfl #[.agg #[.int .i64 ((q00 l0_0 x4_1).f0), .string ((q00 l0_0 x4_1).f1), .slice A124_2 ((q00 l0_0 x4_1).f2).length c124_2, .string ((q00 l0_0 x4_1).f3), .int .i64 ((q00 l0_0 x4_1).f4), .slice A124_5 ((q00 l0_0 x4_1).f5).length c124_5]] rfl zc ?_; (with_reducible refine (clerestoryref1_NodeErr.calls kj10 ((q00 l0_0 x4_1).f0) ((q00 l0_0 x4_1).f1) _ _ ((q00 l0_0 x4_1).f2) ((q00 l0_0 x4_1).f3) ((q00 l0_0 x4_1).f4) _ _ ((q00 l0_0 x4_1).f5) t125 _ ?side1 ?side2 ?side3 ?side4 A27.out).mono ?_); (case side1 => repeat (first | exact (Kd.C_below HR124_2.out HB.out) | (with_reducible refine cA ?_ _) | (with_reducible refine cN ?_ _) | (with_reducible refine cD ?_))); (case side2 => exact HC124_2.out); (case side3 => repeat (first | exact (Kd.C_below HR124_5.out HB.out) | (with_reducible refine cA ?_ _) | (with_reducible refine cN ?_ _) | (with_reducible refine cD ?_))); (case side4 => exact HC124_5.out); rintro e w30 ⟨rfl, hb⟩; refine ⟨_, rfl, ?_⟩; replace BK120 := aS (q01 (g := gb120) (o := .cells #[.slice (some ad124) l0_0.length c0_0, .bool a0_1] 24 (0, 0)) (za BK120.out) hb); replace HB := aS (q02 (z6 HB.out GE120.out) hb); (try clear hb); (try clear hb2); (try clear hk); (try clear hi)))
        go_roundg kj10
        case measure => have := HK1.out; have := HJ10.out; omega
        case rel => exact ⟨(wrap64 (x4_1 + 1)), zi, H', ⟨by have := HK1.out; have := HJ10.out; omega⟩, ⟨by (with_reducible repeat (first | refine kN ?_ _ | refine kD ?_ | refine kA ?_ _)); exact BK120.out⟩, ⟨by repeat (first | (with_reducible first | exact HB.out | apply bA | apply bN | apply bD | refine bS ?_ GE120.out) | exact HB.out)⟩⟩
       case n28 =>
        obtain rfl := Option.some.inj H
        go_wp2_with (first | ((with_reducible refine q08 (f := 72) rfl ?_); refine q0n (some 54) rfl rfl Tryd.func72 (by kernel_rfl) rfl #[.agg #[.int .i64 ((q00 l0_0 x4_1).f0), .string ((q00 l0_0 x4_1).f1), .slice A124_2 ((q00 l0_0 x4_1).f2).length c124_2, .string ((q00 l0_0 x4_1).f3), .int .i64 ((q00 l0_0 x4_1).f4), .slice A124_5 ((q00 l0_0 x4_1).f5).length c124_5]] rfl zc ?_; (with_reducible refine (clerestoryref1_NodeErr.calls kj10 ((q00 l0_0 x4_1).f0) ((q00 l0_0 x4_1).f1) _ _ ((q00 l0_0 x4_1).f2) ((q00 l0_0 x4_1).f3) ((q00 l0_0 x4_1).f4) _ _ ((q00 l0_0 x4_1).f5) t125 _ ?side1 ?side2 ?side3 ?side4 A27.out).mono ?_); (case side1 => repeat (first | exact (Kd.C_below HR124_2.out HB.out) | (with_reducible refine cA ?_ _) | (with_reducible refine cN ?_ _) | (with_reducible refine cD ?_))); (case side2 => exact HC124_2.out); (case side3 => repeat (first | exact (Kd.C_below HR124_5.out HB.out) | (with_reducible refine cA ?_ _) | (with_reducible refine cN ?_ _) | (with_reducible refine cD ?_))); (case side4 => exact HC124_5.out); rintro e w32 ⟨rfl, hb⟩; refine ⟨_, rfl, ?_⟩; replace BK120 := aS (q01 (g := gb120) (o := .cells #[.slice (some ad124) l0_0.length c0_0, .bool a0_1] 24 (0, 0)) (za BK120.out) hb); replace HB := aS (q02 (z6 HB.out GE120.out) hb); (try clear hb); (try clear hb2); (try clear hk); (try clear hi)))
        go_ret
        exact ⟨by first | rfl | (simp [q05, q04] <;> rfl) | (simp [*, q05, q04] <;> rfl), by repeat (first | (with_reducible first | exact HB.out | apply bA | apply bN | apply bD | refine bS ?_ GE120.out) | exact HB.out)⟩
    case n10 =>
     have H' := aS H
     clear H
     go_wp2
     go_loopg [6] k1 (fun kq v6 w' => ∃ (x6_2 : Int), v6 = .int .i64 x6_2 ∧ Aside0 (clerestoryref1_DocErr.l1 kq (l0_0.length : Int) x6_2 l0_0 a0_1 = some r) ∧ Aside0 (kq ≤ k1) ∧ Aside0 (w'.heap[gb120]? = some (.cells #[(.slice A0_0 l0_0.length c0_0), .bool a0_1] 24 (0, 0))) ∧ Aside0 (Below w.heap.size w w'))
     case atStart => exact ⟨(0), zi, H', ⟨Nat.le_refl _⟩, ⟨by (with_reducible repeat (first | refine kN ?_ _ | refine kD ?_ | refine kA ?_ _)); exact BK120.out⟩, ⟨by repeat (first | (with_reducible first | exact HB.out | apply bA | apply bN | apply bD | refine bS ?_ GE120.out) | exact HB.out)⟩⟩
     case round =>
      clear H'
      obtain ⟨x6_2, rfl, HA, HK2, BK120, HB⟩ := hrel
      cases gk with
      | zero => exact absurd HA.out (by simp [clerestoryref1_DocErr.l1])
      | succ k2 =>
       have H := HA.out
       clear HA
       simp only [clerestoryref1_DocErr.l1] at H
       refine iT H ?p33 ?n33 <;> clear H
       case' p33 => intro c33b0 H
       case' n33 => intro c33b0 H
       case p33 =>
        have H' := aS H
        clear H
        go_wp2
        go_loopg [7] k2 (fun kq v7 w' => ∃ (x7_3 : Int), v7 = .int .i64 x7_3 ∧ Aside0 (clerestoryref1_DocErr.l2 kq (l0_0.length : Int) x6_2 x7_3 l0_0 a0_1 = some r) ∧ Aside0 (kq ≤ k2) ∧ Aside0 (w'.heap[gb120]? = some (.cells #[(.slice A0_0 l0_0.length c0_0), .bool a0_1] 24 (0, 0))) ∧ Aside0 (Below w.heap.size w w'))
        case atStart => exact ⟨(0), zi, H', ⟨Nat.le_refl _⟩, ⟨by (with_reducible repeat (first | refine kN ?_ _ | refine kD ?_ | refine kA ?_ _)); exact BK120.out⟩, ⟨by repeat (first | (with_reducible first | exact HB.out | apply bA | apply bN | apply bD | refine bS ?_ GE120.out) | exact HB.out)⟩⟩
        case round =>
         clear H'
         obtain ⟨x7_3, rfl, HA, HK3, BK120, HB⟩ := hrel
         cases gk with
         | zero => exact absurd HA.out (by simp [clerestoryref1_DocErr.l2])
         | succ k3 =>
          have H := HA.out
          clear HA
          simp only [clerestoryref1_DocErr.l2] at H
          refine iLp H ?_; clear H; intro c34b0 H
          refine iTp H ?_; clear H; intro c35b0 H
          refine iT H ?p36 ?n36 <;> clear H
          case' p36 => intro c36b0 H; refine iLp H ?_; clear H; intro c37b0 H
          case' n36 => intro c36b0 H
          case p36 =>
           have HC38 := aS H
           clear H
           obtain ⟨hczL_0, hczL_1, hfzL_0, hfzL_1⟩ := bk2 BK120.out
           obtain ⟨ad126, A126_2, c126_2, A126_5, c126_5, e126, hx126_0, hx126_1, hx126_2, hx126_3, hx126_4, hx126_5, HC126_2, HR126_2, HC126_5, HR126_5, p126, q126⟩ := q0o HB.out HR0_0.out x6_2 zb zb
           cases e126
           obtain ⟨ad127, A127_2, c127_2, A127_5, c127_5, e127, hx127_0, hx127_1, hx127_2, hx127_3, hx127_4, hx127_5, HC127_2, HR127_2, HC127_5, HR127_5, p127, q127⟩ := q0o HB.out HR0_0.out x6_2 zb zb
           obtain rfl : ad126 = ad127 := (by injection e127)
           have ea_ := Option.some.inj (hx126_2.symm.trans hx127_2)
           injection ea_ with ea_ en_ ec_
           subst ea_
           subst ec_
           clear en_
           have ea_ := Option.some.inj (hx126_5.symm.trans hx127_5)
           injection ea_ with ea_ en_ ec_
           subst ea_
           subst ec_
           clear en_
           obtain ⟨ad128, e128, hx128_0, p128, q128⟩ := atIB HB.out HR127_5.out x7_3 zb zb
           cases e128
           go_upto_region 21 with (fail)
           go_cut [110] (fun v110 wc => ∃ (kq : Nat) (x110_37 : Bool), v110 = .bool x110_37 ∧ Aside0 (clerestoryref1_DocErr.j4 kq (l0_0.length : Int) x6_2 x7_3 (rd ((q00 l0_0 x6_2).f5) x7_3) x110_37 l0_0 a0_1 = some r) ∧ Aside0 (kq ≤ k3) ∧ Aside0 (wc.heap[gb120]? = some (.cells #[(.slice (some ad126) l0_0.length c0_0), .bool a0_1] 24 (0, 0))) ∧ Aside0 (Below w.heap.size w wc))
           case first =>
            have H := HC38.out
            clear HC38
            replace H := iB H
            obtain ⟨t129, A40, H⟩ := H
            refine iV H ?p41 ?n41 <;> clear H
            case' p41 => intro c41 H; subst c41; refine iLp H ?_; clear H; intro c42b0 H; (first | rw [c42b0] | (simp only [q09, q0a]; rw [c42b0]) | skip); refine iTp H ?_; clear H; intro c43b0 H; refine iE H ?p44 ?n44 <;> clear H
            case' p44 => intro c44b0 c44b1 H; have c45b0 := eq_true (od zb : 0 ≤ x7_3); refine iGp H ?_; clear H; intro c46 H; have c46b0 := eq_true c46; have c46b1 : decide (x7_3 ≤ (((q00 l0_0 x6_2).f5).length : Int)) = true := decide_eq_true c46; clear c46
            case' n44 => intro c44 c44b0 c44b1 H
            case' n41 => intro c41 H; subst c41
            case p44 =>
             replace H := iB H
             obtain ⟨t133, A47, H⟩ := H
             have H' := aS H
             clear H
             go_wp2_with (first | ((with_reducible refine q08 (f := 73) rfl ?_); refine q0n (some 86) rfl rfl Tryd.func73 (by kernel_rfl) rfl #[.int .i64 (rd ((q00 l0_0 x6_2).f5) x7_3), .int .i64 0, .int .i64 (wrap64 ((l0_0.length : Int) - 1))] rfl zc ?_; (with_reducible refine (clerestoryref1_between.calls (rd ((q00 l0_0 x6_2).f5) x7_3) 0 (wrap64 ((l0_0.length : Int) - 1)) true _ A40.out).mono ?_); rintro e w' ⟨rfl, ⟨nd, rfl⟩⟩; refine ⟨_, rfl, ?_⟩; obtain ⟨hczL_0, hczL_1, hfzL_0, hfzL_1⟩ := bk2 BK120.out; obtain ⟨ad130, A130_2, c130_2, A130_5, c130_5, e130, hx130_0, hx130_1, hx130_2, hx130_3, hx130_4, hx130_5, HC130_2, HR130_2, HC130_5, HR130_5, p130, q130⟩ := q0o HB.out HR0_0.out (rd ((q00 l0_0 x6_2).f5) x7_3) zb zb; obtain rfl : ad126 = ad130 := (by injection e130); obtain ⟨ad131, A131_2, c131_2, A131_5, c131_5, e131, hx131_0, hx131_1, hx131_2, hx131_3, hx131_4, hx131_5, HC131_2, HR131_2, HC131_5, HR131_5, p131, q131⟩ := q0o HB.out HR0_0.out x6_2 zb zb; obtain rfl : ad126 = ad131 := (by injection e131); obtain ⟨i049, hi049, _, hsz49, _⟩ := info_parts info3; obtain ⟨hcut49, hA49, hC49⟩ := print_take_of (P := Tryd.prog) (Value.int .i64) 0 31 3 .i64 Tryd.underlying31 hi049 hsz49 A131_5 c131_5 ((q00 l0_0 x6_2).f5) x7_3 (od zb) (od zb) HC131_5.out; have HR132 := aS (Kd.C_of_reads (h1 := fun _ => rfl) (hA49 _ (Kd.reads_of_C HR131_5.out))); have HC132 := aS hC49; clear hA49 hC49 hi049 hsz49; obtain ⟨rfl, rfl⟩ : A131_5 = _ ∧ c131_5 = _ := (by have e_ := hx131_5.symm.trans hx127_5; injection e_ with e_; injection e_ with e1_ _ e2_; exact ⟨e1_, e2_⟩); have HSL132 := aS (show (((q00 l0_0 x6_2).f5).take (x7_3 : Int).toNat).length = x7_3.toNat from (by rw [List.length_take]; have h_ : (x7_3 : Int) ≤ (((q00 l0_0 x6_2).f5).length : Int) := od zb; omega))) | (go_at_call 74; (try rw [← HSL132.out]); (with_reducible refine (clerestoryref1_placeIn.calls k3 _ _ (((q00 l0_0 x6_2).f5).take (x7_3 : Int).toNat) (rd ((q00 l0_0 x6_2).f5) x7_3) t133 _ ?side1 ?side2 A47.out).mono ?_); (case side1 => repeat (first | exact (Kd.C_below HR132.out (z6 HB.out GE120.out)) | (with_reducible refine cA ?_ _) | (with_reducible refine cN ?_ _) | (with_reducible refine cD ?_))); (case side2 => exact HC132.out); rintro e w' ⟨rfl, ⟨nd, rfl⟩⟩))
             go_meet
             case rel => exact ⟨_, _, zi, H', ⟨by have := HK1.out; have := HK2.out; have := HK3.out; first | omega | exact Nat.le_refl _⟩, ⟨by (with_reducible repeat (first | refine kN ?_ _ | refine kD ?_ | refine kA ?_ _)); exact BK120.out⟩, ⟨by repeat (first | (with_reducible first | exact HB.out | apply bA | apply bN | apply bD | refine bS ?_ GE120.out) | exact HB.out)⟩⟩
            case n44 =>
             have H' := aS H
             clear H
             go_wp2_with (first | ((with_reducible refine q08 (f := 73) rfl ?_); refine q0n (some 86) rfl rfl Tryd.func73 (by kernel_rfl) rfl #[.int .i64 (rd ((q00 l0_0 x6_2).f5) x7_3), .int .i64 0, .int .i64 (wrap64 ((l0_0.length : Int) - 1))] rfl zc ?_; (with_reducible refine (clerestoryref1_between.calls (rd ((q00 l0_0 x6_2).f5) x7_3) 0 (wrap64 ((l0_0.length : Int) - 1)) true _ A40.out).mono ?_); rintro e w' ⟨rfl, ⟨nd, rfl⟩⟩; refine ⟨_, rfl, ?_⟩; obtain ⟨hczL_0, hczL_1, hfzL_0, hfzL_1⟩ := bk2 BK120.out; obtain ⟨ad130, A130_2, c130_2, A130_5, c130_5, e130, hx130_0, hx130_1, hx130_2, hx130_3, hx130_4, hx130_5, HC130_2, HR130_2, HC130_5, HR130_5, p130, q130⟩ := q0o HB.out HR0_0.out (rd ((q00 l0_0 x6_2).f5) x7_3) zb zb; obtain rfl : ad126 = ad130 := (by injection e130)))
             go_meet
             case rel => exact ⟨_, _, zi, H', ⟨by have := HK1.out; have := HK2.out; have := HK3.out; first | omega | exact Nat.le_refl _⟩, ⟨by (with_reducible repeat (first | refine kN ?_ _ | refine kD ?_ | refine kA ?_ _)); exact BK120.out⟩, ⟨by repeat (first | (with_reducible first | exact HB.out | apply bA | apply bN | apply bD | refine bS ?_ GE120.out) | exact HB.out)⟩⟩
            case n41 =>
             have H' := aS H
             clear H
             go_wp2_with (first | ((with_reducible refine q08 (f := 73) rfl ?_); refine q0n (some 86) rfl rfl Tryd.func73 (by kernel_rfl) rfl #[.int .i64 (rd ((q00 l0_0 x6_2).f5) x7_3), .int .i64 0, .int .i64 (wrap64 ((l0_0.length : Int) - 1))] rfl zc ?_; (with_reducible refine (clerestoryref1_between.calls (rd ((q00 l0_0 x6_2).f5) x7_3) 0 (wrap64 ((l0_0.length : Int) - 1)) false _ A40.out).mono ?_); rintro e w' ⟨rfl, ⟨nd, rfl⟩⟩; refine ⟨_, rfl, ?_⟩))
             go_meet
             case rel => exact ⟨_, _, zi, H', ⟨by have := HK1.out; have := HK2.out; have := HK3.out; first | omega | exact Nat.le_refl _⟩, ⟨by (with_reducible repeat (first | refine kN ?_ _ | refine kD ?_ | refine kA ?_ _)); exact BK120.out⟩, ⟨by repeat (first | (with_reducible first | exact HB.out | apply bA | apply bN | apply bD | refine bS ?_ GE120.out) | exact HB.out)⟩⟩
           case rest =>
            clear HC38
            obtain ⟨kq, x110_37, rfl, HA, HJ37, BK120, HB⟩ := hcut
            cases kq with
            | zero => exact absurd HA.out (by simp [clerestoryref1_DocErr.j4])
            | succ kj37 =>
             have H := HA.out
             clear HA
             simp only [clerestoryref1_DocErr.j4] at H
             refine iV H ?p51 ?n51 <;> clear H
             case' p51 => intro c51 H; subst c51
             case' n51 => intro c51 H; subst c51; refine iE H ?p52 ?n52 <;> clear H
             case' p52 =>
              intro c52b0 c52b1 H
              obtain ⟨hczL_0, hczL_1, hfzL_0, hfzL_1⟩ := bk2 BK120.out
              refine iLp H ?_; clear H; intro c53b0 H
              refine iTp H ?_; clear H; intro c54b0 H
              obtain ⟨ad134, A134_2, c134_2, A134_5, c134_5, e134, hx134_0, hx134_1, hx134_2, hx134_3, hx134_4, hx134_5, HC134_2, HR134_2, HC134_5, HR134_5, p134, q134⟩ := q0o HB.out HR0_0.out (rd ((q00 l0_0 x6_2).f5) x7_3) zb zb
              obtain rfl : ad126 = ad134 := (by injection e134)
              refine iE H ?p55 ?n55 <;> clear H
             case' p55 => intro c55b0 c55b1 H
             case' n55 => intro c55 c55b0 c55b1 H
             case' n52 => intro c52 c52b0 c52b1 H
             case p51|p55 =>
              obtain rfl := Option.some.inj H
              go_wp2
              go_ret
              exact ⟨by first | rfl | (simp [q05, q04] <;> rfl) | (simp [*, q05, q04] <;> rfl), by repeat (first | (with_reducible first | exact HB.out | apply bA | apply bN | apply bD | refine bS ?_ GE120.out) | exact HB.out)⟩
             case n55|n52 =>
              have H' := aS H
              clear H
              go_wp2
              go_roundg kj37
              case measure => have := HK1.out; have := HK2.out; have := HK3.out; have := HJ37.out; omega
              case rel => exact ⟨(wrap64 (x7_3 + 1)), zi, H', ⟨by have := HK1.out; have := HK2.out; have := HK3.out; have := HJ37.out; omega⟩, ⟨by (with_reducible repeat (first | refine kN ?_ _ | refine kD ?_ | refine kA ?_ _)); exact BK120.out⟩, ⟨by repeat (first | (with_reducible first | exact HB.out | apply bA | apply bN | apply bD | refine bS ?_ GE120.out) | exact HB.out)⟩⟩
          case n36 =>
           have H' := aS H
           clear H
           obtain ⟨hczL_0, hczL_1, hfzL_0, hfzL_1⟩ := bk2 BK120.out
           obtain ⟨ad126, A126_2, c126_2, A126_5, c126_5, e126, hx126_0, hx126_1, hx126_2, hx126_3, hx126_4, hx126_5, HC126_2, HR126_2, HC126_5, HR126_5, p126, q126⟩ := q0o HB.out HR0_0.out x6_2 zb zb
           cases e126
           go_wp2
           go_roundg k3
           case measure => have := HK1.out; have := HK2.out; have := HK3.out; omega
           case rel => exact ⟨(wrap64 (x6_2 + 1)), zi, H', ⟨by have := HK1.out; have := HK2.out; have := HK3.out; omega⟩, ⟨by (with_reducible repeat (first | refine kN ?_ _ | refine kD ?_ | refine kA ?_ _)); exact BK120.out⟩, ⟨by repeat (first | (with_reducible first | exact HB.out | apply bA | apply bN | apply bD | refine bS ?_ GE120.out) | exact HB.out)⟩⟩
       case n33 =>
        have H' := aS H
        clear H
        go_wp2
        go_loopg [9] k2 (fun kq v9 w' => ∃ (x9_3 : Int), v9 = .int .i64 x9_3 ∧ Aside0 (clerestoryref1_DocErr.l3 kq (l0_0.length : Int) x9_3 l0_0 a0_1 = some r) ∧ Aside0 (kq ≤ k2) ∧ Aside0 (w'.heap[gb120]? = some (.cells #[(.slice A0_0 l0_0.length c0_0), .bool a0_1] 24 (0, 0))) ∧ Aside0 (Below w.heap.size w w'))
        case atStart => exact ⟨(0), zi, H', ⟨Nat.le_refl _⟩, ⟨by (with_reducible repeat (first | refine kN ?_ _ | refine kD ?_ | refine kA ?_ _)); exact BK120.out⟩, ⟨by repeat (first | (with_reducible first | exact HB.out | apply bA | apply bN | apply bD | refine bS ?_ GE120.out) | exact HB.out)⟩⟩
        case round =>
         clear H'
         obtain ⟨x9_3, rfl, HA, HK3, BK120, HB⟩ := hrel
         cases gk with
         | zero => exact absurd HA.out (by simp [clerestoryref1_DocErr.l3])
         | succ k3 =>
          have H := HA.out
          clear HA
          simp only [clerestoryref1_DocErr.l3] at H
          obtain ⟨hczL_0, hczL_1, hfzL_0, hfzL_1⟩ := bk2 BK120.out
          refine iT H ?p59 ?n59 <;> clear H
          case' p59 => intro c59b0 H; refine iLp H ?_; clear H; intro c60b0 H; refine iTp H ?_; clear H; intro c61b0 H; refine iE H ?p62 ?n62 <;> clear H
          case' p62 => intro c62b0 c62b1 H
          case' n62 => intro c62 c62b0 c62b1 H; replace H := iB H; obtain ⟨t136, A64, H⟩ := H; refine iV H ?p65 ?n65 <;> clear H
          case' p65 =>
           intro c65 H; subst c65
           refine iLp H ?_; clear H; intro c66b0 H
           refine iTp H ?_; clear H; intro c67b0 H
           replace H := iB H
           obtain ⟨t138, A68, H⟩ := H
           obtain ⟨ad135, A135_2, c135_2, A135_5, c135_5, e135, hx135_0, hx135_1, hx135_2, hx135_3, hx135_4, hx135_5, HC135_2, HR135_2, HC135_5, HR135_5, p135, q135⟩ := q0o HB.out HR0_0.out x9_3 zb zb
           cases e135
           refine iT H ?p69 ?n69 <;> clear H
          case' p69 => intro c69b0 H
          case' n69 => intro c69b0 H
          case' n65 => intro c65 H; subst c65
          case' n59 =>
           intro c59b0 H
           refine iTNp (m := 0) (n := l0_0.length) H rfl rfl ?_; clear H; intro c73b0 c73b1 H
           have p139 : 0 ≤ (0 : Int) := (by omega)
           have q139 : 0 < (l0_0.length : Int) := od zb
           obtain ⟨ad139, A139_2, c139_2, A139_5, c139_5, e139, hx139_0, hx139_1, hx139_2, hx139_3, hx139_4, hx139_5, hl139_2, hi139_2, hl139_5, hi139_5⟩ := at_T43 HR0_0.out 0 p139 q139
           cases e139
           refine iE H ?p74 ?n74 <;> clear H
          case' p74 => intro c74b0 c74b1 H
          case' n74 => intro c74 c74b0 c74b1 H
          case p62 =>
           have H' := aS H
           clear H
           obtain ⟨ad135, A135_2, c135_2, A135_5, c135_5, e135, hx135_0, hx135_1, hx135_2, hx135_3, hx135_4, hx135_5, HC135_2, HR135_2, HC135_5, HR135_5, p135, q135⟩ := q0o HB.out HR0_0.out x9_3 zb zb
           cases e135
           go_wp2
           go_roundg k3
           case measure => have := HK1.out; have := HK2.out; have := HK3.out; omega
           case rel => exact ⟨(wrap64 (x9_3 + 1)), zi, H', ⟨by have := HK1.out; have := HK2.out; have := HK3.out; omega⟩, ⟨by (with_reducible repeat (first | refine kN ?_ _ | refine kD ?_ | refine kA ?_ _)); exact BK120.out⟩, ⟨by repeat (first | (with_reducible first | exact HB.out | apply bA | apply bN | apply bD | refine bS ?_ GE120.out) | exact HB.out)⟩⟩
          case p69 =>
           obtain rfl := Option.some.inj H
           go_wp2_with (first | (go_at_call 73; (with_reducible refine (clerestoryref1_between.calls ((q00 l0_0 x9_3).f4) 0 (wrap64 ((l0_0.length : Int) - 1)) true _ A64.out).mono ?_); rintro e w' ⟨rfl, ⟨nd, rfl⟩⟩; obtain ⟨ad137, A137_2, c137_2, A137_5, c137_5, e137, hx137_0, hx137_1, hx137_2, hx137_3, hx137_4, hx137_5, HC137_2, HR137_2, HC137_5, HR137_5, p137, q137⟩ := q0o HB.out HR0_0.out ((q00 l0_0 x9_3).f4) zb zb; obtain rfl : ad135 = ad137 := (by injection e137)) | (go_at_call 74; (with_reducible refine (clerestoryref1_placeIn.calls k3 _ _ ((q00 l0_0 ((q00 l0_0 x9_3).f4)).f5) x9_3 t138 _ ?side1 ?side2 A68.out).mono ?_); (case side1 => repeat (first | exact (Kd.C_below HR137_5.out (z6 HB.out GE120.out)) | (with_reducible refine cA ?_ _) | (with_reducible refine cN ?_ _) | (with_reducible refine cD ?_))); (case side2 => exact HC137_5.out); rintro e w' ⟨rfl, ⟨nd, rfl⟩⟩))
           go_ret
           exact ⟨by first | rfl | (simp [q05, q04] <;> rfl) | (simp [*, q05, q04] <;> rfl), by repeat (first | (with_reducible first | exact HB.out | apply bA | apply bN | apply bD | refine bS ?_ GE120.out) | exact HB.out)⟩
          case n69 =>
           have H' := aS H
           clear H
           go_wp2_with (first | (go_at_call 73; (with_reducible refine (clerestoryref1_between.calls ((q00 l0_0 x9_3).f4) 0 (wrap64 ((l0_0.length : Int) - 1)) true _ A64.out).mono ?_); rintro e w' ⟨rfl, ⟨nd, rfl⟩⟩; obtain ⟨ad137, A137_2, c137_2, A137_5, c137_5, e137, hx137_0, hx137_1, hx137_2, hx137_3, hx137_4, hx137_5, HC137_2, HR137_2, HC137_5, HR137_5, p137, q137⟩ := q0o HB.out HR0_0.out ((q00 l0_0 x9_3).f4) zb zb; obtain rfl : ad135 = ad137 := (by injection e137)) | (go_at_call 74; (with_reducible refine (clerestoryref1_placeIn.calls k3 _ _ ((q00 l0_0 ((q00 l0_0 x9_3).f4)).f5) x9_3 t138 _ ?side1 ?side2 A68.out).mono ?_); (case side1 => repeat (first | exact (Kd.C_below HR137_5.out (z6 HB.out GE120.out)) | (with_reducible refine cA ?_ _) | (with_reducible refine cN ?_ _) | (with_reducible refine cD ?_))); (case side2 => exact HC137_5.out); rintro e w' ⟨rfl, ⟨nd, rfl⟩⟩))
           go_roundg k3
           case measure => have := HK1.out; have := HK2.out; have := HK3.out; omega
           case rel => exact ⟨(wrap64 (x9_3 + 1)), zi, H', ⟨by have := HK1.out; have := HK2.out; have := HK3.out; omega⟩, ⟨by (with_reducible repeat (first | refine kN ?_ _ | refine kD ?_ | refine kA ?_ _)); exact BK120.out⟩, ⟨by repeat (first | (with_reducible first | exact HB.out | apply bA | apply bN | apply bD | refine bS ?_ GE120.out) | exact HB.out)⟩⟩
          case n65 =>
           obtain rfl := Option.some.inj H
           obtain ⟨ad135, A135_2, c135_2, A135_5, c135_5, e135, hx135_0, hx135_1, hx135_2, hx135_3, hx135_4, hx135_5, HC135_2, HR135_2, HC135_5, HR135_5, p135, q135⟩ := q0o HB.out HR0_0.out x9_3 zb zb
           cases e135
           go_wp2_with (first | (go_at_call 73; (with_reducible refine (clerestoryref1_between.calls ((q00 l0_0 x9_3).f4) 0 (wrap64 ((l0_0.length : Int) - 1)) false _ A64.out).mono ?_); rintro e w' ⟨rfl, ⟨nd, rfl⟩⟩))
           go_ret
           exact ⟨by first | rfl | (simp [q05, q04] <;> rfl) | (simp [*, q05, q04] <;> rfl), by repeat (first | (with_reducible first | exact HB.out | apply bA | apply bN | apply bD | refine bS ?_ GE120.out) | exact HB.out)⟩
          case p74 =>
           have H' := aS H
           clear H
           have qi139 : (0 < l0_0.length) = True := eq_true (by omega)
           (try rw [show ((0 : Int)).toNat = 0 from rfl] at hx139_0)
           (try rw [show 0 * 6 = 0 from rfl] at hx139_0)
           (try rw [Addr.add_zero'] at hx139_0)
           (try rw [show ((0 : Int)).toNat = 0 from rfl] at hx139_1)
           (try rw [show 0 * 6 = 0 from rfl] at hx139_1)
           (try rw [Addr.add_zero'] at hx139_1)
           (try rw [show ((0 : Int)).toNat = 0 from rfl] at hx139_2)
           (try rw [show 0 * 6 = 0 from rfl] at hx139_2)
           (try rw [Addr.add_zero'] at hx139_2)
           (try rw [show ((0 : Int)).toNat = 0 from rfl] at hx139_3)
           (try rw [show 0 * 6 = 0 from rfl] at hx139_3)
           (try rw [Addr.add_zero'] at hx139_3)
           (try rw [show ((0 : Int)).toNat = 0 from rfl] at hx139_4)
           (try rw [show 0 * 6 = 0 from rfl] at hx139_4)
           (try rw [Addr.add_zero'] at hx139_4)
           (try rw [show ((0 : Int)).toNat = 0 from rfl] at hx139_5)
           (try rw [show 0 * 6 = 0 from rfl] at hx139_5)
           (try rw [Addr.add_zero'] at hx139_5)
           replace hx139_0 := q0f HB.out hx139_0
           replace hx139_1 := q0f HB.out hx139_1
           replace hx139_2 := q0f HB.out hx139_2
           replace hx139_3 := q0f HB.out hx139_3
           replace hx139_4 := q0f HB.out hx139_4
           replace hx139_5 := q0f HB.out hx139_5
           have HR139_2 := aS hi139_2
           have HC139_2 := aS hl139_2
           clear hi139_2 hl139_2
           have HR139_5 := aS hi139_5
           have HC139_5 := aS hl139_5
           clear hi139_5 hl139_5
           replace p139 := eq_true p139
           replace q139 := eq_true q139
           go_wp2
           go_loopg [11] k3 (fun kq v11 w' => ∃ (x11_4 : Int), v11 = .int .i64 x11_4 ∧ Aside0 (clerestoryref1_DocErr.l4 kq (l0_0.length : Int) x11_4 l0_0 a0_1 = some r) ∧ Aside0 (kq ≤ k3) ∧ Aside0 (w'.heap[gb120]? = some (.cells #[(.slice (some ad139) l0_0.length c0_0), .bool a0_1] 24 (0, 0))) ∧ Aside0 (Below w.heap.size w w'))
           case atStart => exact ⟨(0), zi, H', ⟨Nat.le_refl _⟩, ⟨by (with_reducible repeat (first | refine kN ?_ _ | refine kD ?_ | refine kA ?_ _)); exact BK120.out⟩, ⟨by repeat (first | (with_reducible first | exact HB.out | apply bA | apply bN | apply bD | refine bS ?_ GE120.out) | exact HB.out)⟩⟩
           case round =>
            clear H'
            obtain ⟨x11_4, rfl, HA, HK4, BK120, HB⟩ := hrel
            cases gk with
            | zero => exact absurd HA.out (by simp [clerestoryref1_DocErr.l4])
            | succ k4 =>
             have H := HA.out
             clear HA
             simp only [clerestoryref1_DocErr.l4] at H
             refine iT H ?p76 ?n76 <;> clear H
             case' p76 => intro c76b0 H; replace H := iB H; obtain ⟨t140, A77, H⟩ := H; obtain ⟨hczL_0, hczL_1, hfzL_0, hfzL_1⟩ := bk2 BK120.out; refine iT H ?p78 ?n78 <;> clear H
             case' p78 => intro c78b0 H
             case' n78 => intro c78b0 H; refine iT H ?p81 ?n81 <;> clear H
             case' p81 => intro c81b0 H
             case' n81 => intro c81b0 H
             case' n76 => intro c76b0 H
             case p78 =>
              obtain rfl := Option.some.inj H
              go_wp2_with (first | ((with_reducible refine q08 (f := 65) rfl ?_); refine q0n (some 166) rfl rfl Tryd.func65 (by kernel_rfl) rfl #[.agg #[.slice (some ad139) l0_0.length c0_0, .bool a0_1], .int .i64 x11_4] rfl zc ?_; (with_reducible refine (clerestoryref1_Deep.calls k4 _ _ l0_0 a0_1 x11_4 t140 _ ?side1 ?side2 A77.out).mono ?_); (case side1 => repeat (first | exact (Kd.C_below HR0_0.out HB.out) | (with_reducible refine cA ?_ _) | (with_reducible refine cN ?_ _) | (with_reducible refine cD ?_))); (case side2 => exact HC0_0.out); rintro e w80 ⟨rfl, hb⟩; refine ⟨_, rfl, ?_⟩; replace BK120 := aS (q01 (g := gb120) (o := .cells #[.slice (some ad139) l0_0.length c0_0, .bool a0_1] 24 (0, 0)) (za BK120.out) hb); replace HB := aS (q02 (z6 HB.out GE120.out) hb); (try clear hb); (try clear hb2); (try clear hk); (try clear hi)))
              go_ret
              exact ⟨by first | rfl | (simp [q05, q04] <;> rfl) | (simp [*, q05, q04] <;> rfl), by repeat (first | (with_reducible first | exact HB.out | apply bA | apply bN | apply bD | refine bS ?_ GE120.out) | exact HB.out)⟩
             case p81 =>
              obtain rfl := Option.some.inj H
              go_wp2_with (first | ((with_reducible refine q08 (f := 65) rfl ?_); refine q0n (some 166) rfl rfl Tryd.func65 (by kernel_rfl) rfl #[.agg #[.slice (some ad139) l0_0.length c0_0, .bool a0_1], .int .i64 x11_4] rfl zc ?_; (with_reducible refine (clerestoryref1_Deep.calls k4 _ _ l0_0 a0_1 x11_4 t140 _ ?side1 ?side2 A77.out).mono ?_); (case side1 => repeat (first | exact (Kd.C_below HR0_0.out HB.out) | (with_reducible refine cA ?_ _) | (with_reducible refine cN ?_ _) | (with_reducible refine cD ?_))); (case side2 => exact HC0_0.out); rintro e w83 ⟨rfl, hb⟩; refine ⟨_, rfl, ?_⟩; replace BK120 := aS (q01 (g := gb120) (o := .cells #[.slice (some ad139) l0_0.length c0_0, .bool a0_1] 24 (0, 0)) (za BK120.out) hb); replace HB := aS (q02 (z6 HB.out GE120.out) hb); (try clear hb); (try clear hb2); (try clear hk); (try clear hi)))
              go_ret
              exact ⟨by first | rfl | (simp [q05, q04] <;> rfl) | (simp [*, q05, q04] <;> rfl), by repeat (first | (with_reducible first | exact HB.out | apply bA | apply bN | apply bD | refine bS ?_ GE120.out) | exact HB.out)⟩
             case n81 =>
              have H' := aS H
              clear H
              go_wp2_with (first | ((with_reducible refine q08 (f := 65) rfl ?_); refine q0n (some 166) rfl rfl Tryd.func65 (by kernel_rfl) rfl #[.agg #[.slice (some ad139) l0_0.length c0_0, .bool a0_1], .int .i64 x11_4] rfl zc ?_; (with_reducible refine (clerestoryref1_Deep.calls k4 _ _ l0_0 a0_1 x11_4 t140 _ ?side1 ?side2 A77.out).mono ?_); (case side1 => repeat (first | exact (Kd.C_below HR0_0.out HB.out) | (with_reducible refine cA ?_ _) | (with_reducible refine cN ?_ _) | (with_reducible refine cD ?_))); (case side2 => exact HC0_0.out); rintro e w85 ⟨rfl, hb⟩; refine ⟨_, rfl, ?_⟩; replace BK120 := aS (q01 (g := gb120) (o := .cells #[.slice (some ad139) l0_0.length c0_0, .bool a0_1] 24 (0, 0)) (za BK120.out) hb); replace HB := aS (q02 (z6 HB.out GE120.out) hb); (try clear hb); (try clear hb2); (try clear hk); (try clear hi)))
              go_roundg k4
              case measure => have := HK1.out; have := HK2.out; have := HK3.out; have := HK4.out; omega
              case rel => exact ⟨(wrap64 (x11_4 + 1)), zi, H', ⟨by have := HK1.out; have := HK2.out; have := HK3.out; have := HK4.out; omega⟩, ⟨by (with_reducible repeat (first | refine kN ?_ _ | refine kD ?_ | refine kA ?_ _)); exact BK120.out⟩, ⟨by repeat (first | (with_reducible first | exact HB.out | apply bA | apply bN | apply bD | refine bS ?_ GE120.out) | exact HB.out)⟩⟩
             case n76 =>
              obtain rfl := Option.some.inj H
              go_wp2
              go_ret
              exact ⟨by first | rfl | (simp [q05, q04] <;> rfl) | (simp [*, q05, q04] <;> rfl), by repeat (first | (with_reducible first | exact HB.out | apply bA | apply bN | apply bD | refine bS ?_ GE120.out) | exact HB.out)⟩
          case n74 =>
           obtain rfl := Option.some.inj H
           have qi139 : (0 < l0_0.length) = True := eq_true (by omega)
           (try rw [show ((0 : Int)).toNat = 0 from rfl] at hx139_0)
           (try rw [show 0 * 6 = 0 from rfl] at hx139_0)
           (try rw [Addr.add_zero'] at hx139_0)
           (try rw [show ((0 : Int)).toNat = 0 from rfl] at hx139_1)
           (try rw [show 0 * 6 = 0 from rfl] at hx139_1)
           (try rw [Addr.add_zero'] at hx139_1)
           (try rw [show ((0 : Int)).toNat = 0 from rfl] at hx139_2)
           (try rw [show 0 * 6 = 0 from rfl] at hx139_2)
           (try rw [Addr.add_zero'] at hx139_2)
           (try rw [show ((0 : Int)).toNat = 0 from rfl] at hx139_3)
           (try rw [show 0 * 6 = 0 from rfl] at hx139_3)
           (try rw [Addr.add_zero'] at hx139_3)
           (try rw [show ((0 : Int)).toNat = 0 from rfl] at hx139_4)
           (try rw [show 0 * 6 = 0 from rfl] at hx139_4)
           (try rw [Addr.add_zero'] at hx139_4)
           (try rw [show ((0 : Int)).toNat = 0 from rfl] at hx139_5)
           (try rw [show 0 * 6 = 0 from rfl] at hx139_5)
           (try rw [Addr.add_zero'] at hx139_5)
           replace hx139_0 := q0f HB.out hx139_0
           replace hx139_1 := q0f HB.out hx139_1
           replace hx139_2 := q0f HB.out hx139_2
           replace hx139_3 := q0f HB.out hx139_3
           replace hx139_4 := q0f HB.out hx139_4
           replace hx139_5 := q0f HB.out hx139_5
           have HR139_2 := aS hi139_2
           have HC139_2 := aS hl139_2
           clear hi139_2 hl139_2
           have HR139_5 := aS hi139_5
           have HC139_5 := aS hl139_5
           clear hi139_5 hl139_5
           replace p139 := eq_true p139
           replace q139 := eq_true q139
           go_wp2
           go_ret
           exact ⟨by first | rfl | (simp [q05, q04] <;> rfl) | (simp [*, q05, q04] <;> rfl), by repeat (first | (with_reducible first | exact HB.out | apply bA | apply bN | apply bD | refine bS ?_ GE120.out) | exact HB.out)⟩
theorem eqA50 (d : Nat) (w : World) (x0 y0 : Int) (x1 y1 : Int) :
 (Op.equalIn (d + 2) 50 (.agg #[.int .i64 x0, .int .i64 x1]) (.agg #[.int .i64 y0, .int .i64 y1])).run Tryd.prog w = .ok (x0 == y0 && (x1 == y1)) w := by
 refine eqA_of Tryd.underlying50 (by kernel_rfl) ?_
 refine eqf_cons (by rfl) (by go_simp; rfl) (by go_simp; rfl) (by go_simp) ?_
 exact eqf_last (by rfl) (by go_simp; rfl) (by go_simp; rfl) (by go_simp)
end Go.Proofs.YthjnallbbhnndaaDoor.XSp
