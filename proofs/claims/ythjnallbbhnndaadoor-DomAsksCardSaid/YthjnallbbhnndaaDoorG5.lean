/- What the form of a row reads as data of a type (numbers, bools, strings, slices, structs, nested) are cells of a kind of the print's: proved once for each way that kinds are put together. Conditions: each statement's own. -/
import Derived.ProofKit
import Derived.SizedLaws
import Derived.Deep.Slices
import Derived.Test.YthjnallbbhnndaaDoorG4
import Derived.Test.YthjnallbbhnndaaDoorRows
import Derived.Test.YthjnallbbhnndaaDoorChecked
import Derived.Lib.LaidIn
import Derived.Lib.LaidU8T
import Derived.Deep.DeepHandedRow
import Derived.Deep.DeepWitnessRowRef
namespace Go.Proofs.YthjnallbbhnndaaDoor.Rd
open Go.ChangeShapes Go.WideShapes Go.ChangeAt Go.RowKit Go.Proofs.YthjnallbbhnndaaDoorW.PrintWords
def Reads {α : Type} (P : Program) (t : TypeId) (k : Kd α) (Q : α → Prop) : Prop :=
  P.cellsOf t = k.sz ∧ ∀ (H : Type) (enc : TypeId × Value → H) (w : World) (fuel : Nat) (cs : List Value) (x : DataW H × List MemPlace),
    DataW.trod enc P w 0 (fun _ => true) true fuel t cs = some x → (∀ n ∈ x.1.weights P t, n ≤ reachBytes) → ∃ a : α, k.K w a cs ∧ Q a
variable {P : Program} {t : TypeId}
theorem Reads.imp {α : Type} {k : Kd α} {Q Q' : α → Prop} (h : Reads P t k Q) (hq : ∀ a, Q a → Q' a) : Reads P t k Q' := by
  refine ⟨h.1, fun H enc w fuel cs x hx hw => ?_⟩
  obtain ⟨a, ha, hq'⟩ := h.2 H enc w fuel cs x hx hw
  exact ⟨a, ha, hq a hq'⟩
theorem reads_int {k : IntKind} (ht : P.underlying t = some (.int k)) (hc : P.cellsOf t = 1) : Reads P t (Kd.int k) (fun n => (Lit.int k n).wf = true) := by
  refine ⟨hc, fun H enc w fuel cs x hx _ => ?_⟩
  obtain ⟨n, rfl, _, hw⟩ := DataW.trod_int ht hx
  exact ⟨n, rfl, hw⟩
theorem reads_bool (ht : P.underlying t = some .bool) (hc : P.cellsOf t = 1) : Reads P t Kd.bool (fun _ => True) := by
  refine ⟨hc, fun H enc w fuel cs x hx _ => ?_⟩
  obtain ⟨b, rfl, _⟩ := DataW.trod_bool ht hx
  exact ⟨b, rfl, trivial⟩
theorem reads_string (ht : P.underlying t = some .string) (hc : P.cellsOf t = 1) : Reads P t Kd.string (fun s => s.size ≤ reachBytes) := by
  refine ⟨hc, fun H enc w fuel cs x hx hw => ?_⟩
  obtain ⟨s, rfl, rfl, _⟩ := DataW.trod_string ht hx
  exact ⟨s, rfl, by simpa [DataW.weights] using hw⟩
theorem weightsAll_mem {H : Type} {e : TypeId} : ∀ {l : List (DataW H)} {d : DataW H}, d ∈ l → ∀ n ∈ d.weights P e, n ∈ DataW.weightsAll P e l
  | a :: l, d, hd, n, hn => by
    unfold DataW.weightsAll
    rcases List.mem_cons.1 hd with rfl | h
    · exact List.mem_append_left _ hn
    · exact List.mem_append_right _ (weightsAll_mem h n hn)
theorem choose_list {α : Type} {p : Nat → α → Prop} : ∀ (n : Nat), (∀ i, i < n → ∃ a, p i a) → ∃ l : List α, l.length = n ∧ ∀ i a, l[i]? = some a → p i a
  | 0, _ => ⟨[], rfl, fun i a h => by simp at h⟩
  | n + 1, h => by
    obtain ⟨l, hl, hp⟩ := choose_list n (fun i hi => h i (by omega))
    obtain ⟨a, ha⟩ := h n (by omega)
    refine ⟨l ++ [a], by simp [hl], fun i b hb => ?_⟩
    by_cases hi : i < l.length
    · rw [List.getElem?_append_left hi] at hb
      exact hp i b hb
    · have := (List.getElem?_eq_some_iff.1 hb).1
      simp at this
      have e : i = l.length := by omega
      subst e
      simp at hb
      subst hb
      rw [hl]
      exact ha
theorem reads_slice {e : TypeId} {α : Type} {k : Kd α} {Q : α → Prop} (ht : P.underlying t = some (.slice e)) (hc : P.cellsOf t = 1) (he : Reads P e k Q) :
    Reads P t (Kd.slice e k) (fun l => l.length * P.bytesOf e ≤ reachBytes ∧ l.length ≤ 9223372036854775807 ∧ ∀ a ∈ l, Q a) := by
  refine ⟨hc, fun H enc w fuel cs x hx hw => ?_⟩
  rcases DataW.trod_slice ht hx with ⟨rfl, rfl⟩ | ⟨a, len, cap, elems, rest, n, _, rfl, rfl, _, hl, hm, hlen, hel, _, _⟩
  · exact ⟨[], ⟨none, 0, rfl, Nat.le_refl _, ⟨rfl, by simp, fun h => absurd h (by simp)⟩⟩, by simp, by simp, by simp⟩
  · have hw' : ∀ m ∈ ((elems.map (·.1)).length + (rest.map (·.1)).length) * P.bytesOf e :: (DataW.weightsAll P e (elems.map (·.1)) ++ DataW.weightsAll P e (rest.map (·.1))), m ≤ reachBytes := by
      have := hw
      unfold DataW.weights at this
      rw [ht] at this
      exact this
    have each : ∀ i, i < len → ∃ b, (∃ c, w.cells? 0 (a.add (i * P.cellsOf e)) (P.cellsOf e) = some c ∧ k.K w b c) ∧ Q b := by
      intro i hi
      have h1 := hel i hi
      have hi' : i < elems.length := by omega
      rw [List.getElem?_eq_getElem hi', Option.bind_eq_some_iff] at h1
      obtain ⟨c, hcs, hy⟩ := h1
      obtain ⟨b, hb, hq⟩ := he.2 H enc w n c _ hy (fun m hm' => hw' m (List.mem_cons_of_mem _ (List.mem_append_left _ (weightsAll_mem (List.mem_map.2 ⟨_, List.getElem_mem hi', rfl⟩) m hm'))))
      exact ⟨b, ⟨c, hcs, hb⟩, hq⟩
    obtain ⟨l, hll, hp⟩ := choose_list len each
    have hmax : len ≤ 9223372036854775807 := by unfold maxLen at hm; omega
    refine ⟨l, ⟨some a, cap, by rw [hll], by omega, ⟨rfl, by omega, fun _ => ⟨a, rfl, fun j p hj => ?_⟩⟩⟩, ?_, by omega, fun b hb => ?_⟩
    · obtain ⟨⟨c, hcs, hb⟩, _⟩ := hp j p hj
      refine ⟨c, k.K_len hb, hb, fun i u hu => ?_⟩
      obtain ⟨_, hlen', hcell⟩ := World.cells?_some hcs
      have hi := (List.getElem?_eq_some_iff.1 hu).1
      have := hcell i (by omega)
      rw [hu, Go.Deep.add_add] at this
      rw [← he.1]
      exact this
    · have := hw' _ (List.mem_cons_self ..)
      simp only [List.length_map] at this
      rw [hll, ← hlen]
      exact Nat.le_trans (Nat.mul_le_mul_right _ (Nat.le_add_right _ _)) this
    · obtain ⟨i, hi⟩ := List.getElem?_of_mem hb
      exact (hp i b hi).2
def ReadsF {α : Type} (P : Program) (fs : List Field) (off : Nat) (k : Kd α) (Q : α → Prop) : Prop :=
  ∀ (H : Type) (enc : TypeId × Value → H) (w : World) (n : Nat) (cs : List Value) (xs : List (DataW H × List MemPlace)), xs.length = fs.length →
    (∀ (i : Nat) (f : Field), fs[i]? = some f → DataW.trod enc P w 0 (fun _ => true) true n f.type ((cs.drop f.offset).take (P.cellsOf f.type)) = xs[i]?) →
    (∀ m ∈ DataW.weightsEach P (fs.map (·.type)) (xs.map (·.1)), m ≤ reachBytes) → cs.length = off + k.sz → ∃ a : α, k.K w a (cs.drop off) ∧ Q a
theorem readsF_one {f : Field} {off : Nat} {α : Type} {k : Kd α} {Q : α → Prop} (hf : f.offset = off) (h : Reads P f.type k Q) : ReadsF P [f] off k Q := by
  intro H enc w n cs xs hl hx hw hc
  obtain ⟨y, rfl⟩ : ∃ y, xs = [y] := by
    match xs, hl with
    | [y], _ => exact ⟨y, rfl⟩
  have h1 := hx 0 f rfl
  rw [hf, h.1, List.take_of_length_le (by rw [List.length_drop]; omega)] at h1
  exact h.2 H enc w n _ y h1 (fun m hm => hw m (by simp [DataW.weightsEach, hm]))
theorem readsF_cons {f : Field} {fs : List Field} {off : Nat} {α β : Type} {k1 : Kd α} {k2 : Kd β} {Q1 : α → Prop} {Q2 : β → Prop} (hf : f.offset = off) (h : Reads P f.type k1 Q1) (hr : ReadsF P fs (off + k1.sz) k2 Q2) :
    ReadsF P (f :: fs) off (Kd.pair k1 k2) (fun p => Q1 p.1 ∧ Q2 p.2) := by
  intro H enc w n cs xs hl hx hw hc
  obtain ⟨y, ys, rfl⟩ : ∃ y ys, xs = y :: ys := by
    match xs, hl with
    | y :: ys, _ => exact ⟨y, ys, rfl⟩
  have h1 := hx 0 f rfl
  rw [hf, h.1] at h1
  have hsz : (Kd.pair k1 k2).sz = k1.sz + k2.sz := rfl
  obtain ⟨a, ha, hqa⟩ := h.2 H enc w n _ y h1 (fun m hm => hw m (by simp [DataW.weightsEach, hm]))
  obtain ⟨b, hb, hqb⟩ := hr H enc w n cs ys (by simpa using hl) (fun i g hg => by simpa using hx (i + 1) g (by simpa using hg)) (fun m hm => hw m (by simp [DataW.weightsEach]; exact .inr (by simpa using hm))) (by omega)
  refine ⟨(a, b), ⟨_, _, ?_, ha, hb⟩, hqa, hqb⟩
  rw [← List.drop_drop, List.take_append_drop]
theorem reads_struct {fs : Array Field} {α : Type} {k : Kd α} {Q : α → Prop} (ht : P.underlying t = some (.struct fs)) (hc : P.cellsOf t = k.sz) (h : ReadsF P fs.toList 0 k Q) : Reads P t k Q := by
  refine ⟨hc, fun H enc w fuel cs x hx hw => ?_⟩
  obtain ⟨xs, n, _, rfl, hl, hlen, hf⟩ := DataW.trod_struct ht hx
  have := h H enc w n cs xs (by simpa using hlen) (fun i f hi => hf i f (by simpa using hi)) (fun m hm => hw m (by unfold DataW.weights; rw [ht]; exact hm)) (by omega)
  simpa using this
theorem Reads.iso {α β : Type} {k : Kd α} {Q : α → Prop} (h : Reads P t k Q) (f : β → α) (g : α → β) (hg : ∀ a, f (g a) = a) : Reads P t (Kd.iso k f) (fun b => Q (f b)) := by
  refine ⟨h.1, fun H enc w fuel cs x hx hw => ?_⟩
  obtain ⟨a, ha, hq⟩ := h.2 H enc w fuel cs x hx hw
  exact ⟨g a, by show k.K w (f (g a)) cs; rw [hg]; exact ha, by show Q (f (g a)); rw [hg]; exact hq⟩
theorem open_slice_arg {H : Type} {enc : TypeId × Value → H} {r : Reach} {b0 : Nat} {w : World} {e : TypeId} {α : Type} {k : Kd α} {Q : List α → Prop} {v : Value} {d : DataW H} {p : List MemPlace}
    (hr : Reads P t (Kd.slice e k) Q) (ht : P.underlying t = some (.slice e)) (hv : Value.okWide P w r b0 t v) (h : DataW.Trod enc P w 0 (fun _ => true) true t v d p) (hw : ∀ n ∈ d.weights P t, n ≤ reachBytes) :
    ∃ (A : Option Addr) (c : Nat) (l : List α), v = .slice A l.length c ∧ l.length ≤ c ∧ Kd.C k w A l.length l ∧ Q l := by
  obtain ⟨a0, len, cap, rfl⟩ := okWide_slice ht hv
  obtain ⟨fuel, hf⟩ := h
  obtain ⟨l, ⟨A, c, hcs, hlc, hC⟩, hq⟩ := hr.2 H enc w fuel _ _ hf hw
  simp only [Value.cells, List.cons.injEq, and_true] at hcs
  exact ⟨A, c, l, hcs, hlc, hC, hq⟩
theorem open_struct_arg {H : Type} {enc : TypeId × Value → H} {r : Reach} {b0 : Nat} {w : World} {fs : Array Field} {α : Type} {k : Kd α} {Q : α → Prop} {v : Value} {d : DataW H} {p : List MemPlace}
    (hr : Reads P t k Q) (ht : P.underlying t = some (.struct fs)) (hv : Value.okWide P w r b0 t v) (h : DataW.Trod enc P w 0 (fun _ => true) true t v d p) (hw : ∀ n ∈ d.weights P t, n ≤ reachBytes) :
    ∃ (cs : List Value) (x : α), v = .agg ⟨cs⟩ ∧ k.K w x cs ∧ Q x := by
  obtain ⟨cs, rfl, _⟩ := okWide_struct ht hv
  obtain ⟨fuel, hf⟩ := h
  obtain ⟨x, hx, hq⟩ := hr.2 H enc w fuel _ _ hf hw
  exact ⟨cs.toList, x, rfl, hx, hq⟩
theorem weights_arg {H : Type} {ts : List TypeId} {ds : List (DataW H)} (h : (DataW.weightsEach P ts ds).all (· ≤ reachBytes) = true) {j : Nat} {d : DataW H} (ht : ts[j]? = some t) (hd : ds[j]? = some d) : ∀ n ∈ d.weights P t, n ≤ reachBytes := by
  intro n hn
  have := DataW.weights_mem_each ht hd n hn
  simpa using (List.all_eq_true.1 h) n this
end Go.Proofs.YthjnallbbhnndaaDoor.Rd
namespace Go.Proofs.YthjnallbbhnndaaDoor.XDb
open Go.Proofs.YthjnallbbhnndaaDoor.Short Go.RowKit Go.Proofs.YthjnallbbhnndaaDoorW.PrintWords Go.Proofs.YthjnallbbhnndaaDoorW.PrintLast Go.Proofs.YthjnallbbhnndaaDoorW.PrintMore
attribute [local go_sem] q14 q12 q1b q1a q0u q0t q13 q11   -- for this text's walks alone
set_option linter.unusedVariables false
set_option linter.unusedSimpArgs false
mutual
def clerestorylaw1_DomAsks.j0 : Nat → Int → ByteArray → List Int → Int → ByteArray → Bool → Int → ByteArray → Int → Bool → List (S43) → Bool → Option (Bool)
 | 0, _, _, _, _, _, _, _, _, _, _, _, _ => none
 | k + 1, x1, x2, x9, x10, x11, x12, x13, x14, x15, x100, x319000, x319001 => if x100 = true then (some false) else (if x1 < 0 then (clerestorylaw1_DomAsks.j1 k x1 x2 x9 x10 x11 x12 x13 x14 x15 true x319000 x319001) else (clerestorylaw1_DomAsks.j1 k x1 x2 x9 x10 x11 x12 x13 x14 x15 (decide (x1 ≥ (x319000.length : Int))) x319000 x319001))
def clerestorylaw1_DomAsks.j1 : Nat → Int → ByteArray → List Int → Int → ByteArray → Bool → Int → ByteArray → Int → Bool → List (S43) → Bool → Option (Bool)
 | 0, _, _, _, _, _, _, _, _, _, _, _, _ => none
 | k + 1, x1, x2, x9, x10, x11, x12, x13, x14, x15, x109, x319000, x319001 => if x109 = true then ((clerestorylaw1_domBegun.f k).bind fun t342 => (if t342 = true then (if x10 = 1 then (if x13 = 1 then (if x15 = 1 then (if (x9.length : Int) = 0 then (if x11.toList = ([] : List UInt8) then (if x12 = true then (some false) else (some (x14.toList == ([] : List UInt8)))) else (some false)) else (some false)) else (some false)) else (some false)) else (some false)) else (some false))) else (if x15 = 0 then ((clerestoryref1_TextUnder.f k x319000 x319001 x1).bind fun t343 => (clerestorylaw1_DomAsks.j2 k x1 x2 x9 x10 x11 x12 x13 (x14.toList != t343.toList) x319000 x319001)) else (clerestorylaw1_DomAsks.j2 k x1 x2 x9 x10 x11 x12 x13 true x319000 x319001))
def clerestorylaw1_DomAsks.j2 : Nat → Int → ByteArray → List Int → Int → ByteArray → Bool → Int → Bool → List (S43) → Bool → Option (Bool)
 | 0, _, _, _, _, _, _, _, _, _, _ => none
 | k + 1, x1, x2, x9, x10, x11, x12, x13, x148, x319000, x319001 => if x148 = true then (some false) else (if 0 ≤ x1 then (if x1 < (x319000.length : Int) then (if ((q01 x319000 x1).f0) = 2 then ((clerestoryref1_AttrOf.f k ((q01 x319000 x1).f2) x2).bind fun bt346 => (if x13 = 0 then (if x11.toList = bt346.1.toList then (if (x12 != bt346.2) = true then (some false) else (clerestorylaw1_DomAsks.j3 k x1 x9 x10 x319000 x319001)) else (some false)) else (some false))) else (if x13 = 7 then (if x11.toList = ([] : List UInt8) then (if x12 = true then (some false) else (clerestorylaw1_DomAsks.j3 k x1 x9 x10 x319000 x319001)) else (some false)) else (some false))) else (none)) else (none))
def clerestorylaw1_DomAsks.j3 : Nat → Int → List Int → Int → List (S43) → Bool → Option (Bool)
 | 0, _, _, _, _, _ => none
 | k + 1, x1, x9, x10, x319000, x319001 => (clerestoryref1_Under.f k x319000 x319001 x1 0).bind fun t348 => (if t348 = true then (if x10 = 0 then ((clerestoryref1_Deep.f k x319000 x319001 x1).bind fun t350 => (if (x9.length : Int) = (wrap64 (t350 + 1)) then (if 0 < (x9.length : Int) then (if (rd x9 0) = 0 then (if 0 ≤ (wrap64 ((x9.length : Int) - 1)) then (if (wrap64 ((x9.length : Int) - 1)) < (x9.length : Int) then (clerestorylaw1_DomAsks.j4 k x9 ((rd x9 (wrap64 ((x9.length : Int) - 1))) != x1) x319000 x319001) else (none)) else (none)) else (clerestorylaw1_DomAsks.j4 k x9 true x319000 x319001)) else (none)) else (clerestorylaw1_DomAsks.j4 k x9 true x319000 x319001))) else (clerestorylaw1_DomAsks.j4 k x9 true x319000 x319001)) else ((clerestorylaw1_domBegun.f k).bind fun t349 => (if t349 = true then (if x10 = 5 then (some ((x9.length : Int) == 0)) else (some false)) else (some false))))
def clerestorylaw1_DomAsks.j4 : Nat → List Int → Bool → List (S43) → Bool → Option (Bool)
 | 0, _, _, _, _ => none
 | k + 1, x9, x228, x319000, x319001 => if x228 = true then (some false) else (clerestorylaw1_DomAsks.l0 k x9 1 x319000 x319001)
def clerestorylaw1_DomAsks.l0 : Nat → List Int → Int → List (S43) → Bool → Option (Bool)
 | 0, _, _, _, _ => none
 | k + 1, x9, x19, x319000, x319001 => if x19 < (x9.length : Int) then (if 0 ≤ x19 then (if (rd x9 x19) < 0 then (some false) else (if (rd x9 x19) ≥ (x319000.length : Int) then (some false) else (if 0 ≤ (rd x9 x19) then (if (rd x9 x19) < (x319000.length : Int) then (if 0 ≤ (wrap64 (x19 - 1)) then (if (wrap64 (x19 - 1)) < (x9.length : Int) then (if ((q01 x319000 (rd x9 x19)).f4) = (rd x9 (wrap64 (x19 - 1))) then (clerestorylaw1_DomAsks.l0 k x9 (wrap64 (x19 + 1)) x319000 x319001) else (some false)) else (none)) else (none)) else (none)) else (none)))) else (none)) else ((clerestorylaw1_domBegun.f k).bind fun t358 => (some t358))
end
def clerestorylaw1_DomAsks.f (k : Nat) (l0_0 : List (S43)) (a0_1 : Bool) (a1 : Int) (a2 : ByteArray) : Option (Bool) := (clerestorylaw1_few.f l0_0 a0_1 60).bind fun bt319 => ((dom_Order.f k bt319.1 bt319.2).bind fun bt323 => ((dom_Path.f k bt319.1 bt319.2 a1).bind fun bt327 => ((dom_Attr.f k bt319.1 bt319.2 a1 a2).bind fun bt331 => ((dom_TextOf.f k bt319.1 bt319.2 a1).bind fun bt334 => ((clerestoryref1_DocErr.f k bt319.1 bt319.2).bind fun t336 => (if t336 = 0 then (if bt323.2 = 0 then ((clerestoryref1_Below.f k bt319.1 bt319.2 0).bind fun t338 => ((clerestoryref1_SameInts.f k bt323.1 t338).bind fun t341 => (clerestorylaw1_DomAsks.j0 k a1 a2 bt327.1 bt327.2 bt331.1 bt331.2.1 bt331.2.2 bt334.1 bt334.2 (!t341) bt319.1 bt319.2))) else (clerestorylaw1_DomAsks.j0 k a1 a2 bt327.1 bt327.2 bt331.1 bt331.2.1 bt331.2.2 bt334.1 bt334.2 true bt319.1 bt319.2)) else ((clerestorylaw1_domBegun.f k).bind fun t337 => (if t337 = true then (if bt323.2 = t336 then (if bt327.2 = t336 then (if bt331.2.2 = t336 then (if bt334.2 = t336 then (if (wrap64 ((bt323.1.length : Int) + (bt327.1.length : Int))) = 0 then (if bt331.1.toList = ([] : List UInt8) then (if bt331.2.1 = true then (some false) else (some (bt334.1.toList == ([] : List UInt8)))) else (some false)) else (some false)) else (some false)) else (some false)) else (some false)) else (some false)) else (some false)))))))))
theorem clerestorylaw1_DomAsks.mono_l : ∀ k, (∀ y0 y1 y2 y3 y4 y5 y6 y7 y8 y9 y10 y11, LeO (clerestorylaw1_DomAsks.j0 k y0 y1 y2 y3 y4 y5 y6 y7 y8 y9 y10 y11) (clerestorylaw1_DomAsks.j0 (k + 1) y0 y1 y2 y3 y4 y5 y6 y7 y8 y9 y10 y11)) ∧ (∀ y0 y1 y2 y3 y4 y5 y6 y7 y8 y9 y10 y11, LeO (clerestorylaw1_DomAsks.j1 k y0 y1 y2 y3 y4 y5 y6 y7 y8 y9 y10 y11) (clerestorylaw1_DomAsks.j1 (k + 1) y0 y1 y2 y3 y4 y5 y6 y7 y8 y9 y10 y11)) ∧ (∀ y0 y1 y2 y3 y4 y5 y6 y7 y8 y9, LeO (clerestorylaw1_DomAsks.j2 k y0 y1 y2 y3 y4 y5 y6 y7 y8 y9) (clerestorylaw1_DomAsks.j2 (k + 1) y0 y1 y2 y3 y4 y5 y6 y7 y8 y9)) ∧ (∀ y0 y1 y2 y3 y4, LeO (clerestorylaw1_DomAsks.j3 k y0 y1 y2 y3 y4) (clerestorylaw1_DomAsks.j3 (k + 1) y0 y1 y2 y3 y4)) ∧ (∀ y0 y1 y2 y3, LeO (clerestorylaw1_DomAsks.j4 k y0 y1 y2 y3) (clerestorylaw1_DomAsks.j4 (k + 1) y0 y1 y2 y3)) ∧ (∀ y0 y1 y2 y3, LeO (clerestorylaw1_DomAsks.l0 k y0 y1 y2 y3) (clerestorylaw1_DomAsks.l0 (k + 1) y0 y1 y2 y3))
 | 0 => ⟨fun _ _ _ _ _ _ _ _ _ _ _ _ r h => by simp [clerestorylaw1_DomAsks.j0] at h, fun _ _ _ _ _ _ _ _ _ _ _ _ r h => by simp [clerestorylaw1_DomAsks.j1] at h, fun _ _ _ _ _ _ _ _ _ _ r h => by simp [clerestorylaw1_DomAsks.j2] at h, fun _ _ _ _ _ r h => by simp [clerestorylaw1_DomAsks.j3] at h, fun _ _ _ _ r h => by simp [clerestorylaw1_DomAsks.j4] at h, fun _ _ _ _ r h => by simp [clerestorylaw1_DomAsks.l0] at h⟩
 | k + 1 => by
  obtain ⟨ih0, ih1, ih2, ih3, ih4, ih5⟩ := clerestorylaw1_DomAsks.mono_l k
  refine ⟨?_, ?_, ?_, ?_, ?_, ?_⟩
  all_goals intros
  all_goals (first | unfold clerestorylaw1_DomAsks.j0 | unfold clerestorylaw1_DomAsks.j1 | unfold clerestorylaw1_DomAsks.j2 | unfold clerestorylaw1_DomAsks.j3 | unfold clerestorylaw1_DomAsks.j4 | unfold clerestorylaw1_DomAsks.l0)
  all_goals (repeat' first | with_reducible first | apply ih0 | apply ih1 | apply ih2 | apply ih3 | apply ih4 | apply ih5 | apply clerestorylaw1_domBegun.mono | apply clerestoryref1_AttrOf.mono | apply clerestoryref1_Below.mono | apply clerestoryref1_Deep.mono | apply clerestoryref1_DocErr.mono | apply clerestoryref1_SameInts.mono | apply clerestoryref1_TextUnder.mono | apply clerestoryref1_Under.mono | apply dom_Attr.mono | apply dom_Order.mono | apply dom_Path.mono | apply dom_TextOf.mono | exact LeO.refl _ | exact LeO.none _ | refine LeO.ite ?_ ?_ | refine LeO.bind ?_ (fun _ => ?_) | (first | apply ih0 | apply ih1 | apply ih2 | apply ih3 | apply ih4 | apply ih5 | apply clerestorylaw1_domBegun.mono | apply clerestoryref1_AttrOf.mono | apply clerestoryref1_Below.mono | apply clerestoryref1_Deep.mono | apply clerestoryref1_DocErr.mono | apply clerestoryref1_SameInts.mono | apply clerestoryref1_TextUnder.mono | apply clerestoryref1_Under.mono | apply dom_Attr.mono | apply dom_Order.mono | apply dom_Path.mono | apply dom_TextOf.mono | exact LeO.none _ | refine LeO.ite ?_ ?_ | refine LeO.bind ?_ (fun _ => ?_)))
theorem clerestorylaw1_DomAsks.mono : ∀ a0 a1 a2 a3 k, LeO (clerestorylaw1_DomAsks.f k a0 a1 a2 a3) (clerestorylaw1_DomAsks.f (k + 1) a0 a1 a2 a3) := by
 intro a0 a1 a2 a3 k
 obtain ⟨ih0, ih1, ih2, ih3, ih4, ih5⟩ := clerestorylaw1_DomAsks.mono_l k
 unfold clerestorylaw1_DomAsks.f
 repeat' first | with_reducible first | apply ih0 | apply ih1 | apply ih2 | apply ih3 | apply ih4 | apply ih5 | apply clerestorylaw1_domBegun.mono | apply clerestoryref1_AttrOf.mono | apply clerestoryref1_Below.mono | apply clerestoryref1_Deep.mono | apply clerestoryref1_DocErr.mono | apply clerestoryref1_SameInts.mono | apply clerestoryref1_TextUnder.mono | apply clerestoryref1_Under.mono | apply dom_Attr.mono | apply dom_Order.mono | apply dom_Path.mono | apply dom_TextOf.mono | exact LeO.refl _ | exact LeO.none _ | refine LeO.ite ?_ ?_ | refine LeO.bind ?_ (fun _ => ?_) | (first | apply ih0 | apply ih1 | apply ih2 | apply ih3 | apply ih4 | apply ih5 | apply clerestorylaw1_domBegun.mono | apply clerestoryref1_AttrOf.mono | apply clerestoryref1_Below.mono | apply clerestoryref1_Deep.mono | apply clerestoryref1_DocErr.mono | apply clerestoryref1_SameInts.mono | apply clerestoryref1_TextUnder.mono | apply clerestoryref1_Under.mono | apply dom_Attr.mono | apply dom_Order.mono | apply dom_Path.mono | apply dom_TextOf.mono | exact LeO.none _ | refine LeO.ite ?_ ?_ | refine LeO.bind ?_ (fun _ => ?_))
set_option maxHeartbeats 8000000 in
set_option maxRecDepth 100000 in
theorem clerestorylaw1_DomAsks.calls (k : Nat) (A0_0 : Option Addr) (c0_0 : Nat) (l0_0 : List (S43)) (a0_1 : Bool) (a1 : Int) (a2 : ByteArray) (r : Bool) (w : World) (hr0_0 : Kd.C k43 w A0_0 l0_0.length l0_0) (hc0_0 : l0_0.length ≤ c0_0) (h : clerestorylaw1_DomAsks.f k l0_0 a0_1 a1 a2 = some r) :
 Calls Tryd.prog 13 #[.agg #[.slice A0_0 l0_0.length c0_0, .bool a0_1], .int .i64 a1, .string a2] w fun e w' => e = .returned (.bool r) ∧ Below w.heap.size w w' := by
 have hu24 := Tryd.underlying24
 have HR0_0 := aS hr0_0
 have HC0_0 := aS hc0_0
 clear hr0_0 hc0_0
 have HB := aS (Below.refl w.heap.size w)
 have H := h; clear h; unfold clerestorylaw1_DomAsks.f at H
 replace H := iB H
 obtain ⟨⟨t319, t322⟩, A4, H⟩ := H
 try dsimp only at H
 replace H := iB H
 obtain ⟨⟨t323, t326⟩, A5, H⟩ := H
 try dsimp only at H
 replace H := iB H
 obtain ⟨⟨t327, t330⟩, A6, H⟩ := H
 try dsimp only at H
 replace H := iB H
 obtain ⟨⟨t331, t332, t333⟩, A7, H⟩ := H
 try dsimp only at H
 replace H := iB H
 obtain ⟨⟨t334, t335⟩, A8, H⟩ := H
 try dsimp only at H
 replace H := iB H
 obtain ⟨t336, A9, H⟩ := H
 have HC0 := aS H
 clear H
 go_enter Tryd.func13, Tryd.ntmps13
 go_upto_if 50 with (first | ((with_reducible refine q05 (N := 3) rfl ?_); (try (refine q0i (by rfl) ?_; dsimp only)); refine box0 rfl (N := 3) rfl (cs := #[.slice A0_0 l0_0.length c0_0, .bool a0_1]) (t := 24) zh (z7 HB.out) ?_; clear HB; intro gb318 w12 BK318 GW318 HB; have GE318 := GW318; obtain ⟨hczL_0, hczL_1, hfzL_0, hfzL_1⟩ := bk2 BK318.out) | (go_at_call 15; (with_reducible refine (clerestorylaw1_few.calls (fun k_ => k_ < w.heap.size) _ _ l0_0 a0_1 60 t319 t322 _ ?side1 A4.out).mono ?_); (case side1 => exact Kd.V_mk HC0_0.out (Kd.F_below (Kd.C_F k43_heap HR0_0.out) (z6 HB.out GE318.out))); rintro e w14 ⟨v320, rfl, ho0, hb⟩; have HO321 := aS (Kd.V_lower (Kd.V_mono (ok' := fun k_ => k_ ≠ gb318) ho0 (fun k_ hk_ => Or.elim hk_ (fun hs_ => fun e_ => Nat.not_le.2 hs_ (by rw [e_]; exact GW318.out)) (fun hn_ => (Kd.freshB (g := gb318) (o := .cells #[.slice A0_0 l0_0.length c0_0, .bool a0_1] 24 (0, 0)) (za BK318.out) k_ hn_)))) (q06 (z6 HB.out GE318.out))); replace BK318 := aS (q02 (g := gb318) (o := .cells #[.slice A0_0 l0_0.length c0_0, .bool a0_1] 24 (0, 0)) (za BK318.out) hb); replace HB := aS (q00 (z6 HB.out GE318.out) hb); (try clear hb); (try clear hb2); (try clear hk); (try clear hi); (try clear ho0); obtain ⟨Ao15, co15, eo15⟩ := Kd.V_slice HO321.out; subst eo15; obtain ⟨hczL_0, hczL_1, hfzL_0, hfzL_1⟩ := bk2 BK318.out) | (go_at_call 59; (with_reducible refine (dom_Order.calls k _ _ t319 t322 t323 t326 _ ?side1 ?side2 A5.out).mono ?_); (case side1 => refine (Kd.V_reads' (e := 43) (base := w.heap.size) (ok := fun k_ => k_ ≠ gb318) (n := t319.length) (c := co15) ?_).2.2; exact (by (with_reducible repeat (first | apply vA | apply vN | apply vD)); exact (Kd.V_mono (Kd.V_far (p := ⟨gb318, 1, none⟩) (Kd.V_far (p := ⟨gb318, 0, none⟩) (Kd.V_mono HO321.out (fun k_ hk => (⟨hk, hk⟩ : _ ∧ k_ ≠ gb318))) (fun _ hk => hk.2) (.slice Ao15 t319.length co15)) (fun _ hk => hk.2) (.bool t322)) (fun _ h_ => h_.1)))); (case side2 => exact (Kd.V_reads' HO321.out).2.1); rintro e w17 ⟨v324, rfl, ho0, hb⟩; replace HO321 := aS (Kd.V_elder' (by (with_reducible repeat (first | apply vA | apply vN | apply vD)); exact (Kd.V_mono (Kd.V_far (p := ⟨gb318, 1, none⟩) (Kd.V_far (p := ⟨gb318, 0, none⟩) (Kd.V_mono HO321.out (fun k_ hk => (⟨hk, hk⟩ : _ ∧ k_ ≠ gb318))) (fun _ hk => hk.2) (.slice Ao15 t319.length co15)) (fun _ hk => hk.2) (.bool t322)) (fun _ h_ => h_.1))) (Kd.R_base ho0) hb); have HO325 := aS (Kd.R_lower ho0 (q06 (z6 HB.out GE318.out))); replace BK318 := aS (q02 (g := gb318) (o := .cells #[.slice Ao15 t319.length co15, .bool t322] 24 (0, 0)) (by (with_reducible repeat (first | refine kN ?_ _ | refine kD ?_ | refine kA ?_ _)); refine q0g (cs := #[.slice Ao15 t319.length co15, .bool a0_1]) ?_ 1 _ rfl; (with_reducible repeat (first | refine kN ?_ _ | refine kD ?_ | refine kA ?_ _)); refine q0g (cs := #[.slice A0_0 l0_0.length c0_0, .bool a0_1]) ?_ 0 _ rfl; (with_reducible repeat (first | refine kN ?_ _ | refine kD ?_ | refine kA ?_ _)); exact BK318.out) hb); replace HB := aS (q00 (z6 HB.out GE318.out) hb); (try clear hb); (try clear hb2); (try clear hk); (try clear hi); (try clear ho0); obtain ⟨hczL_0, hczL_1, hfzL_0, hfzL_1⟩ := bk2 BK318.out) | (go_at_call 60; (with_reducible refine (dom_Path.calls k _ _ t319 t322 a1 t327 t330 _ ?side1 ?side2 A6.out).mono ?_); (case side1 => repeat (first | exact (Kd.V_reads' HO321.out).2.2 | (with_reducible refine cA ?_ _) | (with_reducible refine cN ?_ _) | (with_reducible refine cD ?_))); (case side2 => exact (Kd.V_reads' HO321.out).2.1); rintro e w19 ⟨v328, rfl, ho0, hb⟩; have n0_ := aS (Kd.V_elder' (ze HO321.out) (Kd.R_base ho0) hb); have n1_ := aS (Kd.R_elder' (zf HO325.out) (Kd.R_base ho0) hb); have n2_ := aS (Kd.R_lower (Kd.R_new' ho0 (Kd.R_lt (zf HO325.out))) (q06 (z6 HB.out GE318.out))); have n3_ := aS (q02 (g := gb318) (o := .cells #[.slice Ao15 t319.length co15, .bool t322] 24 (0, 0)) (za BK318.out) hb); have n4_ := aS (q00 (z6 HB.out GE318.out) hb); clear HO321; clear HO325; clear BK318; clear HB; have HO321 := n0_; have HO325 := n1_; have HO329 := n2_; have BK318 := n3_; have HB := n4_; clear n0_ n1_ n2_ n3_ n4_; (try clear hb); (try clear hb2); (try clear hk); (try clear hi); (try clear ho0); obtain ⟨hczL_0, hczL_1, hfzL_0, hfzL_1⟩ := bk2 BK318.out) | (go_at_call 61; (with_reducible refine (dom_Attr.calls k _ _ t319 t322 a1 a2 t331 t332 t333 _ ?side1 ?side2 A7.out).mono ?_); (case side1 => repeat (first | exact (Kd.V_reads' HO321.out).2.2 | (with_reducible refine cA ?_ _) | (with_reducible refine cN ?_ _) | (with_reducible refine cD ?_))); (case side2 => exact (Kd.V_reads' HO321.out).2.1); rintro e w21 ⟨rfl, hb⟩; replace HO321 := aS (Kd.V_below (ze HO321.out) hb); replace HO325 := aS (Kd.R_below (zf HO325.out) hb); replace HO329 := aS (Kd.R_below (zf HO329.out) hb); replace BK318 := aS (q02 (g := gb318) (o := .cells #[.slice Ao15 t319.length co15, .bool t322] 24 (0, 0)) (za BK318.out) hb); replace HB := aS (q00 (z6 HB.out GE318.out) hb); (try clear hb); (try clear hb2); (try clear hk); (try clear hi); obtain ⟨hczL_0, hczL_1, hfzL_0, hfzL_1⟩ := bk2 BK318.out) | (go_at_call 62; (with_reducible refine (dom_TextOf.calls k _ _ t319 t322 a1 t334 t335 _ ?side1 ?side2 A8.out).mono ?_); (case side1 => repeat (first | exact (Kd.V_reads' HO321.out).2.2 | (with_reducible refine cA ?_ _) | (with_reducible refine cN ?_ _) | (with_reducible refine cD ?_))); (case side2 => exact (Kd.V_reads' HO321.out).2.1); rintro e w23 ⟨rfl, hb⟩; replace HO321 := aS (Kd.V_below (ze HO321.out) hb); replace HO325 := aS (Kd.R_below (zf HO325.out) hb); replace HO329 := aS (Kd.R_below (zf HO329.out) hb); replace BK318 := aS (q02 (g := gb318) (o := .cells #[.slice Ao15 t319.length co15, .bool t322] 24 (0, 0)) (za BK318.out) hb); replace HB := aS (q00 (z6 HB.out GE318.out) hb); (try clear hb); (try clear hb2); (try clear hk); (try clear hi); obtain ⟨hczL_0, hczL_1, hfzL_0, hfzL_1⟩ := bk2 BK318.out) | (go_at_call 17; (with_reducible refine (clerestoryref1_DocErr.calls k _ _ t319 t322 t336 _ ?side1 ?side2 A9.out).mono ?_); (case side1 => repeat (first | exact (Kd.V_reads' HO321.out).2.2 | (with_reducible refine cA ?_ _) | (with_reducible refine cN ?_ _) | (with_reducible refine cD ?_))); (case side2 => exact (Kd.V_reads' HO321.out).2.1); rintro e w25 ⟨rfl, hb⟩; replace HO321 := aS (Kd.V_below (ze HO321.out) hb); replace HO325 := aS (Kd.R_below (zf HO325.out) hb); replace HO329 := aS (Kd.R_below (zf HO329.out) hb); replace BK318 := aS (q02 (g := gb318) (o := .cells #[.slice Ao15 t319.length co15, .bool t322] 24 (0, 0)) (za BK318.out) hb); replace HB := aS (q00 (z6 HB.out GE318.out) hb); (try clear hb); (try clear hb2); (try clear hk); (try clear hi)))
 repeat (go_quiet (first | ((with_reducible refine q05 (N := 3) rfl ?_); (try (refine q0i (by rfl) ?_; dsimp only)); refine box0 rfl (N := 3) rfl (cs := #[.slice A0_0 l0_0.length c0_0, .bool a0_1]) (t := 24) zh (z7 HB.out) ?_; clear HB; intro gb318 w12 BK318 GW318 HB; have GE318 := GW318; obtain ⟨hczL_0, hczL_1, hfzL_0, hfzL_1⟩ := bk2 BK318.out) | (go_at_call 15; (with_reducible refine (clerestorylaw1_few.calls (fun k_ => k_ < w.heap.size) _ _ l0_0 a0_1 60 t319 t322 _ ?side1 A4.out).mono ?_); (case side1 => exact Kd.V_mk HC0_0.out (Kd.F_below (Kd.C_F k43_heap HR0_0.out) (z6 HB.out GE318.out))); rintro e w14 ⟨v320, rfl, ho0, hb⟩; have HO321 := aS (Kd.V_lower (Kd.V_mono (ok' := fun k_ => k_ ≠ gb318) ho0 (fun k_ hk_ => Or.elim hk_ (fun hs_ => fun e_ => Nat.not_le.2 hs_ (by rw [e_]; exact GW318.out)) (fun hn_ => (Kd.freshB (g := gb318) (o := .cells #[.slice A0_0 l0_0.length c0_0, .bool a0_1] 24 (0, 0)) (za BK318.out) k_ hn_)))) (q06 (z6 HB.out GE318.out))); replace BK318 := aS (q02 (g := gb318) (o := .cells #[.slice A0_0 l0_0.length c0_0, .bool a0_1] 24 (0, 0)) (za BK318.out) hb); replace HB := aS (q00 (z6 HB.out GE318.out) hb); (try clear hb); (try clear hb2); (try clear hk); (try clear hi); (try clear ho0); obtain ⟨Ao15, co15, eo15⟩ := Kd.V_slice HO321.out; subst eo15; obtain ⟨hczL_0, hczL_1, hfzL_0, hfzL_1⟩ := bk2 BK318.out) | (go_at_call 59; (with_reducible refine (dom_Order.calls k _ _ t319 t322 t323 t326 _ ?side1 ?side2 A5.out).mono ?_); (case side1 => refine (Kd.V_reads' (e := 43) (base := w.heap.size) (ok := fun k_ => k_ ≠ gb318) (n := t319.length) (c := co15) ?_).2.2; exact (by (with_reducible repeat (first | apply vA | apply vN | apply vD)); exact (Kd.V_mono (Kd.V_far (p := ⟨gb318, 1, none⟩) (Kd.V_far (p := ⟨gb318, 0, none⟩) (Kd.V_mono HO321.out (fun k_ hk => (⟨hk, hk⟩ : _ ∧ k_ ≠ gb318))) (fun _ hk => hk.2) (.slice Ao15 t319.length co15)) (fun _ hk => hk.2) (.bool t322)) (fun _ h_ => h_.1)))); (case side2 => exact (Kd.V_reads' HO321.out).2.1); rintro e w17 ⟨v324, rfl, ho0, hb⟩; replace HO321 := aS (Kd.V_elder' (by (with_reducible repeat (first | apply vA | apply vN | apply vD)); exact (Kd.V_mono (Kd.V_far (p := ⟨gb318, 1, none⟩) (Kd.V_far (p := ⟨gb318, 0, none⟩) (Kd.V_mono HO321.out (fun k_ hk => (⟨hk, hk⟩ : _ ∧ k_ ≠ gb318))) (fun _ hk => hk.2) (.slice Ao15 t319.length co15)) (fun _ hk => hk.2) (.bool t322)) (fun _ h_ => h_.1))) (Kd.R_base ho0) hb); have HO325 := aS (Kd.R_lower ho0 (q06 (z6 HB.out GE318.out))); replace BK318 := aS (q02 (g := gb318) (o := .cells #[.slice Ao15 t319.length co15, .bool t322] 24 (0, 0)) (by (with_reducible repeat (first | refine kN ?_ _ | refine kD ?_ | refine kA ?_ _)); refine q0g (cs := #[.slice Ao15 t319.length co15, .bool a0_1]) ?_ 1 _ rfl; (with_reducible repeat (first | refine kN ?_ _ | refine kD ?_ | refine kA ?_ _)); refine q0g (cs := #[.slice A0_0 l0_0.length c0_0, .bool a0_1]) ?_ 0 _ rfl; (with_reducible repeat (first | refine kN ?_ _ | refine kD ?_ | refine kA ?_ _)); exact BK318.out) hb); replace HB := aS (q00 (z6 HB.out GE318.out) hb); (try clear hb); (try clear hb2); (try clear hk); (try clear hi); (try clear ho0); obtain ⟨hczL_0, hczL_1, hfzL_0, hfzL_1⟩ := bk2 BK318.out) | (go_at_call 60; (with_reducible refine (dom_Path.calls k _ _ t319 t322 a1 t327 t330 _ ?side1 ?side2 A6.out).mono ?_); (case side1 => repeat (first | exact (Kd.V_reads' HO321.out).2.2 | (with_reducible refine cA ?_ _) | (with_reducible refine cN ?_ _) | (with_reducible refine cD ?_))); (case side2 => exact (Kd.V_reads' HO321.out).2.1); rintro e w19 ⟨v328, rfl, ho0, hb⟩; have n0_ := aS (Kd.V_elder' (ze HO321.out) (Kd.R_base ho0) hb); have n1_ := aS (Kd.R_elder' (zf HO325.out) (Kd.R_base ho0) hb); have n2_ := aS (Kd.R_lower (Kd.R_new' ho0 (Kd.R_lt (zf HO325.out))) (q06 (z6 HB.out GE318.out))); have n3_ := aS (q02 (g := gb318) (o := .cells #[.slice Ao15 t319.length co15, .bool t322] 24 (0, 0)) (za BK318.out) hb); have n4_ := aS (q00 (z6 HB.out GE318.out) hb); clear HO321; clear HO325; clear BK318; clear HB; have HO321 := n0_; have HO325 := n1_; have HO329 := n2_; have BK318 := n3_; have HB := n4_; clear n0_ n1_ n2_ n3_ n4_; (try clear hb); (try clear hb2); (try clear hk); (try clear hi); (try clear ho0); obtain ⟨hczL_0, hczL_1, hfzL_0, hfzL_1⟩ := bk2 BK318.out) | (go_at_call 61; (with_reducible refine (dom_Attr.calls k _ _ t319 t322 a1 a2 t331 t332 t333 _ ?side1 ?side2 A7.out).mono ?_); (case side1 => repeat (first | exact (Kd.V_reads' HO321.out).2.2 | (with_reducible refine cA ?_ _) | (with_reducible refine cN ?_ _) | (with_reducible refine cD ?_))); (case side2 => exact (Kd.V_reads' HO321.out).2.1); rintro e w21 ⟨rfl, hb⟩; replace HO321 := aS (Kd.V_below (ze HO321.out) hb); replace HO325 := aS (Kd.R_below (zf HO325.out) hb); replace HO329 := aS (Kd.R_below (zf HO329.out) hb); replace BK318 := aS (q02 (g := gb318) (o := .cells #[.slice Ao15 t319.length co15, .bool t322] 24 (0, 0)) (za BK318.out) hb); replace HB := aS (q00 (z6 HB.out GE318.out) hb); (try clear hb); (try clear hb2); (try clear hk); (try clear hi); obtain ⟨hczL_0, hczL_1, hfzL_0, hfzL_1⟩ := bk2 BK318.out) | (go_at_call 62; (with_reducible refine (dom_TextOf.calls k _ _ t319 t322 a1 t334 t335 _ ?side1 ?side2 A8.out).mono ?_); (case side1 => repeat (first | exact (Kd.V_reads' HO321.out).2.2 | (with_reducible refine cA ?_ _) | (with_reducible refine cN ?_ _) | (with_reducible refine cD ?_))); (case side2 => exact (Kd.V_reads' HO321.out).2.1); rintro e w23 ⟨rfl, hb⟩; replace HO321 := aS (Kd.V_below (ze HO321.out) hb); replace HO325 := aS (Kd.R_below (zf HO325.out) hb); replace HO329 := aS (Kd.R_below (zf HO329.out) hb); replace BK318 := aS (q02 (g := gb318) (o := .cells #[.slice Ao15 t319.length co15, .bool t322] 24 (0, 0)) (za BK318.out) hb); replace HB := aS (q00 (z6 HB.out GE318.out) hb); (try clear hb); (try clear hb2); (try clear hk); (try clear hi); obtain ⟨hczL_0, hczL_1, hfzL_0, hfzL_1⟩ := bk2 BK318.out) | (go_at_call 17; (with_reducible refine (clerestoryref1_DocErr.calls k _ _ t319 t322 t336 _ ?side1 ?side2 A9.out).mono ?_); (case side1 => repeat (first | exact (Kd.V_reads' HO321.out).2.2 | (with_reducible refine cA ?_ _) | (with_reducible refine cN ?_ _) | (with_reducible refine cD ?_))); (case side2 => exact (Kd.V_reads' HO321.out).2.1); rintro e w25 ⟨rfl, hb⟩; replace HO321 := aS (Kd.V_below (ze HO321.out) hb); replace HO325 := aS (Kd.R_below (zf HO325.out) hb); replace HO329 := aS (Kd.R_below (zf HO329.out) hb); replace BK318 := aS (q02 (g := gb318) (o := .cells #[.slice Ao15 t319.length co15, .bool t322] 24 (0, 0)) (za BK318.out) hb); replace HB := aS (q00 (z6 HB.out GE318.out) hb); (try clear hb); (try clear hb2); (try clear hk); (try clear hi))); go_upto_if 50 with (first | ((with_reducible refine q05 (N := 3) rfl ?_); (try (refine q0i (by rfl) ?_; dsimp only)); refine box0 rfl (N := 3) rfl (cs := #[.slice A0_0 l0_0.length c0_0, .bool a0_1]) (t := 24) zh (z7 HB.out) ?_; clear HB; intro gb318 w12 BK318 GW318 HB; have GE318 := GW318; obtain ⟨hczL_0, hczL_1, hfzL_0, hfzL_1⟩ := bk2 BK318.out) | (go_at_call 15; (with_reducible refine (clerestorylaw1_few.calls (fun k_ => k_ < w.heap.size) _ _ l0_0 a0_1 60 t319 t322 _ ?side1 A4.out).mono ?_); (case side1 => exact Kd.V_mk HC0_0.out (Kd.F_below (Kd.C_F k43_heap HR0_0.out) (z6 HB.out GE318.out))); rintro e w14 ⟨v320, rfl, ho0, hb⟩; have HO321 := aS (Kd.V_lower (Kd.V_mono (ok' := fun k_ => k_ ≠ gb318) ho0 (fun k_ hk_ => Or.elim hk_ (fun hs_ => fun e_ => Nat.not_le.2 hs_ (by rw [e_]; exact GW318.out)) (fun hn_ => (Kd.freshB (g := gb318) (o := .cells #[.slice A0_0 l0_0.length c0_0, .bool a0_1] 24 (0, 0)) (za BK318.out) k_ hn_)))) (q06 (z6 HB.out GE318.out))); replace BK318 := aS (q02 (g := gb318) (o := .cells #[.slice A0_0 l0_0.length c0_0, .bool a0_1] 24 (0, 0)) (za BK318.out) hb); replace HB := aS (q00 (z6 HB.out GE318.out) hb); (try clear hb); (try clear hb2); (try clear hk); (try clear hi); (try clear ho0); obtain ⟨Ao15, co15, eo15⟩ := Kd.V_slice HO321.out; subst eo15; obtain ⟨hczL_0, hczL_1, hfzL_0, hfzL_1⟩ := bk2 BK318.out) | (go_at_call 59; (with_reducible refine (dom_Order.calls k _ _ t319 t322 t323 t326 _ ?side1 ?side2 A5.out).mono ?_); (case side1 => refine (Kd.V_reads' (e := 43) (base := w.heap.size) (ok := fun k_ => k_ ≠ gb318) (n := t319.length) (c := co15) ?_).2.2; exact (by (with_reducible repeat (first | apply vA | apply vN | apply vD)); exact (Kd.V_mono (Kd.V_far (p := ⟨gb318, 1, none⟩) (Kd.V_far (p := ⟨gb318, 0, none⟩) (Kd.V_mono HO321.out (fun k_ hk => (⟨hk, hk⟩ : _ ∧ k_ ≠ gb318))) (fun _ hk => hk.2) (.slice Ao15 t319.length co15)) (fun _ hk => hk.2) (.bool t322)) (fun _ h_ => h_.1)))); (case side2 => exact (Kd.V_reads' HO321.out).2.1); rintro e w17 ⟨v324, rfl, ho0, hb⟩; replace HO321 := aS (Kd.V_elder' (by (with_reducible repeat (first | apply vA | apply vN | apply vD)); exact (Kd.V_mono (Kd.V_far (p := ⟨gb318, 1, none⟩) (Kd.V_far (p := ⟨gb318, 0, none⟩) (Kd.V_mono HO321.out (fun k_ hk => (⟨hk, hk⟩ : _ ∧ k_ ≠ gb318))) (fun _ hk => hk.2) (.slice Ao15 t319.length co15)) (fun _ hk => hk.2) (.bool t322)) (fun _ h_ => h_.1))) (Kd.R_base ho0) hb); have HO325 := aS (Kd.R_lower ho0 (q06 (z6 HB.out GE318.out))); replace BK318 := aS (q02 (g := gb318) (o := .cells #[.slice Ao15 t319.length co15, .bool t322] 24 (0, 0)) (by (with_reducible repeat (first | refine kN ?_ _ | refine kD ?_ | refine kA ?_ _)); refine q0g (cs := #[.slice Ao15 t319.length co15, .bool a0_1]) ?_ 1 _ rfl; (with_reducible repeat (first | refine kN ?_ _ | refine kD ?_ | refine kA ?_ _)); refine q0g (cs := #[.slice A0_0 l0_0.length c0_0, .bool a0_1]) ?_ 0 _ rfl; (with_reducible repeat (first | refine kN ?_ _ | refine kD ?_ | refine kA ?_ _)); exact BK318.out) hb); replace HB := aS (q00 (z6 HB.out GE318.out) hb); (try clear hb); (try clear hb2); (try clear hk); (try clear hi); (try clear ho0); obtain ⟨hczL_0, hczL_1, hfzL_0, hfzL_1⟩ := bk2 BK318.out) | (go_at_call 60; (with_reducible refine (dom_Path.calls k _ _ t319 t322 a1 t327 t330 _ ?side1 ?side2 A6.out).mono ?_); (case side1 => repeat (first | exact (Kd.V_reads' HO321.out).2.2 | (with_reducible refine cA ?_ _) | (with_reducible refine cN ?_ _) | (with_reducible refine cD ?_))); (case side2 => exact (Kd.V_reads' HO321.out).2.1); rintro e w19 ⟨v328, rfl, ho0, hb⟩; have n0_ := aS (Kd.V_elder' (ze HO321.out) (Kd.R_base ho0) hb); have n1_ := aS (Kd.R_elder' (zf HO325.out) (Kd.R_base ho0) hb); have n2_ := aS (Kd.R_lower (Kd.R_new' ho0 (Kd.R_lt (zf HO325.out))) (q06 (z6 HB.out GE318.out))); have n3_ := aS (q02 (g := gb318) (o := .cells #[.slice Ao15 t319.length co15, .bool t322] 24 (0, 0)) (za BK318.out) hb); have n4_ := aS (q00 (z6 HB.out GE318.out) hb); clear HO321; clear HO325; clear BK318; clear HB; have HO321 := n0_; have HO325 := n1_; have HO329 := n2_; have BK318 := n3_; have HB := n4_; clear n0_ n1_ n2_ n3_ n4_; (try clear hb); (try clear hb2); (try clear hk); (try clear hi); (try clear ho0); obtain ⟨hczL_0, hczL_1, hfzL_0, hfzL_1⟩ := bk2 BK318.out) | (go_at_call 61; (with_reducible refine (dom_Attr.calls k _ _ t319 t322 a1 a2 t331 t332 t333 _ ?side1 ?side2 A7.out).mono ?_); (case side1 => repeat (first | exact (Kd.V_reads' HO321.out).2.2 | (with_reducible refine cA ?_ _) | (with_reducible refine cN ?_ _) | (with_reducible refine cD ?_))); (case side2 => exact (Kd.V_reads' HO321.out).2.1); rintro e w21 ⟨rfl, hb⟩; replace HO321 := aS (Kd.V_below (ze HO321.out) hb); replace HO325 := aS (Kd.R_below (zf HO325.out) hb); replace HO329 := aS (Kd.R_below (zf HO329.out) hb); replace BK318 := aS (q02 (g := gb318) (o := .cells #[.slice Ao15 t319.length co15, .bool t322] 24 (0, 0)) (za BK318.out) hb); replace HB := aS (q00 (z6 HB.out GE318.out) hb); (try clear hb); (try clear hb2); (try clear hk); (try clear hi); obtain ⟨hczL_0, hczL_1, hfzL_0, hfzL_1⟩ := bk2 BK318.out) | (go_at_call 62; (with_reducible refine (dom_TextOf.calls k _ _ t319 t322 a1 t334 t335 _ ?side1 ?side2 A8.out).mono ?_); (case side1 => repeat (first | exact (Kd.V_reads' HO321.out).2.2 | (with_reducible refine cA ?_ _) | (with_reducible refine cN ?_ _) | (with_reducible refine cD ?_))); (case side2 => exact (Kd.V_reads' HO321.out).2.1); rintro e w23 ⟨rfl, hb⟩; replace HO321 := aS (Kd.V_below (ze HO321.out) hb); replace HO325 := aS (Kd.R_below (zf HO325.out) hb); replace HO329 := aS (Kd.R_below (zf HO329.out) hb); replace BK318 := aS (q02 (g := gb318) (o := .cells #[.slice Ao15 t319.length co15, .bool t322] 24 (0, 0)) (za BK318.out) hb); replace HB := aS (q00 (z6 HB.out GE318.out) hb); (try clear hb); (try clear hb2); (try clear hk); (try clear hi); obtain ⟨hczL_0, hczL_1, hfzL_0, hfzL_1⟩ := bk2 BK318.out) | (go_at_call 17; (with_reducible refine (clerestoryref1_DocErr.calls k _ _ t319 t322 t336 _ ?side1 ?side2 A9.out).mono ?_); (case side1 => repeat (first | exact (Kd.V_reads' HO321.out).2.2 | (with_reducible refine cA ?_ _) | (with_reducible refine cN ?_ _) | (with_reducible refine cD ?_))); (case side2 => exact (Kd.V_reads' HO321.out).2.1); rintro e w25 ⟨rfl, hb⟩; replace HO321 := aS (Kd.V_below (ze HO321.out) hb); replace HO325 := aS (Kd.R_below (zf HO325.out) hb); replace HO329 := aS (Kd.R_below (zf HO329.out) hb); replace BK318 := aS (q02 (g := gb318) (o := .cells #[.slice Ao15 t319.length co15, .bool t322] 24 (0, 0)) (za BK318.out) hb); replace HB := aS (q00 (z6 HB.out GE318.out) hb); (try clear hb); (try clear hb2); (try clear hk); (try clear hi))))
 have H := HC0.out
 clear HC0
 refine iE H ?p10 ?n10 <;> clear H
 case' p10 => intro c10b0 c10b1 H
 case' n10 => intro c10 c10b0 c10b1 H; replace H := iB H; obtain ⟨t337, A136, H⟩ := H; refine iV H ?p137 ?n137 <;> clear H
 case' p137 => intro c137 H; subst c137; refine iE H ?p138 ?n138 <;> clear H
 case' p138 => intro c138b0 c138b1 H; refine iE H ?p139 ?n139 <;> clear H
 case' p139 => intro c139b0 c139b1 H; refine iE H ?p140 ?n140 <;> clear H
 case' p140 => intro c140b0 c140b1 H; refine iE H ?p141 ?n141 <;> clear H
 case' p141 => intro c141b0 c141b1 H; refine iE H ?p142 ?n142 <;> clear H
 case' p142 => intro c142b0 c142b1 H; refine iE H ?p143 ?n143 <;> clear H
 case' p143 => intro c143b0 c143b1 H; refine iV H ?p144 ?n144 <;> clear H
 case' p144 => intro c144 H; subst c144
 case' n144 => intro c144 H; subst c144
 case' n143 => intro c143 c143b0 c143b1 H
 case' n142 => intro c142 c142b0 c142b1 H
 case' n141 => intro c141 c141b0 c141b1 H
 case' n140 => intro c140 c140b0 c140b1 H
 case' n139 => intro c139 c139b0 c139b1 H
 case' n138 => intro c138 c138b0 c138b1 H
 case' n137 => intro c137 H; subst c137
 case p10 =>
  have HC11 := aS H
  clear H
  refine wp_cond (t := (t336 != 0)) rfl ?_
  rw [c10b1, if_neg Bool.false_ne_true]
  go_upto_region 9 with (fail)
  repeat (go_quiet (fail); go_upto_region 9 with (fail))
  (try simp only [Act.put, s1, s2, s3])
  go_cut [100] (fun v100 wc => ∃ (kq : Nat) (x100_10 : Bool), v100 = .bool x100_10 ∧ Aside0 (clerestorylaw1_DomAsks.j0 kq a1 a2 t327 t330 t331 t332 t333 t334 t335 x100_10 t319 t322 = some r) ∧ Aside0 (kq ≤ k) ∧ Aside0 (Kd.R (Kd.int .i64) 3 wc w.heap.size (fun _ => True) v328 t327) ∧ Aside0 (Kd.V k43 43 wc w.heap.size (fun k_ => some k_ ≠ (v328 : Value).ownBlock ∧ k_ ≠ gb318) (.slice Ao15 t319.length co15) t319) ∧ Aside0 (wc.heap[gb318]? = some (.cells #[(.slice Ao15 t319.length co15), .bool t322] 24 (0, 0))) ∧ Aside0 (Below w.heap.size w wc))
  case first =>
   have H := HC11.out
   clear HC11
   refine iE H ?p26 ?n26 <;> clear H
   case' p26 => intro c26b0 c26b1 H
   case' n26 => intro c26 c26b0 c26b1 H
   case p26 =>
    (first | rw [c26b0] | (simp only [q0d, q0f]; rw [c26b0]) | skip)
    replace H := iB H
    obtain ⟨t338, A27, H⟩ := H
    replace H := iB H
    obtain ⟨t341, A28, H⟩ := H
    have H' := aS H
    clear H
    obtain ⟨hczL_0, hczL_1, hfzL_0, hfzL_1⟩ := bk2 BK318.out
    go_wp2_with (first | (go_at_call 25; (with_reducible refine (clerestoryref1_Below.calls k _ _ t319 t322 0 t338 _ ?side1 ?side2 A27.out).mono ?_); (case side1 => repeat (first | exact (Kd.V_reads' HO321.out).2.2 | (with_reducible refine cA ?_ _) | (with_reducible refine cN ?_ _) | (with_reducible refine cD ?_))); (case side2 => exact (Kd.V_reads' HO321.out).2.1); rintro e w30 ⟨v339, rfl, ho0, hb⟩; have n0_ := aS (Kd.V_elder' (ze HO321.out) (Kd.R_base ho0) hb); have n1_ := aS (Kd.R_elder' (zf HO325.out) (Kd.R_base ho0) hb); have n2_ := aS (Kd.R_elder' (zf HO329.out) (Kd.R_base ho0) hb); have n3_ := aS (Kd.R_lower (Kd.R_new' (Kd.R_new' ho0 (Kd.R_lt (zf HO325.out))) (Kd.R_lt (zf HO329.out))) (q06 (z6 HB.out GE318.out))); have n4_ := aS (q02 (g := gb318) (o := .cells #[.slice Ao15 t319.length co15, .bool t322] 24 (0, 0)) (za BK318.out) hb); have n5_ := aS (q00 (z6 HB.out GE318.out) hb); clear HO321; clear HO325; clear HO329; clear BK318; clear HB; have HO321 := n0_; have HO325 := n1_; have HO329 := n2_; have HO340 := n3_; have BK318 := n4_; have HB := n5_; clear n0_ n1_ n2_ n3_ n4_ n5_; (try clear hb); (try clear hb2); (try clear hk); (try clear hi); (try clear ho0); obtain ⟨Ao31, co31, eo31⟩ := Kd.R_slice HO325.out; subst eo31; obtain ⟨Ao32, co32, eo32⟩ := Kd.R_slice HO340.out; subst eo32) | (go_at_call 30; (with_reducible refine (clerestoryref1_SameInts.calls k _ _ t323 _ _ t338 t341 _ ?side1 ?side2 ?side3 ?side4 A28.out).mono ?_); (case side1 => repeat (first | exact (Kd.R_reads' HO325.out).2.2 | (with_reducible refine cA ?_ _) | (with_reducible refine cN ?_ _) | (with_reducible refine cD ?_))); (case side2 => exact (Kd.R_reads' HO325.out).2.1); (case side3 => repeat (first | exact (Kd.R_reads' HO340.out).2.2 | (with_reducible refine cA ?_ _) | (with_reducible refine cN ?_ _) | (with_reducible refine cD ?_))); (case side4 => exact (Kd.R_reads' HO340.out).2.1); rintro e w' ⟨rfl, ⟨nd, rfl⟩⟩; (try first | exact ⟨rfl, _, World.drewN_drewN _ _ _⟩ | exact ⟨rfl, _, Eq.trans (World.drewN_drewN _ _ _) (congrArg (World.drewN _) (Nat.add_assoc _ _ _))⟩)))
    repeat (go_quiet (first | (go_at_call 25; (with_reducible refine (clerestoryref1_Below.calls k _ _ t319 t322 0 t338 _ ?side1 ?side2 A27.out).mono ?_); (case side1 => repeat (first | exact (Kd.V_reads' HO321.out).2.2 | (with_reducible refine cA ?_ _) | (with_reducible refine cN ?_ _) | (with_reducible refine cD ?_))); (case side2 => exact (Kd.V_reads' HO321.out).2.1); rintro e w30 ⟨v339, rfl, ho0, hb⟩; have n0_ := aS (Kd.V_elder' (ze HO321.out) (Kd.R_base ho0) hb); have n1_ := aS (Kd.R_elder' (zf HO325.out) (Kd.R_base ho0) hb); have n2_ := aS (Kd.R_elder' (zf HO329.out) (Kd.R_base ho0) hb); have n3_ := aS (Kd.R_lower (Kd.R_new' (Kd.R_new' ho0 (Kd.R_lt (zf HO325.out))) (Kd.R_lt (zf HO329.out))) (q06 (z6 HB.out GE318.out))); have n4_ := aS (q02 (g := gb318) (o := .cells #[.slice Ao15 t319.length co15, .bool t322] 24 (0, 0)) (za BK318.out) hb); have n5_ := aS (q00 (z6 HB.out GE318.out) hb); clear HO321; clear HO325; clear HO329; clear BK318; clear HB; have HO321 := n0_; have HO325 := n1_; have HO329 := n2_; have HO340 := n3_; have BK318 := n4_; have HB := n5_; clear n0_ n1_ n2_ n3_ n4_ n5_; (try clear hb); (try clear hb2); (try clear hk); (try clear hi); (try clear ho0); obtain ⟨Ao31, co31, eo31⟩ := Kd.R_slice HO325.out; subst eo31; obtain ⟨Ao32, co32, eo32⟩ := Kd.R_slice HO340.out; subst eo32) | (go_at_call 30; (with_reducible refine (clerestoryref1_SameInts.calls k _ _ t323 _ _ t338 t341 _ ?side1 ?side2 ?side3 ?side4 A28.out).mono ?_); (case side1 => repeat (first | exact (Kd.R_reads' HO325.out).2.2 | (with_reducible refine cA ?_ _) | (with_reducible refine cN ?_ _) | (with_reducible refine cD ?_))); (case side2 => exact (Kd.R_reads' HO325.out).2.1); (case side3 => repeat (first | exact (Kd.R_reads' HO340.out).2.2 | (with_reducible refine cA ?_ _) | (with_reducible refine cN ?_ _) | (with_reducible refine cD ?_))); (case side4 => exact (Kd.R_reads' HO340.out).2.1); rintro e w' ⟨rfl, ⟨nd, rfl⟩⟩; (try first | exact ⟨rfl, _, World.drewN_drewN _ _ _⟩ | exact ⟨rfl, _, Eq.trans (World.drewN_drewN _ _ _) (congrArg (World.drewN _) (Nat.add_assoc _ _ _))⟩))); try go_wp2_with (first | (go_at_call 25; (with_reducible refine (clerestoryref1_Below.calls k _ _ t319 t322 0 t338 _ ?side1 ?side2 A27.out).mono ?_); (case side1 => repeat (first | exact (Kd.V_reads' HO321.out).2.2 | (with_reducible refine cA ?_ _) | (with_reducible refine cN ?_ _) | (with_reducible refine cD ?_))); (case side2 => exact (Kd.V_reads' HO321.out).2.1); rintro e w30 ⟨v339, rfl, ho0, hb⟩; have n0_ := aS (Kd.V_elder' (ze HO321.out) (Kd.R_base ho0) hb); have n1_ := aS (Kd.R_elder' (zf HO325.out) (Kd.R_base ho0) hb); have n2_ := aS (Kd.R_elder' (zf HO329.out) (Kd.R_base ho0) hb); have n3_ := aS (Kd.R_lower (Kd.R_new' (Kd.R_new' ho0 (Kd.R_lt (zf HO325.out))) (Kd.R_lt (zf HO329.out))) (q06 (z6 HB.out GE318.out))); have n4_ := aS (q02 (g := gb318) (o := .cells #[.slice Ao15 t319.length co15, .bool t322] 24 (0, 0)) (za BK318.out) hb); have n5_ := aS (q00 (z6 HB.out GE318.out) hb); clear HO321; clear HO325; clear HO329; clear BK318; clear HB; have HO321 := n0_; have HO325 := n1_; have HO329 := n2_; have HO340 := n3_; have BK318 := n4_; have HB := n5_; clear n0_ n1_ n2_ n3_ n4_ n5_; (try clear hb); (try clear hb2); (try clear hk); (try clear hi); (try clear ho0); obtain ⟨Ao31, co31, eo31⟩ := Kd.R_slice HO325.out; subst eo31; obtain ⟨Ao32, co32, eo32⟩ := Kd.R_slice HO340.out; subst eo32) | (go_at_call 30; (with_reducible refine (clerestoryref1_SameInts.calls k _ _ t323 _ _ t338 t341 _ ?side1 ?side2 ?side3 ?side4 A28.out).mono ?_); (case side1 => repeat (first | exact (Kd.R_reads' HO325.out).2.2 | (with_reducible refine cA ?_ _) | (with_reducible refine cN ?_ _) | (with_reducible refine cD ?_))); (case side2 => exact (Kd.R_reads' HO325.out).2.1); (case side3 => repeat (first | exact (Kd.R_reads' HO340.out).2.2 | (with_reducible refine cA ?_ _) | (with_reducible refine cN ?_ _) | (with_reducible refine cD ?_))); (case side4 => exact (Kd.R_reads' HO340.out).2.1); rintro e w' ⟨rfl, ⟨nd, rfl⟩⟩; (try first | exact ⟨rfl, _, World.drewN_drewN _ _ _⟩ | exact ⟨rfl, _, Eq.trans (World.drewN_drewN _ _ _) (congrArg (World.drewN _) (Nat.add_assoc _ _ _))⟩))))
    go_meet
    case rel => exact ⟨_, (!t341), zi, H', ⟨by first | omega | exact Nat.le_refl _⟩, ⟨by (with_reducible repeat (first | apply rA | apply rN | apply rD)); exact Kd.R_mono HO329.out (fun _ hk => trivial)⟩, ⟨by (with_reducible repeat (first | apply vA | apply vN | apply vD)); exact Kd.V_mono HO321.out (fun _ hk => ⟨hk.1.2, hk.1.1.1⟩)⟩, ⟨by (with_reducible repeat (first | refine kN ?_ _ | refine kD ?_ | refine kA ?_ _)); exact BK318.out⟩, ⟨by repeat (first | (with_reducible first | exact HB.out | apply bA | apply bN | apply bD | refine bS ?_ GE318.out) | exact HB.out)⟩⟩
   case n26 =>
    (first | rw [c26b0] | (simp only [q0d, q0f]; rw [c26b0]) | skip)
    have H' := aS H
    clear H
    go_wp2
    repeat (go_quiet (fail); try go_wp2)
    go_meet
    case rel => exact ⟨_, _, zi, H', ⟨by first | omega | exact Nat.le_refl _⟩, ⟨by (with_reducible repeat (first | apply rA | apply rN | apply rD)); exact Kd.R_mono HO329.out (fun _ hk => trivial)⟩, ⟨by (with_reducible repeat (first | apply vA | apply vN | apply vD)); exact Kd.V_mono HO321.out (fun _ hk => ⟨hk.2, hk.1.1⟩)⟩, ⟨by (with_reducible repeat (first | refine kN ?_ _ | refine kD ?_ | refine kA ?_ _)); exact BK318.out⟩, ⟨by repeat (first | (with_reducible first | exact HB.out | apply bA | apply bN | apply bD | refine bS ?_ GE318.out) | exact HB.out)⟩⟩
  case rest =>
   as_aux_lemma =>
    clear HC11
    obtain ⟨kq, x100_10, rfl, HA, HJ10, HO_9, HO_319000, BK318, HB⟩ := hcut
    cases kq with
    | zero => exact absurd HA.out (by simp [clerestorylaw1_DomAsks.j0])
    | succ kj10 =>
     have H := HA.out
     clear HA
     simp only [clerestorylaw1_DomAsks.j0] at H
     refine iV H ?p33 ?n33 <;> clear H
     case' p33 => intro c33 H; subst c33
     case' n33 => intro c33 H; subst c33
     case p33 =>
      obtain rfl := Option.some.inj H
      go_wp2
      repeat (go_quiet (fail); try go_wp2)
      go_ret
      exact ⟨by first | rfl | (simp [q04, q03] <;> rfl) | (simp [*, q04, q03] <;> rfl), by repeat (first | (with_reducible first | exact HB.out | apply bA | apply bN | apply bD | refine bS ?_ GE318.out) | exact HB.out)⟩
     case n33 =>
      have HC34 := aS H
      clear H
      go_upto_region 11 with (fail)
      repeat (go_quiet (fail); go_upto_region 11 with (fail))
      go_cut [109] (fun v109 wc => ∃ (kq : Nat) (x109_33 : Bool), v109 = .bool x109_33 ∧ Aside0 (clerestorylaw1_DomAsks.j1 kq a1 a2 t327 t330 t331 t332 t333 t334 t335 x109_33 t319 t322 = some r) ∧ Aside0 (kq ≤ kj10) ∧ Aside0 (Kd.R (Kd.int .i64) 3 wc w.heap.size (fun _ => True) v328 t327) ∧ Aside0 (Kd.V k43 43 wc w.heap.size (fun k_ => some k_ ≠ (v328 : Value).ownBlock ∧ k_ ≠ gb318) (.slice Ao15 t319.length co15) t319) ∧ Aside0 (wc.heap[gb318]? = some (.cells #[(.slice Ao15 t319.length co15), .bool t322] 24 (0, 0))) ∧ Aside0 (Below w.heap.size w wc))
      case first =>
       have H := HC34.out
       clear HC34
       refine iT H ?p35 ?n35 <;> clear H
       case' p35 => intro c35b0 H
       case' n35 => intro c35b0 H
       case p35 =>
        (first | rw [c35b0] | (simp only [q0d, q0f]; rw [c35b0]) | skip)
        have H' := aS H
        clear H
        go_wp2
        repeat (go_quiet (fail); try go_wp2)
        go_meet
        case rel => exact ⟨_, _, zi, H', ⟨by have := HJ10.out; first | omega | exact Nat.le_refl _⟩, ⟨by (with_reducible repeat (first | apply rA | apply rN | apply rD)); exact HO_9.out⟩, ⟨by (with_reducible repeat (first | apply vA | apply vN | apply vD)); exact HO_319000.out⟩, ⟨by (with_reducible repeat (first | refine kN ?_ _ | refine kD ?_ | refine kA ?_ _)); exact BK318.out⟩, ⟨by repeat (first | (with_reducible first | exact HB.out | apply bA | apply bN | apply bD | refine bS ?_ GE318.out) | exact HB.out)⟩⟩
       case n35 =>
        (first | rw [c35b0] | (simp only [q0d, q0f]; rw [c35b0]) | skip)
        have H' := aS H
        clear H
        obtain ⟨hczL_0, hczL_1, hfzL_0, hfzL_1⟩ := bk2 BK318.out
        go_wp2
        repeat (go_quiet (fail); try go_wp2)
        go_meet
        case rel => exact ⟨_, (decide (a1 ≥ (t319.length : Int))), zi, H', ⟨by have := HJ10.out; first | omega | exact Nat.le_refl _⟩, ⟨by (with_reducible repeat (first | apply rA | apply rN | apply rD)); exact HO_9.out⟩, ⟨by (with_reducible repeat (first | apply vA | apply vN | apply vD)); exact HO_319000.out⟩, ⟨by (with_reducible repeat (first | refine kN ?_ _ | refine kD ?_ | refine kA ?_ _)); exact BK318.out⟩, ⟨by repeat (first | (with_reducible first | exact HB.out | apply bA | apply bN | apply bD | refine bS ?_ GE318.out) | exact HB.out)⟩⟩
      case rest =>
       as_aux_lemma =>
        clear HC34
        obtain ⟨kq, x109_33, rfl, HA, HJ33, HO_9, HO_319000, BK318, HB⟩ := hcut
        cases kq with
        | zero => exact absurd HA.out (by simp [clerestorylaw1_DomAsks.j1])
        | succ kj33 =>
         have H := HA.out
         clear HA
         simp only [clerestorylaw1_DomAsks.j1] at H
         refine iV H ?p37 ?n37 <;> clear H
         case' p37 => intro c37 H; subst c37; replace H := iB H; obtain ⟨t342, A38, H⟩ := H; refine iV H ?p39 ?n39 <;> clear H
         case' p39 => intro c39 H; subst c39; refine iE H ?p40 ?n40 <;> clear H
         case' p40 => intro c40b0 c40b1 H; refine iE H ?p41 ?n41 <;> clear H
         case' p41 => intro c41b0 c41b1 H; refine iE H ?p42 ?n42 <;> clear H
         case' p42 => intro c42b0 c42b1 H; refine iG H ?p43 ?n43 <;> clear H
         case' p43 => intro c43 H; have c43b0 : ((t327.length : Int) == 0) = true := beq_iff_eq.mpr c43; have c43b1 : ((t327.length : Int) != 0) = false := bne_eq_false_iff_eq.mpr c43; clear c43; refine iE H ?p44 ?n44 <;> clear H
         case' p44 => intro c44b0 c44b1 H; refine iV H ?p45 ?n45 <;> clear H
         case' p45 => intro c45 H; subst c45
         case' n45 => intro c45 H; subst c45
         case' n44 => intro c44 c44b0 c44b1 H
         case' n43 => intro c43 H; have c43b0 : ((t327.length : Int) == 0) = false := beq_eq_false_iff_ne.mpr c43; have c43b1 : ((t327.length : Int) != 0) = true := bne_iff_ne.mpr c43; have c43b2 : ¬ (t327 = []) := fun h_ => c43 (by rw [h_]; rfl)
         case' n42 => intro c42 c42b0 c42b1 H
         case' n41 => intro c41 c41b0 c41b1 H
         case' n40 => intro c40 c40b0 c40b1 H
         case' n39 => intro c39 H; subst c39
         case' n37 => intro c37 H; subst c37
         case p45 =>
          obtain rfl := Option.some.inj H
          go_wp2_with (first | (go_at_call 51; (with_reducible refine (clerestorylaw1_domBegun.calls kj33  true _ A38.out).mono ?_); rintro e w46 ⟨rfl, hb⟩; replace HO_9 := aS (Kd.R_below (zf HO_9.out) hb); replace HO_319000 := aS (Kd.V_below (ze HO_319000.out) hb); replace BK318 := aS (q02 (g := gb318) (o := .cells #[.slice Ao15 t319.length co15, .bool t322] 24 (0, 0)) (za BK318.out) hb); replace HB := aS (q00 (z6 HB.out GE318.out) hb); (try clear hb); (try clear hb2); (try clear hk); (try clear hi); obtain ⟨Ao47, co47, eo47⟩ := Kd.R_slice HO_9.out; subst eo47))
          repeat (go_quiet (first | (go_at_call 51; (with_reducible refine (clerestorylaw1_domBegun.calls kj33  true _ A38.out).mono ?_); rintro e w46 ⟨rfl, hb⟩; replace HO_9 := aS (Kd.R_below (zf HO_9.out) hb); replace HO_319000 := aS (Kd.V_below (ze HO_319000.out) hb); replace BK318 := aS (q02 (g := gb318) (o := .cells #[.slice Ao15 t319.length co15, .bool t322] 24 (0, 0)) (za BK318.out) hb); replace HB := aS (q00 (z6 HB.out GE318.out) hb); (try clear hb); (try clear hb2); (try clear hk); (try clear hi); obtain ⟨Ao47, co47, eo47⟩ := Kd.R_slice HO_9.out; subst eo47)); try go_wp2_with (first | (go_at_call 51; (with_reducible refine (clerestorylaw1_domBegun.calls kj33  true _ A38.out).mono ?_); rintro e w46 ⟨rfl, hb⟩; replace HO_9 := aS (Kd.R_below (zf HO_9.out) hb); replace HO_319000 := aS (Kd.V_below (ze HO_319000.out) hb); replace BK318 := aS (q02 (g := gb318) (o := .cells #[.slice Ao15 t319.length co15, .bool t322] 24 (0, 0)) (za BK318.out) hb); replace HB := aS (q00 (z6 HB.out GE318.out) hb); (try clear hb); (try clear hb2); (try clear hk); (try clear hi); obtain ⟨Ao47, co47, eo47⟩ := Kd.R_slice HO_9.out; subst eo47)))
          go_ret
          exact ⟨by first | rfl | (simp [q04, q03] <;> rfl) | (simp [*, q04, q03] <;> rfl), by repeat (first | (with_reducible first | exact HB.out | apply bA | apply bN | apply bD | refine bS ?_ GE318.out) | exact HB.out)⟩
         case n45 =>
          obtain rfl := Option.some.inj H
          go_wp2_with (first | (go_at_call 51; (with_reducible refine (clerestorylaw1_domBegun.calls kj33  true _ A38.out).mono ?_); rintro e w48 ⟨rfl, hb⟩; replace HO_9 := aS (Kd.R_below (zf HO_9.out) hb); replace HO_319000 := aS (Kd.V_below (ze HO_319000.out) hb); replace BK318 := aS (q02 (g := gb318) (o := .cells #[.slice Ao15 t319.length co15, .bool t322] 24 (0, 0)) (za BK318.out) hb); replace HB := aS (q00 (z6 HB.out GE318.out) hb); (try clear hb); (try clear hb2); (try clear hk); (try clear hi); obtain ⟨Ao49, co49, eo49⟩ := Kd.R_slice HO_9.out; subst eo49))
          repeat (go_quiet (first | (go_at_call 51; (with_reducible refine (clerestorylaw1_domBegun.calls kj33  true _ A38.out).mono ?_); rintro e w48 ⟨rfl, hb⟩; replace HO_9 := aS (Kd.R_below (zf HO_9.out) hb); replace HO_319000 := aS (Kd.V_below (ze HO_319000.out) hb); replace BK318 := aS (q02 (g := gb318) (o := .cells #[.slice Ao15 t319.length co15, .bool t322] 24 (0, 0)) (za BK318.out) hb); replace HB := aS (q00 (z6 HB.out GE318.out) hb); (try clear hb); (try clear hb2); (try clear hk); (try clear hi); obtain ⟨Ao49, co49, eo49⟩ := Kd.R_slice HO_9.out; subst eo49)); try go_wp2_with (first | (go_at_call 51; (with_reducible refine (clerestorylaw1_domBegun.calls kj33  true _ A38.out).mono ?_); rintro e w48 ⟨rfl, hb⟩; replace HO_9 := aS (Kd.R_below (zf HO_9.out) hb); replace HO_319000 := aS (Kd.V_below (ze HO_319000.out) hb); replace BK318 := aS (q02 (g := gb318) (o := .cells #[.slice Ao15 t319.length co15, .bool t322] 24 (0, 0)) (za BK318.out) hb); replace HB := aS (q00 (z6 HB.out GE318.out) hb); (try clear hb); (try clear hb2); (try clear hk); (try clear hi); obtain ⟨Ao49, co49, eo49⟩ := Kd.R_slice HO_9.out; subst eo49)))
          go_ret
          exact ⟨by first | rfl | (simp [q04, q03] <;> rfl) | (simp [*, q04, q03] <;> rfl), by repeat (first | (with_reducible first | exact HB.out | apply bA | apply bN | apply bD | refine bS ?_ GE318.out) | exact HB.out)⟩
         case n44 =>
          obtain rfl := Option.some.inj H
          go_wp2_with (first | (go_at_call 51; (with_reducible refine (clerestorylaw1_domBegun.calls kj33  true _ A38.out).mono ?_); rintro e w50 ⟨rfl, hb⟩; replace HO_9 := aS (Kd.R_below (zf HO_9.out) hb); replace HO_319000 := aS (Kd.V_below (ze HO_319000.out) hb); replace BK318 := aS (q02 (g := gb318) (o := .cells #[.slice Ao15 t319.length co15, .bool t322] 24 (0, 0)) (za BK318.out) hb); replace HB := aS (q00 (z6 HB.out GE318.out) hb); (try clear hb); (try clear hb2); (try clear hk); (try clear hi); obtain ⟨Ao51, co51, eo51⟩ := Kd.R_slice HO_9.out; subst eo51))
          repeat (go_quiet (first | (go_at_call 51; (with_reducible refine (clerestorylaw1_domBegun.calls kj33  true _ A38.out).mono ?_); rintro e w50 ⟨rfl, hb⟩; replace HO_9 := aS (Kd.R_below (zf HO_9.out) hb); replace HO_319000 := aS (Kd.V_below (ze HO_319000.out) hb); replace BK318 := aS (q02 (g := gb318) (o := .cells #[.slice Ao15 t319.length co15, .bool t322] 24 (0, 0)) (za BK318.out) hb); replace HB := aS (q00 (z6 HB.out GE318.out) hb); (try clear hb); (try clear hb2); (try clear hk); (try clear hi); obtain ⟨Ao51, co51, eo51⟩ := Kd.R_slice HO_9.out; subst eo51)); try go_wp2_with (first | (go_at_call 51; (with_reducible refine (clerestorylaw1_domBegun.calls kj33  true _ A38.out).mono ?_); rintro e w50 ⟨rfl, hb⟩; replace HO_9 := aS (Kd.R_below (zf HO_9.out) hb); replace HO_319000 := aS (Kd.V_below (ze HO_319000.out) hb); replace BK318 := aS (q02 (g := gb318) (o := .cells #[.slice Ao15 t319.length co15, .bool t322] 24 (0, 0)) (za BK318.out) hb); replace HB := aS (q00 (z6 HB.out GE318.out) hb); (try clear hb); (try clear hb2); (try clear hk); (try clear hi); obtain ⟨Ao51, co51, eo51⟩ := Kd.R_slice HO_9.out; subst eo51)))
          go_ret
          exact ⟨by first | rfl | (simp [q04, q03] <;> rfl) | (simp [*, q04, q03] <;> rfl), by repeat (first | (with_reducible first | exact HB.out | apply bA | apply bN | apply bD | refine bS ?_ GE318.out) | exact HB.out)⟩
         case n43 =>
          obtain rfl := Option.some.inj H
          go_wp2_with (first | (go_at_call 51; (with_reducible refine (clerestorylaw1_domBegun.calls kj33  true _ A38.out).mono ?_); rintro e w52 ⟨rfl, hb⟩; replace HO_9 := aS (Kd.R_below (zf HO_9.out) hb); replace HO_319000 := aS (Kd.V_below (ze HO_319000.out) hb); replace BK318 := aS (q02 (g := gb318) (o := .cells #[.slice Ao15 t319.length co15, .bool t322] 24 (0, 0)) (za BK318.out) hb); replace HB := aS (q00 (z6 HB.out GE318.out) hb); (try clear hb); (try clear hb2); (try clear hk); (try clear hi); obtain ⟨Ao53, co53, eo53⟩ := Kd.R_slice HO_9.out; subst eo53))
          repeat (go_quiet (first | (go_at_call 51; (with_reducible refine (clerestorylaw1_domBegun.calls kj33  true _ A38.out).mono ?_); rintro e w52 ⟨rfl, hb⟩; replace HO_9 := aS (Kd.R_below (zf HO_9.out) hb); replace HO_319000 := aS (Kd.V_below (ze HO_319000.out) hb); replace BK318 := aS (q02 (g := gb318) (o := .cells #[.slice Ao15 t319.length co15, .bool t322] 24 (0, 0)) (za BK318.out) hb); replace HB := aS (q00 (z6 HB.out GE318.out) hb); (try clear hb); (try clear hb2); (try clear hk); (try clear hi); obtain ⟨Ao53, co53, eo53⟩ := Kd.R_slice HO_9.out; subst eo53)); try go_wp2_with (first | (go_at_call 51; (with_reducible refine (clerestorylaw1_domBegun.calls kj33  true _ A38.out).mono ?_); rintro e w52 ⟨rfl, hb⟩; replace HO_9 := aS (Kd.R_below (zf HO_9.out) hb); replace HO_319000 := aS (Kd.V_below (ze HO_319000.out) hb); replace BK318 := aS (q02 (g := gb318) (o := .cells #[.slice Ao15 t319.length co15, .bool t322] 24 (0, 0)) (za BK318.out) hb); replace HB := aS (q00 (z6 HB.out GE318.out) hb); (try clear hb); (try clear hb2); (try clear hk); (try clear hi); obtain ⟨Ao53, co53, eo53⟩ := Kd.R_slice HO_9.out; subst eo53)))
          go_ret
          exact ⟨by first | rfl | (simp [q04, q03] <;> rfl) | (simp [*, q04, q03] <;> rfl), by repeat (first | (with_reducible first | exact HB.out | apply bA | apply bN | apply bD | refine bS ?_ GE318.out) | exact HB.out)⟩
         case n42 =>
          obtain rfl := Option.some.inj H
          go_wp2_with (first | (go_at_call 51; (with_reducible refine (clerestorylaw1_domBegun.calls kj33  true _ A38.out).mono ?_); rintro e w54 ⟨rfl, hb⟩; replace HO_9 := aS (Kd.R_below (zf HO_9.out) hb); replace HO_319000 := aS (Kd.V_below (ze HO_319000.out) hb); replace BK318 := aS (q02 (g := gb318) (o := .cells #[.slice Ao15 t319.length co15, .bool t322] 24 (0, 0)) (za BK318.out) hb); replace HB := aS (q00 (z6 HB.out GE318.out) hb); (try clear hb); (try clear hb2); (try clear hk); (try clear hi)))
          repeat (go_quiet (first | (go_at_call 51; (with_reducible refine (clerestorylaw1_domBegun.calls kj33  true _ A38.out).mono ?_); rintro e w54 ⟨rfl, hb⟩; replace HO_9 := aS (Kd.R_below (zf HO_9.out) hb); replace HO_319000 := aS (Kd.V_below (ze HO_319000.out) hb); replace BK318 := aS (q02 (g := gb318) (o := .cells #[.slice Ao15 t319.length co15, .bool t322] 24 (0, 0)) (za BK318.out) hb); replace HB := aS (q00 (z6 HB.out GE318.out) hb); (try clear hb); (try clear hb2); (try clear hk); (try clear hi))); try go_wp2_with (first | (go_at_call 51; (with_reducible refine (clerestorylaw1_domBegun.calls kj33  true _ A38.out).mono ?_); rintro e w54 ⟨rfl, hb⟩; replace HO_9 := aS (Kd.R_below (zf HO_9.out) hb); replace HO_319000 := aS (Kd.V_below (ze HO_319000.out) hb); replace BK318 := aS (q02 (g := gb318) (o := .cells #[.slice Ao15 t319.length co15, .bool t322] 24 (0, 0)) (za BK318.out) hb); replace HB := aS (q00 (z6 HB.out GE318.out) hb); (try clear hb); (try clear hb2); (try clear hk); (try clear hi))))
          go_ret
          exact ⟨by first | rfl | (simp [q04, q03] <;> rfl) | (simp [*, q04, q03] <;> rfl), by repeat (first | (with_reducible first | exact HB.out | apply bA | apply bN | apply bD | refine bS ?_ GE318.out) | exact HB.out)⟩
         case n41 =>
          obtain rfl := Option.some.inj H
          go_wp2_with (first | (go_at_call 51; (with_reducible refine (clerestorylaw1_domBegun.calls kj33  true _ A38.out).mono ?_); rintro e w55 ⟨rfl, hb⟩; replace HO_9 := aS (Kd.R_below (zf HO_9.out) hb); replace HO_319000 := aS (Kd.V_below (ze HO_319000.out) hb); replace BK318 := aS (q02 (g := gb318) (o := .cells #[.slice Ao15 t319.length co15, .bool t322] 24 (0, 0)) (za BK318.out) hb); replace HB := aS (q00 (z6 HB.out GE318.out) hb); (try clear hb); (try clear hb2); (try clear hk); (try clear hi)))
          repeat (go_quiet (first | (go_at_call 51; (with_reducible refine (clerestorylaw1_domBegun.calls kj33  true _ A38.out).mono ?_); rintro e w55 ⟨rfl, hb⟩; replace HO_9 := aS (Kd.R_below (zf HO_9.out) hb); replace HO_319000 := aS (Kd.V_below (ze HO_319000.out) hb); replace BK318 := aS (q02 (g := gb318) (o := .cells #[.slice Ao15 t319.length co15, .bool t322] 24 (0, 0)) (za BK318.out) hb); replace HB := aS (q00 (z6 HB.out GE318.out) hb); (try clear hb); (try clear hb2); (try clear hk); (try clear hi))); try go_wp2_with (first | (go_at_call 51; (with_reducible refine (clerestorylaw1_domBegun.calls kj33  true _ A38.out).mono ?_); rintro e w55 ⟨rfl, hb⟩; replace HO_9 := aS (Kd.R_below (zf HO_9.out) hb); replace HO_319000 := aS (Kd.V_below (ze HO_319000.out) hb); replace BK318 := aS (q02 (g := gb318) (o := .cells #[.slice Ao15 t319.length co15, .bool t322] 24 (0, 0)) (za BK318.out) hb); replace HB := aS (q00 (z6 HB.out GE318.out) hb); (try clear hb); (try clear hb2); (try clear hk); (try clear hi))))
          go_ret
          exact ⟨by first | rfl | (simp [q04, q03] <;> rfl) | (simp [*, q04, q03] <;> rfl), by repeat (first | (with_reducible first | exact HB.out | apply bA | apply bN | apply bD | refine bS ?_ GE318.out) | exact HB.out)⟩
         case n40 =>
          obtain rfl := Option.some.inj H
          go_wp2_with (first | (go_at_call 51; (with_reducible refine (clerestorylaw1_domBegun.calls kj33  true _ A38.out).mono ?_); rintro e w56 ⟨rfl, hb⟩; replace HO_9 := aS (Kd.R_below (zf HO_9.out) hb); replace HO_319000 := aS (Kd.V_below (ze HO_319000.out) hb); replace BK318 := aS (q02 (g := gb318) (o := .cells #[.slice Ao15 t319.length co15, .bool t322] 24 (0, 0)) (za BK318.out) hb); replace HB := aS (q00 (z6 HB.out GE318.out) hb); (try clear hb); (try clear hb2); (try clear hk); (try clear hi)))
          repeat (go_quiet (first | (go_at_call 51; (with_reducible refine (clerestorylaw1_domBegun.calls kj33  true _ A38.out).mono ?_); rintro e w56 ⟨rfl, hb⟩; replace HO_9 := aS (Kd.R_below (zf HO_9.out) hb); replace HO_319000 := aS (Kd.V_below (ze HO_319000.out) hb); replace BK318 := aS (q02 (g := gb318) (o := .cells #[.slice Ao15 t319.length co15, .bool t322] 24 (0, 0)) (za BK318.out) hb); replace HB := aS (q00 (z6 HB.out GE318.out) hb); (try clear hb); (try clear hb2); (try clear hk); (try clear hi))); try go_wp2_with (first | (go_at_call 51; (with_reducible refine (clerestorylaw1_domBegun.calls kj33  true _ A38.out).mono ?_); rintro e w56 ⟨rfl, hb⟩; replace HO_9 := aS (Kd.R_below (zf HO_9.out) hb); replace HO_319000 := aS (Kd.V_below (ze HO_319000.out) hb); replace BK318 := aS (q02 (g := gb318) (o := .cells #[.slice Ao15 t319.length co15, .bool t322] 24 (0, 0)) (za BK318.out) hb); replace HB := aS (q00 (z6 HB.out GE318.out) hb); (try clear hb); (try clear hb2); (try clear hk); (try clear hi))))
          go_ret
          exact ⟨by first | rfl | (simp [q04, q03] <;> rfl) | (simp [*, q04, q03] <;> rfl), by repeat (first | (with_reducible first | exact HB.out | apply bA | apply bN | apply bD | refine bS ?_ GE318.out) | exact HB.out)⟩
         case n39 =>
          obtain rfl := Option.some.inj H
          go_wp2_with (first | (go_at_call 51; (with_reducible refine (clerestorylaw1_domBegun.calls kj33  false _ A38.out).mono ?_); rintro e w57 ⟨rfl, hb⟩; replace HO_9 := aS (Kd.R_below (zf HO_9.out) hb); replace HO_319000 := aS (Kd.V_below (ze HO_319000.out) hb); replace BK318 := aS (q02 (g := gb318) (o := .cells #[.slice Ao15 t319.length co15, .bool t322] 24 (0, 0)) (za BK318.out) hb); replace HB := aS (q00 (z6 HB.out GE318.out) hb); (try clear hb); (try clear hb2); (try clear hk); (try clear hi)))
          repeat (go_quiet (first | (go_at_call 51; (with_reducible refine (clerestorylaw1_domBegun.calls kj33  false _ A38.out).mono ?_); rintro e w57 ⟨rfl, hb⟩; replace HO_9 := aS (Kd.R_below (zf HO_9.out) hb); replace HO_319000 := aS (Kd.V_below (ze HO_319000.out) hb); replace BK318 := aS (q02 (g := gb318) (o := .cells #[.slice Ao15 t319.length co15, .bool t322] 24 (0, 0)) (za BK318.out) hb); replace HB := aS (q00 (z6 HB.out GE318.out) hb); (try clear hb); (try clear hb2); (try clear hk); (try clear hi))); try go_wp2_with (first | (go_at_call 51; (with_reducible refine (clerestorylaw1_domBegun.calls kj33  false _ A38.out).mono ?_); rintro e w57 ⟨rfl, hb⟩; replace HO_9 := aS (Kd.R_below (zf HO_9.out) hb); replace HO_319000 := aS (Kd.V_below (ze HO_319000.out) hb); replace BK318 := aS (q02 (g := gb318) (o := .cells #[.slice Ao15 t319.length co15, .bool t322] 24 (0, 0)) (za BK318.out) hb); replace HB := aS (q00 (z6 HB.out GE318.out) hb); (try clear hb); (try clear hb2); (try clear hk); (try clear hi))))
          go_ret
          exact ⟨by first | rfl | (simp [q04, q03] <;> rfl) | (simp [*, q04, q03] <;> rfl), by repeat (first | (with_reducible first | exact HB.out | apply bA | apply bN | apply bD | refine bS ?_ GE318.out) | exact HB.out)⟩
         case n37 =>
          have HC58 := aS H
          clear H
          go_upto_region 13 with (fail)
          repeat (go_quiet (fail); go_upto_region 13 with (fail))
          go_cut [148] (fun v148 wc => ∃ (kq : Nat) (x148_57 : Bool), v148 = .bool x148_57 ∧ Aside0 (clerestorylaw1_DomAsks.j2 kq a1 a2 t327 t330 t331 t332 t333 x148_57 t319 t322 = some r) ∧ Aside0 (kq ≤ kj33) ∧ Aside0 (Kd.R (Kd.int .i64) 3 wc w.heap.size (fun _ => True) v328 t327) ∧ Aside0 (Kd.V k43 43 wc w.heap.size (fun k_ => some k_ ≠ (v328 : Value).ownBlock ∧ k_ ≠ gb318) (.slice Ao15 t319.length co15) t319) ∧ Aside0 (wc.heap[gb318]? = some (.cells #[(.slice Ao15 t319.length co15), .bool t322] 24 (0, 0))) ∧ Aside0 (Below w.heap.size w wc))
          case first =>
           have H := HC58.out
           clear HC58
           refine iE H ?p59 ?n59 <;> clear H
           case' p59 => intro c59b0 c59b1 H
           case' n59 => intro c59 c59b0 c59b1 H
           case p59 =>
            (first | rw [c59b0] | (simp only [q0d, q0f]; rw [c59b0]) | skip)
            replace H := iB H
            obtain ⟨t343, A60, H⟩ := H
            have H' := aS H
            clear H
            obtain ⟨hczL_0, hczL_1, hfzL_0, hfzL_1⟩ := bk2 BK318.out
            go_wp2_with (first | (go_at_call 63; (with_reducible refine (clerestoryref1_TextUnder.calls kj33 _ _ t319 t322 a1 t343 _ ?side1 ?side2 A60.out).mono ?_); (case side1 => repeat (first | exact (Kd.V_reads' HO_319000.out).2.2 | (with_reducible refine cA ?_ _) | (with_reducible refine cN ?_ _) | (with_reducible refine cD ?_))); (case side2 => exact (Kd.V_reads' HO_319000.out).2.1); rintro e w62 ⟨rfl, hb⟩; replace HO_9 := aS (Kd.R_below (zf HO_9.out) hb); replace HO_319000 := aS (Kd.V_below (ze HO_319000.out) hb); replace BK318 := aS (q02 (g := gb318) (o := .cells #[.slice Ao15 t319.length co15, .bool t322] 24 (0, 0)) (za BK318.out) hb); replace HB := aS (q00 (z6 HB.out GE318.out) hb); (try clear hb); (try clear hb2); (try clear hk); (try clear hi)))
            repeat (go_quiet (first | (go_at_call 63; (with_reducible refine (clerestoryref1_TextUnder.calls kj33 _ _ t319 t322 a1 t343 _ ?side1 ?side2 A60.out).mono ?_); (case side1 => repeat (first | exact (Kd.V_reads' HO_319000.out).2.2 | (with_reducible refine cA ?_ _) | (with_reducible refine cN ?_ _) | (with_reducible refine cD ?_))); (case side2 => exact (Kd.V_reads' HO_319000.out).2.1); rintro e w62 ⟨rfl, hb⟩; replace HO_9 := aS (Kd.R_below (zf HO_9.out) hb); replace HO_319000 := aS (Kd.V_below (ze HO_319000.out) hb); replace BK318 := aS (q02 (g := gb318) (o := .cells #[.slice Ao15 t319.length co15, .bool t322] 24 (0, 0)) (za BK318.out) hb); replace HB := aS (q00 (z6 HB.out GE318.out) hb); (try clear hb); (try clear hb2); (try clear hk); (try clear hi))); try go_wp2_with (first | (go_at_call 63; (with_reducible refine (clerestoryref1_TextUnder.calls kj33 _ _ t319 t322 a1 t343 _ ?side1 ?side2 A60.out).mono ?_); (case side1 => repeat (first | exact (Kd.V_reads' HO_319000.out).2.2 | (with_reducible refine cA ?_ _) | (with_reducible refine cN ?_ _) | (with_reducible refine cD ?_))); (case side2 => exact (Kd.V_reads' HO_319000.out).2.1); rintro e w62 ⟨rfl, hb⟩; replace HO_9 := aS (Kd.R_below (zf HO_9.out) hb); replace HO_319000 := aS (Kd.V_below (ze HO_319000.out) hb); replace BK318 := aS (q02 (g := gb318) (o := .cells #[.slice Ao15 t319.length co15, .bool t322] 24 (0, 0)) (za BK318.out) hb); replace HB := aS (q00 (z6 HB.out GE318.out) hb); (try clear hb); (try clear hb2); (try clear hk); (try clear hi))))
            go_meet
            case rel => exact ⟨_, _, zi, H', ⟨by have := HJ10.out; have := HJ33.out; first | omega | exact Nat.le_refl _⟩, ⟨by (with_reducible repeat (first | apply rA | apply rN | apply rD)); exact HO_9.out⟩, ⟨by (with_reducible repeat (first | apply vA | apply vN | apply vD)); exact HO_319000.out⟩, ⟨by (with_reducible repeat (first | refine kN ?_ _ | refine kD ?_ | refine kA ?_ _)); exact BK318.out⟩, ⟨by repeat (first | (with_reducible first | exact HB.out | apply bA | apply bN | apply bD | refine bS ?_ GE318.out) | exact HB.out)⟩⟩
           case n59 =>
            (first | rw [c59b0] | (simp only [q0d, q0f]; rw [c59b0]) | skip)
            have H' := aS H
            clear H
            go_wp2
            repeat (go_quiet (fail); try go_wp2)
            go_meet
            case rel => exact ⟨_, _, zi, H', ⟨by have := HJ10.out; have := HJ33.out; first | omega | exact Nat.le_refl _⟩, ⟨by (with_reducible repeat (first | apply rA | apply rN | apply rD)); exact HO_9.out⟩, ⟨by (with_reducible repeat (first | apply vA | apply vN | apply vD)); exact HO_319000.out⟩, ⟨by (with_reducible repeat (first | refine kN ?_ _ | refine kD ?_ | refine kA ?_ _)); exact BK318.out⟩, ⟨by repeat (first | (with_reducible first | exact HB.out | apply bA | apply bN | apply bD | refine bS ?_ GE318.out) | exact HB.out)⟩⟩
          case rest =>
           as_aux_lemma =>
            clear HC58
            obtain ⟨kq, x148_57, rfl, HA, HJ57, HO_9, HO_319000, BK318, HB⟩ := hcut
            cases kq with
            | zero => exact absurd HA.out (by simp [clerestorylaw1_DomAsks.j2])
            | succ kj57 =>
             have H := HA.out
             clear HA
             simp only [clerestorylaw1_DomAsks.j2] at H
             refine iV H ?p63 ?n63 <;> clear H
             case' p63 => intro c63 H; subst c63
             case' n63 => intro c63 H; subst c63; refine iLp H ?_; clear H; intro c64b0 H; refine iTp H ?_; clear H; intro c65b0 H
             case p63 =>
              obtain rfl := Option.some.inj H
              go_wp2
              repeat (go_quiet (fail); try go_wp2)
              go_ret
              exact ⟨by first | rfl | (simp [q04, q03] <;> rfl) | (simp [*, q04, q03] <;> rfl), by repeat (first | (with_reducible first | exact HB.out | apply bA | apply bN | apply bD | refine bS ?_ GE318.out) | exact HB.out)⟩
             case n63 =>
              have HC66 := aS H
              clear H
              obtain ⟨hczL_0, hczL_1, hfzL_0, hfzL_1⟩ := bk2 BK318.out
              have p344 : 0 ≤ (a1 : Int) := od zb
              have q344 : a1 < (t319.length : Int) := od zb
              obtain ⟨ad344, A344_2, c344_2, A344_5, c344_5, e344, hx344_0, hx344_1, hx344_2, hx344_3, hx344_4, hx344_5, hl344_2, hi344_2, hl344_5, hi344_5⟩ := at_T43 (Kd.V_reads' HO_319000.out).2.2 a1 p344 q344
              cases e344
              obtain ⟨ce344, hce344, hMe344, hcc344⟩ := Kd.V_get HO_319000.out z43 a1 p344 (by first | exact q344 | exact od zb | (have e_ := (Kd.V_reads' HO_319000.out).1; omega))
              obtain ⟨ua344_2, uc344_2, ua344_5, uc344_5, rfl, ul344_2, ge344_2, ul344_5, ge344_5⟩ := k43_openF hMe344
              have hv344_2 := hcc344 2 _ rfl
              rw [q0l _ _ 2 (by omega)] at hv344_2
              replace hv344_2 := Option.some.inj (hv344_2.symm.trans hx344_2)
              injection hv344_2 with hva_ hvn_ hvc_
              rw [hva_] at ge344_2
              rw [hvc_] at ul344_2
              have HL344_2 := aS (show Kd.V k122 122 _ w.heap.size _ _ ((q01 t319 a1).f2) from Kd.V_mk ul344_2 ge344_2)
              clear hva_ hvn_ hvc_ ge344_2 ul344_2
              have hv344_5 := hcc344 5 _ rfl
              rw [q0l _ _ 5 (by omega)] at hv344_5
              replace hv344_5 := Option.some.inj (hv344_5.symm.trans hx344_5)
              injection hv344_5 with hva_ hvn_ hvc_
              rw [hva_] at ge344_5
              rw [hvc_] at ul344_5
              have HL344_5 := aS (show Kd.V (Kd.int .i64) 3 _ w.heap.size _ _ ((q01 t319 a1).f5) from Kd.V_mk ul344_5 ge344_5)
              clear hva_ hvn_ hvc_ ge344_5 ul344_5
              clear hcc344 hce344
              have HR344_2 := aS hi344_2
              have HC344_2 := aS hl344_2
              clear hi344_2 hl344_2
              have HR344_5 := aS hi344_5
              have HC344_5 := aS hl344_5
              clear hi344_5 hl344_5
              replace p344 := eq_true p344
              replace q344 := eq_true q344
              go_upto_if 155 with (fail)
              repeat (go_quiet (fail); go_upto_if 155 with (fail))
              go_cut [] (fun wc => ∃ (kq : Nat), Aside0 (clerestorylaw1_DomAsks.j3 kq a1 t327 t330 t319 t322 = some r) ∧ Aside0 (kq ≤ kj57) ∧ Aside0 (Kd.R (Kd.int .i64) 3 wc w.heap.size (fun _ => True) v328 t327) ∧ Aside0 (Kd.V k43 43 wc w.heap.size (fun k_ => some k_ ≠ (v328 : Value).ownBlock ∧ k_ ≠ gb318) (.slice (some ad344) t319.length co15) t319) ∧ Aside0 (wc.heap[gb318]? = some (.cells #[(.slice (some ad344) t319.length co15), .bool t322] 24 (0, 0))) ∧ Aside0 (Kd.C k122 wc A344_2 ((q01 t319 a1).f2).length ((q01 t319 a1).f2)) ∧ Aside0 (Kd.C (Kd.int .i64) wc A344_5 ((q01 t319 a1).f5).length ((q01 t319 a1).f5)) ∧ Aside0 (Below w.heap.size w wc))
              case first =>
               have H := HC66.out
               clear HC66
               refine iE H ?p68 ?n68 <;> clear H
               case' p68 => intro c68b0 c68b1 H; (first | rw [c68b0] | (simp only [q0d, q0f]; rw [c68b0]) | skip); replace H := iB H; obtain ⟨⟨t346, t347⟩, A69, H⟩ := H; try dsimp only at H; refine iE H ?p70 ?n70 <;> clear H
               case' p70 => intro c70b0 c70b1 H; refine iE H ?p71 ?n71 <;> clear H
               case' p71 => intro c71b0 c71b1 H; refine iG H ?p72 ?n72 <;> clear H
               case' p72 => intro c72 H; have c72b0 : (t332 != t347) = true := c72
               case' n72 => intro c72 H; have c72b0 : (t332 != t347) = false := by simpa using c72
               case' n71 => intro c71 c71b0 c71b1 H
               case' n70 => intro c70 c70b0 c70b1 H
               case' n68 => intro c68 c68b0 c68b1 H; (first | rw [c68b0] | (simp only [q0d, q0f]; rw [c68b0]) | skip); refine iE H ?p77 ?n77 <;> clear H
               case' p77 => intro c77b0 c77b1 H; refine iE H ?p78 ?n78 <;> clear H
               case' p78 => intro c78b0 c78b1 H; refine iV H ?p79 ?n79 <;> clear H
               case' p79 => intro c79 H; subst c79
               case' n79 => intro c79 H; subst c79
               case' n78 => intro c78 c78b0 c78b1 H
               case' n77 => intro c77 c77b0 c77b1 H
               case p72 =>
                (try (have c72b1 : decide (t332 = t347) = false := by simpa using c72))
                (try (have c72b2 : (t332 == t347) = false := by simpa using c72))
                (try (have c72b3 : ¬ (t332 = t347) := by simpa using c72))
                clear c72
                obtain rfl := Option.some.inj H
                obtain ⟨hczL_0, hczL_1, hfzL_0, hfzL_1⟩ := bk2 BK318.out
                have p345 : 0 ≤ (a1 : Int) := od zb
                have q345 : a1 < (t319.length : Int) := od zb
                obtain ⟨ad345, A345_2, c345_2, A345_5, c345_5, e345, hx345_0, hx345_1, hx345_2, hx345_3, hx345_4, hx345_5, hl345_2, hi345_2, hl345_5, hi345_5⟩ := at_T43 (Kd.V_reads' HO_319000.out).2.2 a1 p345 q345
                obtain rfl : ad344 = ad345 := (by injection e345)
                obtain ⟨ce345, hce345, hMe345, hcc345⟩ := Kd.V_get HO_319000.out z43 a1 p345 (by first | exact q345 | exact od zb | (have e_ := (Kd.V_reads' HO_319000.out).1; omega))
                obtain ⟨ua345_2, uc345_2, ua345_5, uc345_5, rfl, ul345_2, ge345_2, ul345_5, ge345_5⟩ := k43_openF hMe345
                have hv345_2 := hcc345 2 _ rfl
                rw [q0l _ _ 2 (by omega)] at hv345_2
                replace hv345_2 := Option.some.inj (hv345_2.symm.trans hx345_2)
                injection hv345_2 with hva_ hvn_ hvc_
                rw [hva_] at ge345_2
                rw [hvc_] at ul345_2
                have HL345_2 := aS (show Kd.V k122 122 _ w.heap.size _ _ ((q01 t319 a1).f2) from Kd.V_mk ul345_2 ge345_2)
                clear hva_ hvn_ hvc_ ge345_2 ul345_2
                have hv345_5 := hcc345 5 _ rfl
                rw [q0l _ _ 5 (by omega)] at hv345_5
                replace hv345_5 := Option.some.inj (hv345_5.symm.trans hx345_5)
                injection hv345_5 with hva_ hvn_ hvc_
                rw [hva_] at ge345_5
                rw [hvc_] at ul345_5
                have HL345_5 := aS (show Kd.V (Kd.int .i64) 3 _ w.heap.size _ _ ((q01 t319 a1).f5) from Kd.V_mk ul345_5 ge345_5)
                clear hva_ hvn_ hvc_ ge345_5 ul345_5
                clear hcc345 hce345
                have HR345_2 := aS hi345_2
                have HC345_2 := aS hl345_2
                clear hi345_2 hl345_2
                have HR345_5 := aS hi345_5
                have HC345_5 := aS hl345_5
                clear hi345_5 hl345_5
                replace p345 := eq_true p345
                replace q345 := eq_true q345
                try obtain ⟨rfl, rfl⟩ : A344_2 = A345_2 ∧ c344_2 = c345_2 := (by have e_ := hx344_2.symm.trans hx345_2; injection e_ with e_; injection e_ with e1_ _ e2_; exact ⟨e1_, e2_⟩)
                try obtain ⟨rfl, rfl⟩ : A344_5 = A345_5 ∧ c344_5 = c345_5 := (by have e_ := hx344_5.symm.trans hx345_5; injection e_ with e_; injection e_ with e1_ _ e2_; exact ⟨e1_, e2_⟩)
                go_wp2_with (first | (go_at_call 64; (with_reducible refine (clerestoryref1_AttrOf.calls kj57 _ _ ((q01 t319 a1).f2) a2 t346 t347 _ ?side1 ?side2 A69.out).mono ?_); (case side1 => repeat (first | exact (zd HR345_2.out) | (with_reducible refine cA ?_ _) | (with_reducible refine cN ?_ _) | (with_reducible refine cD ?_))); (case side2 => exact HC345_2.out); rintro e w' ⟨rfl, ⟨nd, rfl⟩⟩; (try first | exact ⟨rfl, _, World.drewN_drewN _ _ _⟩ | exact ⟨rfl, _, Eq.trans (World.drewN_drewN _ _ _) (congrArg (World.drewN _) (Nat.add_assoc _ _ _))⟩)))
                repeat (go_quiet (first | (go_at_call 64; (with_reducible refine (clerestoryref1_AttrOf.calls kj57 _ _ ((q01 t319 a1).f2) a2 t346 t347 _ ?side1 ?side2 A69.out).mono ?_); (case side1 => repeat (first | exact (zd HR345_2.out) | (with_reducible refine cA ?_ _) | (with_reducible refine cN ?_ _) | (with_reducible refine cD ?_))); (case side2 => exact HC345_2.out); rintro e w' ⟨rfl, ⟨nd, rfl⟩⟩; (try first | exact ⟨rfl, _, World.drewN_drewN _ _ _⟩ | exact ⟨rfl, _, Eq.trans (World.drewN_drewN _ _ _) (congrArg (World.drewN _) (Nat.add_assoc _ _ _))⟩))); try go_wp2_with (first | (go_at_call 64; (with_reducible refine (clerestoryref1_AttrOf.calls kj57 _ _ ((q01 t319 a1).f2) a2 t346 t347 _ ?side1 ?side2 A69.out).mono ?_); (case side1 => repeat (first | exact (zd HR345_2.out) | (with_reducible refine cA ?_ _) | (with_reducible refine cN ?_ _) | (with_reducible refine cD ?_))); (case side2 => exact HC345_2.out); rintro e w' ⟨rfl, ⟨nd, rfl⟩⟩; (try first | exact ⟨rfl, _, World.drewN_drewN _ _ _⟩ | exact ⟨rfl, _, Eq.trans (World.drewN_drewN _ _ _) (congrArg (World.drewN _) (Nat.add_assoc _ _ _))⟩))))
                go_ret
                exact ⟨by first | rfl | (simp [q04, q03] <;> rfl) | (simp [*, q04, q03] <;> rfl), by repeat (first | (with_reducible first | exact HB.out | apply bA | apply bN | apply bD | refine bS ?_ GE318.out) | exact HB.out)⟩
               case n72 =>
                (try (have c72b1 : decide (t332 = t347) = true := by simpa using c72))
                (try (have c72b2 : (t332 == t347) = true := by simpa using c72))
                clear c72
                have H' := aS H
                clear H
                obtain ⟨hczL_0, hczL_1, hfzL_0, hfzL_1⟩ := bk2 BK318.out
                have p345 : 0 ≤ (a1 : Int) := od zb
                have q345 : a1 < (t319.length : Int) := od zb
                obtain ⟨ad345, A345_2, c345_2, A345_5, c345_5, e345, hx345_0, hx345_1, hx345_2, hx345_3, hx345_4, hx345_5, hl345_2, hi345_2, hl345_5, hi345_5⟩ := at_T43 (Kd.V_reads' HO_319000.out).2.2 a1 p345 q345
                obtain rfl : ad344 = ad345 := (by injection e345)
                obtain ⟨ce345, hce345, hMe345, hcc345⟩ := Kd.V_get HO_319000.out z43 a1 p345 (by first | exact q345 | exact od zb | (have e_ := (Kd.V_reads' HO_319000.out).1; omega))
                obtain ⟨ua345_2, uc345_2, ua345_5, uc345_5, rfl, ul345_2, ge345_2, ul345_5, ge345_5⟩ := k43_openF hMe345
                have hv345_2 := hcc345 2 _ rfl
                rw [q0l _ _ 2 (by omega)] at hv345_2
                replace hv345_2 := Option.some.inj (hv345_2.symm.trans hx345_2)
                injection hv345_2 with hva_ hvn_ hvc_
                rw [hva_] at ge345_2
                rw [hvc_] at ul345_2
                have HL345_2 := aS (show Kd.V k122 122 _ w.heap.size _ _ ((q01 t319 a1).f2) from Kd.V_mk ul345_2 ge345_2)
                clear hva_ hvn_ hvc_ ge345_2 ul345_2
                have hv345_5 := hcc345 5 _ rfl
                rw [q0l _ _ 5 (by omega)] at hv345_5
                replace hv345_5 := Option.some.inj (hv345_5.symm.trans hx345_5)
                injection hv345_5 with hva_ hvn_ hvc_
                rw [hva_] at ge345_5
                rw [hvc_] at ul345_5
                have HL345_5 := aS (show Kd.V (Kd.int .i64) 3 _ w.heap.size _ _ ((q01 t319 a1).f5) from Kd.V_mk ul345_5 ge345_5)
                clear hva_ hvn_ hvc_ ge345_5 ul345_5
                clear hcc345 hce345
                have HR345_2 := aS hi345_2
                have HC345_2 := aS hl345_2
                clear hi345_2 hl345_2
                have HR345_5 := aS hi345_5
                have HC345_5 := aS hl345_5
                clear hi345_5 hl345_5
                replace p345 := eq_true p345
                replace q345 := eq_true q345
                try obtain ⟨rfl, rfl⟩ : A344_2 = A345_2 ∧ c344_2 = c345_2 := (by have e_ := hx344_2.symm.trans hx345_2; injection e_ with e_; injection e_ with e1_ _ e2_; exact ⟨e1_, e2_⟩)
                try obtain ⟨rfl, rfl⟩ : A344_5 = A345_5 ∧ c344_5 = c345_5 := (by have e_ := hx344_5.symm.trans hx345_5; injection e_ with e_; injection e_ with e1_ _ e2_; exact ⟨e1_, e2_⟩)
                go_wp2_with (first | (go_at_call 64; (with_reducible refine (clerestoryref1_AttrOf.calls kj57 _ _ ((q01 t319 a1).f2) a2 t346 t347 _ ?side1 ?side2 A69.out).mono ?_); (case side1 => repeat (first | exact (zd HR345_2.out) | (with_reducible refine cA ?_ _) | (with_reducible refine cN ?_ _) | (with_reducible refine cD ?_))); (case side2 => exact HC345_2.out); rintro e w' ⟨rfl, ⟨nd, rfl⟩⟩; (try first | exact ⟨rfl, _, World.drewN_drewN _ _ _⟩ | exact ⟨rfl, _, Eq.trans (World.drewN_drewN _ _ _) (congrArg (World.drewN _) (Nat.add_assoc _ _ _))⟩)))
                repeat (go_quiet (first | (go_at_call 64; (with_reducible refine (clerestoryref1_AttrOf.calls kj57 _ _ ((q01 t319 a1).f2) a2 t346 t347 _ ?side1 ?side2 A69.out).mono ?_); (case side1 => repeat (first | exact (zd HR345_2.out) | (with_reducible refine cA ?_ _) | (with_reducible refine cN ?_ _) | (with_reducible refine cD ?_))); (case side2 => exact HC345_2.out); rintro e w' ⟨rfl, ⟨nd, rfl⟩⟩; (try first | exact ⟨rfl, _, World.drewN_drewN _ _ _⟩ | exact ⟨rfl, _, Eq.trans (World.drewN_drewN _ _ _) (congrArg (World.drewN _) (Nat.add_assoc _ _ _))⟩))); try go_wp2_with (first | (go_at_call 64; (with_reducible refine (clerestoryref1_AttrOf.calls kj57 _ _ ((q01 t319 a1).f2) a2 t346 t347 _ ?side1 ?side2 A69.out).mono ?_); (case side1 => repeat (first | exact (zd HR345_2.out) | (with_reducible refine cA ?_ _) | (with_reducible refine cN ?_ _) | (with_reducible refine cD ?_))); (case side2 => exact HC345_2.out); rintro e w' ⟨rfl, ⟨nd, rfl⟩⟩; (try first | exact ⟨rfl, _, World.drewN_drewN _ _ _⟩ | exact ⟨rfl, _, Eq.trans (World.drewN_drewN _ _ _) (congrArg (World.drewN _) (Nat.add_assoc _ _ _))⟩))))
                go_meet
                case rel => exact ⟨_, H', ⟨by have := HJ10.out; have := HJ33.out; have := HJ57.out; first | omega | exact Nat.le_refl _⟩, ⟨by (with_reducible repeat (first | apply rA | apply rN | apply rD)); exact HO_9.out⟩, ⟨by (with_reducible repeat (first | apply vA | apply vN | apply vD)); exact HO_319000.out⟩, ⟨by (with_reducible repeat (first | refine kN ?_ _ | refine kD ?_ | refine kA ?_ _)); exact BK318.out⟩, ⟨by repeat (first | (with_reducible exact HR344_2.out) | (with_reducible refine cA ?_ _) | (with_reducible refine cN ?_ _) | (with_reducible refine cD ?_) | exact HR344_2.out)⟩, ⟨by repeat (first | (with_reducible exact HR344_5.out) | (with_reducible refine cA ?_ _) | (with_reducible refine cN ?_ _) | (with_reducible refine cD ?_) | exact HR344_5.out)⟩, ⟨by repeat (first | (with_reducible first | exact HB.out | apply bA | apply bN | apply bD | refine bS ?_ GE318.out) | exact HB.out)⟩⟩
               case n71|n70 =>
                obtain rfl := Option.some.inj H
                obtain ⟨hczL_0, hczL_1, hfzL_0, hfzL_1⟩ := bk2 BK318.out
                have p345 : 0 ≤ (a1 : Int) := od zb
                have q345 : a1 < (t319.length : Int) := od zb
                obtain ⟨ad345, A345_2, c345_2, A345_5, c345_5, e345, hx345_0, hx345_1, hx345_2, hx345_3, hx345_4, hx345_5, hl345_2, hi345_2, hl345_5, hi345_5⟩ := at_T43 (Kd.V_reads' HO_319000.out).2.2 a1 p345 q345
                obtain rfl : ad344 = ad345 := (by injection e345)
                obtain ⟨ce345, hce345, hMe345, hcc345⟩ := Kd.V_get HO_319000.out z43 a1 p345 (by first | exact q345 | exact od zb | (have e_ := (Kd.V_reads' HO_319000.out).1; omega))
                obtain ⟨ua345_2, uc345_2, ua345_5, uc345_5, rfl, ul345_2, ge345_2, ul345_5, ge345_5⟩ := k43_openF hMe345
                have hv345_2 := hcc345 2 _ rfl
                rw [q0l _ _ 2 (by omega)] at hv345_2
                replace hv345_2 := Option.some.inj (hv345_2.symm.trans hx345_2)
                injection hv345_2 with hva_ hvn_ hvc_
                rw [hva_] at ge345_2
                rw [hvc_] at ul345_2
                have HL345_2 := aS (show Kd.V k122 122 _ w.heap.size _ _ ((q01 t319 a1).f2) from Kd.V_mk ul345_2 ge345_2)
                clear hva_ hvn_ hvc_ ge345_2 ul345_2
                have hv345_5 := hcc345 5 _ rfl
                rw [q0l _ _ 5 (by omega)] at hv345_5
                replace hv345_5 := Option.some.inj (hv345_5.symm.trans hx345_5)
                injection hv345_5 with hva_ hvn_ hvc_
                rw [hva_] at ge345_5
                rw [hvc_] at ul345_5
                have HL345_5 := aS (show Kd.V (Kd.int .i64) 3 _ w.heap.size _ _ ((q01 t319 a1).f5) from Kd.V_mk ul345_5 ge345_5)
                clear hva_ hvn_ hvc_ ge345_5 ul345_5
                clear hcc345 hce345
                have HR345_2 := aS hi345_2
                have HC345_2 := aS hl345_2
                clear hi345_2 hl345_2
                have HR345_5 := aS hi345_5
                have HC345_5 := aS hl345_5
                clear hi345_5 hl345_5
                replace p345 := eq_true p345
                replace q345 := eq_true q345
                try obtain ⟨rfl, rfl⟩ : A344_2 = A345_2 ∧ c344_2 = c345_2 := (by have e_ := hx344_2.symm.trans hx345_2; injection e_ with e_; injection e_ with e1_ _ e2_; exact ⟨e1_, e2_⟩)
                try obtain ⟨rfl, rfl⟩ : A344_5 = A345_5 ∧ c344_5 = c345_5 := (by have e_ := hx344_5.symm.trans hx345_5; injection e_ with e_; injection e_ with e1_ _ e2_; exact ⟨e1_, e2_⟩)
                go_wp2_with (first | (go_at_call 64; (with_reducible refine (clerestoryref1_AttrOf.calls kj57 _ _ ((q01 t319 a1).f2) a2 t346 t347 _ ?side1 ?side2 A69.out).mono ?_); (case side1 => repeat (first | exact (zd HR345_2.out) | (with_reducible refine cA ?_ _) | (with_reducible refine cN ?_ _) | (with_reducible refine cD ?_))); (case side2 => exact HC345_2.out); rintro e w' ⟨rfl, ⟨nd, rfl⟩⟩; (try first | exact ⟨rfl, _, World.drewN_drewN _ _ _⟩ | exact ⟨rfl, _, Eq.trans (World.drewN_drewN _ _ _) (congrArg (World.drewN _) (Nat.add_assoc _ _ _))⟩)))
                repeat (go_quiet (first | (go_at_call 64; (with_reducible refine (clerestoryref1_AttrOf.calls kj57 _ _ ((q01 t319 a1).f2) a2 t346 t347 _ ?side1 ?side2 A69.out).mono ?_); (case side1 => repeat (first | exact (zd HR345_2.out) | (with_reducible refine cA ?_ _) | (with_reducible refine cN ?_ _) | (with_reducible refine cD ?_))); (case side2 => exact HC345_2.out); rintro e w' ⟨rfl, ⟨nd, rfl⟩⟩; (try first | exact ⟨rfl, _, World.drewN_drewN _ _ _⟩ | exact ⟨rfl, _, Eq.trans (World.drewN_drewN _ _ _) (congrArg (World.drewN _) (Nat.add_assoc _ _ _))⟩))); try go_wp2_with (first | (go_at_call 64; (with_reducible refine (clerestoryref1_AttrOf.calls kj57 _ _ ((q01 t319 a1).f2) a2 t346 t347 _ ?side1 ?side2 A69.out).mono ?_); (case side1 => repeat (first | exact (zd HR345_2.out) | (with_reducible refine cA ?_ _) | (with_reducible refine cN ?_ _) | (with_reducible refine cD ?_))); (case side2 => exact HC345_2.out); rintro e w' ⟨rfl, ⟨nd, rfl⟩⟩; (try first | exact ⟨rfl, _, World.drewN_drewN _ _ _⟩ | exact ⟨rfl, _, Eq.trans (World.drewN_drewN _ _ _) (congrArg (World.drewN _) (Nat.add_assoc _ _ _))⟩))))
                go_ret
                exact ⟨by first | rfl | (simp [q04, q03] <;> rfl) | (simp [*, q04, q03] <;> rfl), by repeat (first | (with_reducible first | exact HB.out | apply bA | apply bN | apply bD | refine bS ?_ GE318.out) | exact HB.out)⟩
               case p79|n78|n77 =>
                obtain rfl := Option.some.inj H
                go_wp2
                repeat (go_quiet (fail); try go_wp2)
                go_ret
                exact ⟨by first | rfl | (simp [q04, q03] <;> rfl) | (simp [*, q04, q03] <;> rfl), by repeat (first | (with_reducible first | exact HB.out | apply bA | apply bN | apply bD | refine bS ?_ GE318.out) | exact HB.out)⟩
               case n79 =>
                have H' := aS H
                clear H
                go_wp2
                repeat (go_quiet (fail); try go_wp2)
                go_meet
                case rel => exact ⟨_, H', ⟨by have := HJ10.out; have := HJ33.out; have := HJ57.out; first | omega | exact Nat.le_refl _⟩, ⟨by (with_reducible repeat (first | apply rA | apply rN | apply rD)); exact HO_9.out⟩, ⟨by (with_reducible repeat (first | apply vA | apply vN | apply vD)); exact HO_319000.out⟩, ⟨by (with_reducible repeat (first | refine kN ?_ _ | refine kD ?_ | refine kA ?_ _)); exact BK318.out⟩, ⟨by repeat (first | (with_reducible exact HR344_2.out) | (with_reducible refine cA ?_ _) | (with_reducible refine cN ?_ _) | (with_reducible refine cD ?_) | exact HR344_2.out)⟩, ⟨by repeat (first | (with_reducible exact HR344_5.out) | (with_reducible refine cA ?_ _) | (with_reducible refine cN ?_ _) | (with_reducible refine cD ?_) | exact HR344_5.out)⟩, ⟨by repeat (first | (with_reducible first | exact HB.out | apply bA | apply bN | apply bD | refine bS ?_ GE318.out) | exact HB.out)⟩⟩
              case rest =>
               as_aux_lemma =>
                clear HC66
                obtain ⟨kq, HA, HJ65, HO_9, HO_319000, BK318, HR344_2, HR344_5, HB⟩ := hcut
                cases kq with
                | zero => exact absurd HA.out (by simp [clerestorylaw1_DomAsks.j3])
                | succ kj65 =>
                 have H := HA.out
                 clear HA
                 simp only [clerestorylaw1_DomAsks.j3] at H
                 replace H := iB H
                 obtain ⟨t348, A80, H⟩ := H
                 refine iV H ?p81 ?n81 <;> clear H
                 case' p81 => intro c81 H; subst c81
                 case' n81 => intro c81 H; subst c81; replace H := iB H; obtain ⟨t349, A123, H⟩ := H; obtain ⟨hczL_0, hczL_1, hfzL_0, hfzL_1⟩ := bk2 BK318.out; refine iV H ?p124 ?n124 <;> clear H
                 case' p124 => intro c124 H; subst c124; refine iE H ?p125 ?n125 <;> clear H
                 case' p125 => intro c125b0 c125b1 H
                 case' n125 => intro c125 c125b0 c125b1 H
                 case' n124 => intro c124 H; subst c124
                 case p81 =>
                  have HC82 := aS H
                  clear H
                  obtain ⟨hczL_0, hczL_1, hfzL_0, hfzL_1⟩ := bk2 BK318.out
                  go_upto_region 23 with (first | (go_at_call 26; (with_reducible refine (clerestoryref1_Under.calls kj65 _ _ t319 t322 a1 0 true _ ?side1 ?side2 A80.out).mono ?_); (case side1 => repeat (first | exact (Kd.V_reads' HO_319000.out).2.2 | (with_reducible refine cA ?_ _) | (with_reducible refine cN ?_ _) | (with_reducible refine cD ?_))); (case side2 => exact (Kd.V_reads' HO_319000.out).2.1); rintro e w84 ⟨rfl, hb⟩; replace HO_9 := aS (Kd.R_below (zf HO_9.out) hb); replace HO_319000 := aS (Kd.V_below (ze HO_319000.out) hb); replace BK318 := aS (q02 (g := gb318) (o := .cells #[.slice (some ad344) t319.length co15, .bool t322] 24 (0, 0)) (za BK318.out) hb); replace HR344_2 := aS (Kd.C_below (zd HR344_2.out) hb); replace HR344_5 := aS (Kd.C_below (zd HR344_5.out) hb); replace HB := aS (q00 (z6 HB.out GE318.out) hb); (try clear hb); (try clear hb2); (try clear hk); (try clear hi)))
                  repeat (go_quiet (first | (go_at_call 26; (with_reducible refine (clerestoryref1_Under.calls kj65 _ _ t319 t322 a1 0 true _ ?side1 ?side2 A80.out).mono ?_); (case side1 => repeat (first | exact (Kd.V_reads' HO_319000.out).2.2 | (with_reducible refine cA ?_ _) | (with_reducible refine cN ?_ _) | (with_reducible refine cD ?_))); (case side2 => exact (Kd.V_reads' HO_319000.out).2.1); rintro e w84 ⟨rfl, hb⟩; replace HO_9 := aS (Kd.R_below (zf HO_9.out) hb); replace HO_319000 := aS (Kd.V_below (ze HO_319000.out) hb); replace BK318 := aS (q02 (g := gb318) (o := .cells #[.slice (some ad344) t319.length co15, .bool t322] 24 (0, 0)) (za BK318.out) hb); replace HR344_2 := aS (Kd.C_below (zd HR344_2.out) hb); replace HR344_5 := aS (Kd.C_below (zd HR344_5.out) hb); replace HB := aS (q00 (z6 HB.out GE318.out) hb); (try clear hb); (try clear hb2); (try clear hk); (try clear hi))); go_upto_region 23 with (first | (go_at_call 26; (with_reducible refine (clerestoryref1_Under.calls kj65 _ _ t319 t322 a1 0 true _ ?side1 ?side2 A80.out).mono ?_); (case side1 => repeat (first | exact (Kd.V_reads' HO_319000.out).2.2 | (with_reducible refine cA ?_ _) | (with_reducible refine cN ?_ _) | (with_reducible refine cD ?_))); (case side2 => exact (Kd.V_reads' HO_319000.out).2.1); rintro e w84 ⟨rfl, hb⟩; replace HO_9 := aS (Kd.R_below (zf HO_9.out) hb); replace HO_319000 := aS (Kd.V_below (ze HO_319000.out) hb); replace BK318 := aS (q02 (g := gb318) (o := .cells #[.slice (some ad344) t319.length co15, .bool t322] 24 (0, 0)) (za BK318.out) hb); replace HR344_2 := aS (Kd.C_below (zd HR344_2.out) hb); replace HR344_5 := aS (Kd.C_below (zd HR344_5.out) hb); replace HB := aS (q00 (z6 HB.out GE318.out) hb); (try clear hb); (try clear hb2); (try clear hk); (try clear hi))))
                  (try simp only [Act.put, s1, s2, s3])
                  go_cut [228] (fun v228 wc => ∃ (kq : Nat) (x228_81 : Bool), v228 = .bool x228_81 ∧ Aside0 (clerestorylaw1_DomAsks.j4 kq t327 x228_81 t319 t322 = some r) ∧ Aside0 (kq ≤ kj65) ∧ Aside0 (Kd.R (Kd.int .i64) 3 wc w.heap.size (fun _ => True) v328 t327) ∧ Aside0 (Kd.V k43 43 wc w.heap.size (fun k_ => some k_ ≠ (v328 : Value).ownBlock ∧ k_ ≠ gb318) (.slice (some ad344) t319.length co15) t319) ∧ Aside0 (wc.heap[gb318]? = some (.cells #[(.slice (some ad344) t319.length co15), .bool t322] 24 (0, 0))) ∧ Aside0 (Kd.C k122 wc A344_2 ((q01 t319 a1).f2).length ((q01 t319 a1).f2)) ∧ Aside0 (Kd.C (Kd.int .i64) wc A344_5 ((q01 t319 a1).f5).length ((q01 t319 a1).f5)) ∧ Aside0 (Below w.heap.size w wc))
                  case first =>
                   have H := HC82.out
                   clear HC82
                   refine iE H ?p85 ?n85 <;> clear H
                   case' p85 => intro c85b0 c85b1 H; (first | rw [c85b0] | (simp only [q0d, q0f]; rw [c85b0]) | skip); replace H := iB H; obtain ⟨t350, A86, H⟩ := H; refine iE H ?p87 ?n87 <;> clear H
                   case' p87 => intro c87b0 c87b1 H; refine iTNp (m := 0) (n := t327.length) H rfl rfl ?_; clear H; intro c88b0 c88b1 H; refine iE H ?p89 ?n89 <;> clear H
                   case' p89 =>
                    intro c89b0 c89b1 H
                    obtain ⟨ji90, hji90⟩ : ∃ j_ : Int, (wrap64 ((t327.length : Int) - 1)) = j_ := ⟨_, rfl⟩
                    replace H : (if 0 ≤ (ji90) then (if (ji90) < (t327.length : Int) then (clerestorylaw1_DomAsks.j4 kj65 t327 ((rd t327 (ji90)) != a1) t319 t322) else (none)) else (none)) = some r := by first | (rw [hji90] at H; exact H) | (simp only [hji90] at H ⊢; exact H)
                    (try rw [hji90] at A86)
                    have hji90w : (IntKind.i64.wrap ((t327.length : Int) - 1)) = ji90 := (q0d _).trans hji90
                    refine iLp H ?_; clear H; intro c91b0 H
                    refine iTp H ?_; clear H; intro c92b0 H
                   case' n89 => intro c89 c89b0 c89b1 H
                   case' n87 => intro c87 c87b0 c87b1 H
                   case' n85 => intro c85 c85b0 c85b1 H
                   case p89 =>
                    have H' := aS H
                    clear H
                    obtain ⟨Ao93, co93, eo93⟩ := Kd.R_slice HO_9.out
                    subst eo93
                    obtain ⟨hczL_0, hczL_1, hfzL_0, hfzL_1⟩ := bk2 BK318.out
                    go_wp2_with (first | (go_at_call 65; (with_reducible refine (clerestoryref1_Deep.calls kj65 _ _ t319 t322 a1 t350 _ ?side1 ?side2 A86.out).mono ?_); (case side1 => repeat (first | exact (Kd.V_reads' HO_319000.out).2.2 | (with_reducible refine cA ?_ _) | (with_reducible refine cN ?_ _) | (with_reducible refine cD ?_))); (case side2 => exact (Kd.V_reads' HO_319000.out).2.1); rintro e w95 ⟨rfl, hb⟩; replace HO_9 := aS (Kd.R_below (zf HO_9.out) hb); replace HO_319000 := aS (Kd.V_below (ze HO_319000.out) hb); replace BK318 := aS (q02 (g := gb318) (o := .cells #[.slice (some ad344) t319.length co15, .bool t322] 24 (0, 0)) (za BK318.out) hb); replace HR344_2 := aS (Kd.C_below (zd HR344_2.out) hb); replace HR344_5 := aS (Kd.C_below (zd HR344_5.out) hb); replace HB := aS (q00 (z6 HB.out GE318.out) hb); (try clear hb); (try clear hb2); (try clear hk); (try clear hi); have p351 : 0 ≤ (0 : Int) := (by omega); have q351 : 0 < (t327.length : Int) := od zb; obtain ⟨ad351, e351, hx351_0⟩ := Kd.at_int (Kd.R_reads' HO_9.out).2.2 0 p351 q351; cases e351; have qi351 : (0 < t327.length) = True := eq_true (by omega); (try rw [show ((0 : Int)).toNat = 0 from rfl] at hx351_0); (try rw [Addr.add_zero'] at hx351_0); replace p351 := eq_true p351; replace q351 := eq_true q351; obtain ⟨ad352, e352, hx352_0, p352, q352⟩ := atIA (Kd.R_reads' HO_9.out).2.2 (ji90) zb zb; obtain rfl : ad351 = ad352 := (by injection e352)))
                    repeat (go_quiet (first | (go_at_call 65; (with_reducible refine (clerestoryref1_Deep.calls kj65 _ _ t319 t322 a1 t350 _ ?side1 ?side2 A86.out).mono ?_); (case side1 => repeat (first | exact (Kd.V_reads' HO_319000.out).2.2 | (with_reducible refine cA ?_ _) | (with_reducible refine cN ?_ _) | (with_reducible refine cD ?_))); (case side2 => exact (Kd.V_reads' HO_319000.out).2.1); rintro e w95 ⟨rfl, hb⟩; replace HO_9 := aS (Kd.R_below (zf HO_9.out) hb); replace HO_319000 := aS (Kd.V_below (ze HO_319000.out) hb); replace BK318 := aS (q02 (g := gb318) (o := .cells #[.slice (some ad344) t319.length co15, .bool t322] 24 (0, 0)) (za BK318.out) hb); replace HR344_2 := aS (Kd.C_below (zd HR344_2.out) hb); replace HR344_5 := aS (Kd.C_below (zd HR344_5.out) hb); replace HB := aS (q00 (z6 HB.out GE318.out) hb); (try clear hb); (try clear hb2); (try clear hk); (try clear hi); have p351 : 0 ≤ (0 : Int) := (by omega); have q351 : 0 < (t327.length : Int) := od zb; obtain ⟨ad351, e351, hx351_0⟩ := Kd.at_int (Kd.R_reads' HO_9.out).2.2 0 p351 q351; cases e351; have qi351 : (0 < t327.length) = True := eq_true (by omega); (try rw [show ((0 : Int)).toNat = 0 from rfl] at hx351_0); (try rw [Addr.add_zero'] at hx351_0); replace p351 := eq_true p351; replace q351 := eq_true q351; obtain ⟨ad352, e352, hx352_0, p352, q352⟩ := atIA (Kd.R_reads' HO_9.out).2.2 (ji90) zb zb; obtain rfl : ad351 = ad352 := (by injection e352))); try go_wp2_with (first | (go_at_call 65; (with_reducible refine (clerestoryref1_Deep.calls kj65 _ _ t319 t322 a1 t350 _ ?side1 ?side2 A86.out).mono ?_); (case side1 => repeat (first | exact (Kd.V_reads' HO_319000.out).2.2 | (with_reducible refine cA ?_ _) | (with_reducible refine cN ?_ _) | (with_reducible refine cD ?_))); (case side2 => exact (Kd.V_reads' HO_319000.out).2.1); rintro e w95 ⟨rfl, hb⟩; replace HO_9 := aS (Kd.R_below (zf HO_9.out) hb); replace HO_319000 := aS (Kd.V_below (ze HO_319000.out) hb); replace BK318 := aS (q02 (g := gb318) (o := .cells #[.slice (some ad344) t319.length co15, .bool t322] 24 (0, 0)) (za BK318.out) hb); replace HR344_2 := aS (Kd.C_below (zd HR344_2.out) hb); replace HR344_5 := aS (Kd.C_below (zd HR344_5.out) hb); replace HB := aS (q00 (z6 HB.out GE318.out) hb); (try clear hb); (try clear hb2); (try clear hk); (try clear hi); have p351 : 0 ≤ (0 : Int) := (by omega); have q351 : 0 < (t327.length : Int) := od zb; obtain ⟨ad351, e351, hx351_0⟩ := Kd.at_int (Kd.R_reads' HO_9.out).2.2 0 p351 q351; cases e351; have qi351 : (0 < t327.length) = True := eq_true (by omega); (try rw [show ((0 : Int)).toNat = 0 from rfl] at hx351_0); (try rw [Addr.add_zero'] at hx351_0); replace p351 := eq_true p351; replace q351 := eq_true q351; obtain ⟨ad352, e352, hx352_0, p352, q352⟩ := atIA (Kd.R_reads' HO_9.out).2.2 (ji90) zb zb; obtain rfl : ad351 = ad352 := (by injection e352))))
                    go_meet
                    case rel => exact ⟨_, (((rd t327 (ji90)) != a1)), (by first | rfl | (simp; done) | (simp only [← hji90] <;> (first | rfl | simp)) | (simp [*]; done)), H', ⟨by have := HJ10.out; have := HJ33.out; have := HJ57.out; have := HJ65.out; first | omega | exact Nat.le_refl _⟩, ⟨by (with_reducible repeat (first | apply rA | apply rN | apply rD)); exact HO_9.out⟩, ⟨by (with_reducible repeat (first | apply vA | apply vN | apply vD)); exact HO_319000.out⟩, ⟨by (with_reducible repeat (first | refine kN ?_ _ | refine kD ?_ | refine kA ?_ _)); exact BK318.out⟩, ⟨by repeat (first | (with_reducible exact HR344_2.out) | (with_reducible refine cA ?_ _) | (with_reducible refine cN ?_ _) | (with_reducible refine cD ?_) | exact HR344_2.out)⟩, ⟨by repeat (first | (with_reducible exact HR344_5.out) | (with_reducible refine cA ?_ _) | (with_reducible refine cN ?_ _) | (with_reducible refine cD ?_) | exact HR344_5.out)⟩, ⟨by repeat (first | (with_reducible first | exact HB.out | apply bA | apply bN | apply bD | refine bS ?_ GE318.out) | exact HB.out)⟩⟩
                   case n89 =>
                    have H' := aS H
                    clear H
                    obtain ⟨Ao96, co96, eo96⟩ := Kd.R_slice HO_9.out
                    subst eo96
                    obtain ⟨hczL_0, hczL_1, hfzL_0, hfzL_1⟩ := bk2 BK318.out
                    go_wp2_with (first | (go_at_call 65; (with_reducible refine (clerestoryref1_Deep.calls kj65 _ _ t319 t322 a1 t350 _ ?side1 ?side2 A86.out).mono ?_); (case side1 => repeat (first | exact (Kd.V_reads' HO_319000.out).2.2 | (with_reducible refine cA ?_ _) | (with_reducible refine cN ?_ _) | (with_reducible refine cD ?_))); (case side2 => exact (Kd.V_reads' HO_319000.out).2.1); rintro e w98 ⟨rfl, hb⟩; replace HO_9 := aS (Kd.R_below (zf HO_9.out) hb); replace HO_319000 := aS (Kd.V_below (ze HO_319000.out) hb); replace BK318 := aS (q02 (g := gb318) (o := .cells #[.slice (some ad344) t319.length co15, .bool t322] 24 (0, 0)) (za BK318.out) hb); replace HR344_2 := aS (Kd.C_below (zd HR344_2.out) hb); replace HR344_5 := aS (Kd.C_below (zd HR344_5.out) hb); replace HB := aS (q00 (z6 HB.out GE318.out) hb); (try clear hb); (try clear hb2); (try clear hk); (try clear hi); have p351 : 0 ≤ (0 : Int) := (by omega); have q351 : 0 < (t327.length : Int) := od zb; obtain ⟨ad351, e351, hx351_0⟩ := Kd.at_int (Kd.R_reads' HO_9.out).2.2 0 p351 q351; cases e351; have qi351 : (0 < t327.length) = True := eq_true (by omega); (try rw [show ((0 : Int)).toNat = 0 from rfl] at hx351_0); (try rw [Addr.add_zero'] at hx351_0); replace p351 := eq_true p351; replace q351 := eq_true q351))
                    repeat (go_quiet (first | (go_at_call 65; (with_reducible refine (clerestoryref1_Deep.calls kj65 _ _ t319 t322 a1 t350 _ ?side1 ?side2 A86.out).mono ?_); (case side1 => repeat (first | exact (Kd.V_reads' HO_319000.out).2.2 | (with_reducible refine cA ?_ _) | (with_reducible refine cN ?_ _) | (with_reducible refine cD ?_))); (case side2 => exact (Kd.V_reads' HO_319000.out).2.1); rintro e w98 ⟨rfl, hb⟩; replace HO_9 := aS (Kd.R_below (zf HO_9.out) hb); replace HO_319000 := aS (Kd.V_below (ze HO_319000.out) hb); replace BK318 := aS (q02 (g := gb318) (o := .cells #[.slice (some ad344) t319.length co15, .bool t322] 24 (0, 0)) (za BK318.out) hb); replace HR344_2 := aS (Kd.C_below (zd HR344_2.out) hb); replace HR344_5 := aS (Kd.C_below (zd HR344_5.out) hb); replace HB := aS (q00 (z6 HB.out GE318.out) hb); (try clear hb); (try clear hb2); (try clear hk); (try clear hi); have p351 : 0 ≤ (0 : Int) := (by omega); have q351 : 0 < (t327.length : Int) := od zb; obtain ⟨ad351, e351, hx351_0⟩ := Kd.at_int (Kd.R_reads' HO_9.out).2.2 0 p351 q351; cases e351; have qi351 : (0 < t327.length) = True := eq_true (by omega); (try rw [show ((0 : Int)).toNat = 0 from rfl] at hx351_0); (try rw [Addr.add_zero'] at hx351_0); replace p351 := eq_true p351; replace q351 := eq_true q351)); try go_wp2_with (first | (go_at_call 65; (with_reducible refine (clerestoryref1_Deep.calls kj65 _ _ t319 t322 a1 t350 _ ?side1 ?side2 A86.out).mono ?_); (case side1 => repeat (first | exact (Kd.V_reads' HO_319000.out).2.2 | (with_reducible refine cA ?_ _) | (with_reducible refine cN ?_ _) | (with_reducible refine cD ?_))); (case side2 => exact (Kd.V_reads' HO_319000.out).2.1); rintro e w98 ⟨rfl, hb⟩; replace HO_9 := aS (Kd.R_below (zf HO_9.out) hb); replace HO_319000 := aS (Kd.V_below (ze HO_319000.out) hb); replace BK318 := aS (q02 (g := gb318) (o := .cells #[.slice (some ad344) t319.length co15, .bool t322] 24 (0, 0)) (za BK318.out) hb); replace HR344_2 := aS (Kd.C_below (zd HR344_2.out) hb); replace HR344_5 := aS (Kd.C_below (zd HR344_5.out) hb); replace HB := aS (q00 (z6 HB.out GE318.out) hb); (try clear hb); (try clear hb2); (try clear hk); (try clear hi); have p351 : 0 ≤ (0 : Int) := (by omega); have q351 : 0 < (t327.length : Int) := od zb; obtain ⟨ad351, e351, hx351_0⟩ := Kd.at_int (Kd.R_reads' HO_9.out).2.2 0 p351 q351; cases e351; have qi351 : (0 < t327.length) = True := eq_true (by omega); (try rw [show ((0 : Int)).toNat = 0 from rfl] at hx351_0); (try rw [Addr.add_zero'] at hx351_0); replace p351 := eq_true p351; replace q351 := eq_true q351)))
                    go_meet
                    case rel => exact ⟨_, _, zi, H', ⟨by have := HJ10.out; have := HJ33.out; have := HJ57.out; have := HJ65.out; first | omega | exact Nat.le_refl _⟩, ⟨by (with_reducible repeat (first | apply rA | apply rN | apply rD)); exact HO_9.out⟩, ⟨by (with_reducible repeat (first | apply vA | apply vN | apply vD)); exact HO_319000.out⟩, ⟨by (with_reducible repeat (first | refine kN ?_ _ | refine kD ?_ | refine kA ?_ _)); exact BK318.out⟩, ⟨by repeat (first | (with_reducible exact HR344_2.out) | (with_reducible refine cA ?_ _) | (with_reducible refine cN ?_ _) | (with_reducible refine cD ?_) | exact HR344_2.out)⟩, ⟨by repeat (first | (with_reducible exact HR344_5.out) | (with_reducible refine cA ?_ _) | (with_reducible refine cN ?_ _) | (with_reducible refine cD ?_) | exact HR344_5.out)⟩, ⟨by repeat (first | (with_reducible first | exact HB.out | apply bA | apply bN | apply bD | refine bS ?_ GE318.out) | exact HB.out)⟩⟩
                   case n87 =>
                    have H' := aS H
                    clear H
                    obtain ⟨Ao99, co99, eo99⟩ := Kd.R_slice HO_9.out
                    subst eo99
                    obtain ⟨hczL_0, hczL_1, hfzL_0, hfzL_1⟩ := bk2 BK318.out
                    go_wp2_with (first | (go_at_call 65; (with_reducible refine (clerestoryref1_Deep.calls kj65 _ _ t319 t322 a1 t350 _ ?side1 ?side2 A86.out).mono ?_); (case side1 => repeat (first | exact (Kd.V_reads' HO_319000.out).2.2 | (with_reducible refine cA ?_ _) | (with_reducible refine cN ?_ _) | (with_reducible refine cD ?_))); (case side2 => exact (Kd.V_reads' HO_319000.out).2.1); rintro e w101 ⟨rfl, hb⟩; replace HO_9 := aS (Kd.R_below (zf HO_9.out) hb); replace HO_319000 := aS (Kd.V_below (ze HO_319000.out) hb); replace BK318 := aS (q02 (g := gb318) (o := .cells #[.slice (some ad344) t319.length co15, .bool t322] 24 (0, 0)) (za BK318.out) hb); replace HR344_2 := aS (Kd.C_below (zd HR344_2.out) hb); replace HR344_5 := aS (Kd.C_below (zd HR344_5.out) hb); replace HB := aS (q00 (z6 HB.out GE318.out) hb); (try clear hb); (try clear hb2); (try clear hk); (try clear hi)))
                    repeat (go_quiet (first | (go_at_call 65; (with_reducible refine (clerestoryref1_Deep.calls kj65 _ _ t319 t322 a1 t350 _ ?side1 ?side2 A86.out).mono ?_); (case side1 => repeat (first | exact (Kd.V_reads' HO_319000.out).2.2 | (with_reducible refine cA ?_ _) | (with_reducible refine cN ?_ _) | (with_reducible refine cD ?_))); (case side2 => exact (Kd.V_reads' HO_319000.out).2.1); rintro e w101 ⟨rfl, hb⟩; replace HO_9 := aS (Kd.R_below (zf HO_9.out) hb); replace HO_319000 := aS (Kd.V_below (ze HO_319000.out) hb); replace BK318 := aS (q02 (g := gb318) (o := .cells #[.slice (some ad344) t319.length co15, .bool t322] 24 (0, 0)) (za BK318.out) hb); replace HR344_2 := aS (Kd.C_below (zd HR344_2.out) hb); replace HR344_5 := aS (Kd.C_below (zd HR344_5.out) hb); replace HB := aS (q00 (z6 HB.out GE318.out) hb); (try clear hb); (try clear hb2); (try clear hk); (try clear hi))); try go_wp2_with (first | (go_at_call 65; (with_reducible refine (clerestoryref1_Deep.calls kj65 _ _ t319 t322 a1 t350 _ ?side1 ?side2 A86.out).mono ?_); (case side1 => repeat (first | exact (Kd.V_reads' HO_319000.out).2.2 | (with_reducible refine cA ?_ _) | (with_reducible refine cN ?_ _) | (with_reducible refine cD ?_))); (case side2 => exact (Kd.V_reads' HO_319000.out).2.1); rintro e w101 ⟨rfl, hb⟩; replace HO_9 := aS (Kd.R_below (zf HO_9.out) hb); replace HO_319000 := aS (Kd.V_below (ze HO_319000.out) hb); replace BK318 := aS (q02 (g := gb318) (o := .cells #[.slice (some ad344) t319.length co15, .bool t322] 24 (0, 0)) (za BK318.out) hb); replace HR344_2 := aS (Kd.C_below (zd HR344_2.out) hb); replace HR344_5 := aS (Kd.C_below (zd HR344_5.out) hb); replace HB := aS (q00 (z6 HB.out GE318.out) hb); (try clear hb); (try clear hb2); (try clear hk); (try clear hi))))
                    go_meet
                    case rel => exact ⟨_, _, zi, H', ⟨by have := HJ10.out; have := HJ33.out; have := HJ57.out; have := HJ65.out; first | omega | exact Nat.le_refl _⟩, ⟨by (with_reducible repeat (first | apply rA | apply rN | apply rD)); exact HO_9.out⟩, ⟨by (with_reducible repeat (first | apply vA | apply vN | apply vD)); exact HO_319000.out⟩, ⟨by (with_reducible repeat (first | refine kN ?_ _ | refine kD ?_ | refine kA ?_ _)); exact BK318.out⟩, ⟨by repeat (first | (with_reducible exact HR344_2.out) | (with_reducible refine cA ?_ _) | (with_reducible refine cN ?_ _) | (with_reducible refine cD ?_) | exact HR344_2.out)⟩, ⟨by repeat (first | (with_reducible exact HR344_5.out) | (with_reducible refine cA ?_ _) | (with_reducible refine cN ?_ _) | (with_reducible refine cD ?_) | exact HR344_5.out)⟩, ⟨by repeat (first | (with_reducible first | exact HB.out | apply bA | apply bN | apply bD | refine bS ?_ GE318.out) | exact HB.out)⟩⟩
                   case n85 =>
                    (first | rw [c85b0] | (simp only [q0d, q0f]; rw [c85b0]) | skip)
                    have H' := aS H
                    clear H
                    go_wp2
                    repeat (go_quiet (fail); try go_wp2)
                    go_meet
                    case rel => exact ⟨_, _, zi, H', ⟨by have := HJ10.out; have := HJ33.out; have := HJ57.out; have := HJ65.out; first | omega | exact Nat.le_refl _⟩, ⟨by (with_reducible repeat (first | apply rA | apply rN | apply rD)); exact HO_9.out⟩, ⟨by (with_reducible repeat (first | apply vA | apply vN | apply vD)); exact HO_319000.out⟩, ⟨by (with_reducible repeat (first | refine kN ?_ _ | refine kD ?_ | refine kA ?_ _)); exact BK318.out⟩, ⟨by repeat (first | (with_reducible exact HR344_2.out) | (with_reducible refine cA ?_ _) | (with_reducible refine cN ?_ _) | (with_reducible refine cD ?_) | exact HR344_2.out)⟩, ⟨by repeat (first | (with_reducible exact HR344_5.out) | (with_reducible refine cA ?_ _) | (with_reducible refine cN ?_ _) | (with_reducible refine cD ?_) | exact HR344_5.out)⟩, ⟨by repeat (first | (with_reducible first | exact HB.out | apply bA | apply bN | apply bD | refine bS ?_ GE318.out) | exact HB.out)⟩⟩
                  case rest =>
                   as_aux_lemma =>
                    clear HC82
                    obtain ⟨kq, x228_81, rfl, HA, HJ81, HO_9, HO_319000, BK318, HR344_2, HR344_5, HB⟩ := hcut
                    cases kq with
                    | zero => exact absurd HA.out (by simp [clerestorylaw1_DomAsks.j4])
                    | succ kj81 =>
                     have H := HA.out
                     clear HA
                     simp only [clerestorylaw1_DomAsks.j4] at H
                     refine iV H ?p102 ?n102 <;> clear H
                     case' p102 => intro c102 H; subst c102
                     case' n102 => intro c102 H; subst c102
                     case p102 =>
                      obtain rfl := Option.some.inj H
                      go_wp2
                      repeat (go_quiet (fail); try go_wp2)
                      go_ret
                      exact ⟨by first | rfl | (simp [q04, q03] <;> rfl) | (simp [*, q04, q03] <;> rfl), by repeat (first | (with_reducible first | exact HB.out | apply bA | apply bN | apply bD | refine bS ?_ GE318.out) | exact HB.out)⟩
                     case n102 =>
                      have H' := aS H
                      clear H
                      go_wp2
                      repeat (go_quiet (fail); try go_wp2)
                      go_loopg [19] kj81 (fun kq v19 w' => ∃ (x19_6 : Int), v19 = .int .i64 x19_6 ∧ Aside0 (clerestorylaw1_DomAsks.l0 kq t327 x19_6 t319 t322 = some r) ∧ Aside0 (kq ≤ kj81) ∧ Aside0 (Kd.R (Kd.int .i64) 3 w' w.heap.size (fun _ => True) v328 t327) ∧ Aside0 (Kd.V k43 43 w' w.heap.size (fun k_ => some k_ ≠ (v328 : Value).ownBlock ∧ k_ ≠ gb318) (.slice (some ad344) t319.length co15) t319) ∧ Aside0 (w'.heap[gb318]? = some (.cells #[(.slice (some ad344) t319.length co15), .bool t322] 24 (0, 0))) ∧ Aside0 (Kd.C k122 w' A344_2 ((q01 t319 a1).f2).length ((q01 t319 a1).f2)) ∧ Aside0 (Kd.C (Kd.int .i64) w' A344_5 ((q01 t319 a1).f5).length ((q01 t319 a1).f5)) ∧ Aside0 (Below w.heap.size w w'))
                      case atStart => exact ⟨(1), zi, H', ⟨Nat.le_refl _⟩, ⟨by (with_reducible repeat (first | apply rA | apply rN | apply rD)); exact HO_9.out⟩, ⟨by (with_reducible repeat (first | apply vA | apply vN | apply vD)); exact HO_319000.out⟩, ⟨by (with_reducible repeat (first | refine kN ?_ _ | refine kD ?_ | refine kA ?_ _)); exact BK318.out⟩, ⟨by repeat (first | (with_reducible exact HR344_2.out) | (with_reducible refine cA ?_ _) | (with_reducible refine cN ?_ _) | (with_reducible refine cD ?_) | exact HR344_2.out)⟩, ⟨by repeat (first | (with_reducible exact HR344_5.out) | (with_reducible refine cA ?_ _) | (with_reducible refine cN ?_ _) | (with_reducible refine cD ?_) | exact HR344_5.out)⟩, ⟨by repeat (first | (with_reducible first | exact HB.out | apply bA | apply bN | apply bD | refine bS ?_ GE318.out) | exact HB.out)⟩⟩
                      case round =>
                       clear H'
                       obtain ⟨x19_6, rfl, HA, HK6, HO_9, HO_319000, BK318, HR344_2, HR344_5, HB⟩ := hrel
                       cases gk with
                       | zero => exact absurd HA.out (by simp [clerestorylaw1_DomAsks.l0])
                       | succ k6 =>
                        have H := HA.out
                        clear HA
                        simp only [clerestorylaw1_DomAsks.l0] at H
                        refine iT H ?p103 ?n103 <;> clear H
                        case' p103 => intro c103b0 H; refine iLp H ?_; clear H; intro c104b0 H; refine iT H ?p105 ?n105 <;> clear H
                        case' p105 => intro c105b0 H
                        case' n105 => intro c105b0 H; refine iL H ?p107 ?n107 <;> clear H
                        case' p107 => intro c107b0 H
                        case' n107 =>
                         intro c107b0 H
                         refine iLp H ?_; clear H; intro c110b0 H
                         refine iTp H ?_; clear H; intro c111b0 H
                         obtain ⟨ji112, hji112⟩ : ∃ j_ : Int, (wrap64 (x19_6 - 1)) = j_ := ⟨_, rfl⟩
                         replace H : (if 0 ≤ (ji112) then (if (ji112) < (t327.length : Int) then (if ((q01 t319 (rd t327 x19_6)).f4) = (rd t327 (ji112)) then (clerestorylaw1_DomAsks.l0 k6 t327 (wrap64 (x19_6 + 1)) t319 t322) else (some false)) else (none)) else (none)) = some r := by first | (rw [hji112] at H; exact H) | (simp only [hji112] at H ⊢; exact H)
                         have hji112w : (IntKind.i64.wrap (x19_6 - 1)) = ji112 := (q0d _).trans hji112
                         refine iLp H ?_; clear H; intro c113b0 H
                         refine iTp H ?_; clear H; intro c114b0 H
                         refine iE H ?p115 ?n115 <;> clear H
                        case' p115 => intro c115b0 c115b1 H
                        case' n115 => intro c115 c115b0 c115b1 H
                        case' n103 => intro c103b0 H
                        case p105 =>
                         obtain rfl := Option.some.inj H
                         obtain ⟨Ao106, co106, eo106⟩ := Kd.R_slice HO_9.out
                         subst eo106
                         obtain ⟨ad353, e353, hx353_0, p353, q353⟩ := atIA (Kd.R_reads' HO_9.out).2.2 x19_6 zb zb
                         cases e353
                         go_wp2
                         repeat (go_quiet (fail); try go_wp2)
                         go_ret
                         exact ⟨by first | rfl | (simp [q04, q03] <;> rfl) | (simp [*, q04, q03] <;> rfl), by repeat (first | (with_reducible first | exact HB.out | apply bA | apply bN | apply bD | refine bS ?_ GE318.out) | exact HB.out)⟩
                        case p107 =>
                         obtain rfl := Option.some.inj H
                         obtain ⟨Ao108, co108, eo108⟩ := Kd.R_slice HO_9.out
                         subst eo108
                         obtain ⟨ad353, e353, hx353_0, p353, q353⟩ := atIA (Kd.R_reads' HO_9.out).2.2 x19_6 zb zb
                         cases e353
                         obtain ⟨ad354, e354, hx354_0, p354, q354⟩ := atIA (Kd.R_reads' HO_9.out).2.2 x19_6 zb zb
                         obtain rfl : ad353 = ad354 := (by injection e354)
                         obtain ⟨hczL_0, hczL_1, hfzL_0, hfzL_1⟩ := bk2 BK318.out
                         go_wp2
                         repeat (go_quiet (fail); try go_wp2)
                         go_ret
                         exact ⟨by first | rfl | (simp [q04, q03] <;> rfl) | (simp [*, q04, q03] <;> rfl), by repeat (first | (with_reducible first | exact HB.out | apply bA | apply bN | apply bD | refine bS ?_ GE318.out) | exact HB.out)⟩
                        case p115 =>
                         have H' := aS H
                         clear H
                         obtain ⟨Ao116, co116, eo116⟩ := Kd.R_slice HO_9.out
                         subst eo116
                         obtain ⟨ad353, e353, hx353_0, p353, q353⟩ := atIA (Kd.R_reads' HO_9.out).2.2 x19_6 zb zb
                         cases e353
                         obtain ⟨ad354, e354, hx354_0, p354, q354⟩ := atIA (Kd.R_reads' HO_9.out).2.2 x19_6 zb zb
                         obtain rfl : ad353 = ad354 := (by injection e354)
                         obtain ⟨hczL_0, hczL_1, hfzL_0, hfzL_1⟩ := bk2 BK318.out
                         obtain ⟨ad355, e355, hx355_0, p355, q355⟩ := atIA (Kd.R_reads' HO_9.out).2.2 x19_6 zb zb
                         obtain rfl : ad353 = ad355 := (by injection e355)
                         have p356 : 0 ≤ ((rd t327 x19_6) : Int) := od zb
                         have q356 : (rd t327 x19_6) < (t319.length : Int) := od zb
                         obtain ⟨ad356, A356_2, c356_2, A356_5, c356_5, e356, hx356_0, hx356_1, hx356_2, hx356_3, hx356_4, hx356_5, hl356_2, hi356_2, hl356_5, hi356_5⟩ := at_T43 (Kd.V_reads' HO_319000.out).2.2 (rd t327 x19_6) p356 q356
                         obtain rfl : ad344 = ad356 := (by injection e356)
                         obtain ⟨ce356, hce356, hMe356, hcc356⟩ := Kd.V_get HO_319000.out z43 (rd t327 x19_6) p356 (by first | exact q356 | exact od zb | (have e_ := (Kd.V_reads' HO_319000.out).1; omega))
                         obtain ⟨ua356_2, uc356_2, ua356_5, uc356_5, rfl, ul356_2, ge356_2, ul356_5, ge356_5⟩ := k43_openF hMe356
                         have hv356_2 := hcc356 2 _ rfl
                         rw [q0l _ _ 2 (by omega)] at hv356_2
                         replace hv356_2 := Option.some.inj (hv356_2.symm.trans hx356_2)
                         injection hv356_2 with hva_ hvn_ hvc_
                         rw [hva_] at ge356_2
                         rw [hvc_] at ul356_2
                         have HL356_2 := aS (show Kd.V k122 122 _ w.heap.size _ _ ((q01 t319 (rd t327 x19_6)).f2) from Kd.V_mk ul356_2 ge356_2)
                         clear hva_ hvn_ hvc_ ge356_2 ul356_2
                         have hv356_5 := hcc356 5 _ rfl
                         rw [q0l _ _ 5 (by omega)] at hv356_5
                         replace hv356_5 := Option.some.inj (hv356_5.symm.trans hx356_5)
                         injection hv356_5 with hva_ hvn_ hvc_
                         rw [hva_] at ge356_5
                         rw [hvc_] at ul356_5
                         have HL356_5 := aS (show Kd.V (Kd.int .i64) 3 _ w.heap.size _ _ ((q01 t319 (rd t327 x19_6)).f5) from Kd.V_mk ul356_5 ge356_5)
                         clear hva_ hvn_ hvc_ ge356_5 ul356_5
                         clear hcc356 hce356
                         have HR356_2 := aS hi356_2
                         have HC356_2 := aS hl356_2
                         clear hi356_2 hl356_2
                         have HR356_5 := aS hi356_5
                         have HC356_5 := aS hl356_5
                         clear hi356_5 hl356_5
                         replace p356 := eq_true p356
                         replace q356 := eq_true q356
                         obtain ⟨ad357, e357, hx357_0, p357, q357⟩ := atIA (Kd.R_reads' HO_9.out).2.2 (ji112) zb zb
                         obtain rfl : ad353 = ad357 := (by injection e357)
                         go_wp2
                         repeat (go_quiet (fail); try go_wp2)
                         go_roundg k6
                         case measure => have := HJ10.out; have := HJ33.out; have := HJ57.out; have := HJ65.out; have := HJ81.out; have := HK6.out; omega
                         case rel => exact ⟨(wrap64 (x19_6 + 1)), zi, H', ⟨by have := HJ10.out; have := HJ33.out; have := HJ57.out; have := HJ65.out; have := HJ81.out; have := HK6.out; omega⟩, ⟨by (with_reducible repeat (first | apply rA | apply rN | apply rD)); exact HO_9.out⟩, ⟨by (with_reducible repeat (first | apply vA | apply vN | apply vD)); exact HO_319000.out⟩, ⟨by (with_reducible repeat (first | refine kN ?_ _ | refine kD ?_ | refine kA ?_ _)); exact BK318.out⟩, ⟨by repeat (first | (with_reducible exact HR344_2.out) | (with_reducible refine cA ?_ _) | (with_reducible refine cN ?_ _) | (with_reducible refine cD ?_) | exact HR344_2.out)⟩, ⟨by repeat (first | (with_reducible exact HR344_5.out) | (with_reducible refine cA ?_ _) | (with_reducible refine cN ?_ _) | (with_reducible refine cD ?_) | exact HR344_5.out)⟩, ⟨by repeat (first | (with_reducible first | exact HB.out | apply bA | apply bN | apply bD | refine bS ?_ GE318.out) | exact HB.out)⟩⟩
                        case n115 =>
                         obtain rfl := Option.some.inj H
                         obtain ⟨Ao118, co118, eo118⟩ := Kd.R_slice HO_9.out
                         subst eo118
                         obtain ⟨ad353, e353, hx353_0, p353, q353⟩ := atIA (Kd.R_reads' HO_9.out).2.2 x19_6 zb zb
                         cases e353
                         obtain ⟨ad354, e354, hx354_0, p354, q354⟩ := atIA (Kd.R_reads' HO_9.out).2.2 x19_6 zb zb
                         obtain rfl : ad353 = ad354 := (by injection e354)
                         obtain ⟨hczL_0, hczL_1, hfzL_0, hfzL_1⟩ := bk2 BK318.out
                         obtain ⟨ad355, e355, hx355_0, p355, q355⟩ := atIA (Kd.R_reads' HO_9.out).2.2 x19_6 zb zb
                         obtain rfl : ad353 = ad355 := (by injection e355)
                         have p356 : 0 ≤ ((rd t327 x19_6) : Int) := od zb
                         have q356 : (rd t327 x19_6) < (t319.length : Int) := od zb
                         obtain ⟨ad356, A356_2, c356_2, A356_5, c356_5, e356, hx356_0, hx356_1, hx356_2, hx356_3, hx356_4, hx356_5, hl356_2, hi356_2, hl356_5, hi356_5⟩ := at_T43 (Kd.V_reads' HO_319000.out).2.2 (rd t327 x19_6) p356 q356
                         obtain rfl : ad344 = ad356 := (by injection e356)
                         obtain ⟨ce356, hce356, hMe356, hcc356⟩ := Kd.V_get HO_319000.out z43 (rd t327 x19_6) p356 (by first | exact q356 | exact od zb | (have e_ := (Kd.V_reads' HO_319000.out).1; omega))
                         obtain ⟨ua356_2, uc356_2, ua356_5, uc356_5, rfl, ul356_2, ge356_2, ul356_5, ge356_5⟩ := k43_openF hMe356
                         have hv356_2 := hcc356 2 _ rfl
                         rw [q0l _ _ 2 (by omega)] at hv356_2
                         replace hv356_2 := Option.some.inj (hv356_2.symm.trans hx356_2)
                         injection hv356_2 with hva_ hvn_ hvc_
                         rw [hva_] at ge356_2
                         rw [hvc_] at ul356_2
                         have HL356_2 := aS (show Kd.V k122 122 _ w.heap.size _ _ ((q01 t319 (rd t327 x19_6)).f2) from Kd.V_mk ul356_2 ge356_2)
                         clear hva_ hvn_ hvc_ ge356_2 ul356_2
                         have hv356_5 := hcc356 5 _ rfl
                         rw [q0l _ _ 5 (by omega)] at hv356_5
                         replace hv356_5 := Option.some.inj (hv356_5.symm.trans hx356_5)
                         injection hv356_5 with hva_ hvn_ hvc_
                         rw [hva_] at ge356_5
                         rw [hvc_] at ul356_5
                         have HL356_5 := aS (show Kd.V (Kd.int .i64) 3 _ w.heap.size _ _ ((q01 t319 (rd t327 x19_6)).f5) from Kd.V_mk ul356_5 ge356_5)
                         clear hva_ hvn_ hvc_ ge356_5 ul356_5
                         clear hcc356 hce356
                         have HR356_2 := aS hi356_2
                         have HC356_2 := aS hl356_2
                         clear hi356_2 hl356_2
                         have HR356_5 := aS hi356_5
                         have HC356_5 := aS hl356_5
                         clear hi356_5 hl356_5
                         replace p356 := eq_true p356
                         replace q356 := eq_true q356
                         obtain ⟨ad357, e357, hx357_0, p357, q357⟩ := atIA (Kd.R_reads' HO_9.out).2.2 (ji112) zb zb
                         obtain rfl : ad353 = ad357 := (by injection e357)
                         go_wp2
                         repeat (go_quiet (fail); try go_wp2)
                         go_ret
                         exact ⟨by first | rfl | (simp [q04, q03] <;> rfl) | (simp only [← hji112]; first | rfl | (simp [q04, q03] <;> rfl)) | (simp [*, q04, q03] <;> rfl), by repeat (first | (with_reducible first | exact HB.out | apply bA | apply bN | apply bD | refine bS ?_ GE318.out) | exact HB.out)⟩
                        case n103 =>
                         replace H := iB H
                         obtain ⟨t358, A120, H⟩ := H
                         obtain rfl := Option.some.inj H
                         obtain ⟨Ao121, co121, eo121⟩ := Kd.R_slice HO_9.out
                         subst eo121
                         go_wp2_with (first | (go_at_call 51; (with_reducible refine (clerestorylaw1_domBegun.calls k6  t358 _ A120.out).mono ?_); rintro e w122 ⟨rfl, hb⟩; replace HO_9 := aS (Kd.R_below (zf HO_9.out) hb); replace HO_319000 := aS (Kd.V_below (ze HO_319000.out) hb); replace BK318 := aS (q02 (g := gb318) (o := .cells #[.slice (some ad344) t319.length co15, .bool t322] 24 (0, 0)) (za BK318.out) hb); replace HR344_2 := aS (Kd.C_below (zd HR344_2.out) hb); replace HR344_5 := aS (Kd.C_below (zd HR344_5.out) hb); replace HB := aS (q00 (z6 HB.out GE318.out) hb); (try clear hb); (try clear hb2); (try clear hk); (try clear hi)))
                         repeat (go_quiet (first | (go_at_call 51; (with_reducible refine (clerestorylaw1_domBegun.calls k6  t358 _ A120.out).mono ?_); rintro e w122 ⟨rfl, hb⟩; replace HO_9 := aS (Kd.R_below (zf HO_9.out) hb); replace HO_319000 := aS (Kd.V_below (ze HO_319000.out) hb); replace BK318 := aS (q02 (g := gb318) (o := .cells #[.slice (some ad344) t319.length co15, .bool t322] 24 (0, 0)) (za BK318.out) hb); replace HR344_2 := aS (Kd.C_below (zd HR344_2.out) hb); replace HR344_5 := aS (Kd.C_below (zd HR344_5.out) hb); replace HB := aS (q00 (z6 HB.out GE318.out) hb); (try clear hb); (try clear hb2); (try clear hk); (try clear hi))); try go_wp2_with (first | (go_at_call 51; (with_reducible refine (clerestorylaw1_domBegun.calls k6  t358 _ A120.out).mono ?_); rintro e w122 ⟨rfl, hb⟩; replace HO_9 := aS (Kd.R_below (zf HO_9.out) hb); replace HO_319000 := aS (Kd.V_below (ze HO_319000.out) hb); replace BK318 := aS (q02 (g := gb318) (o := .cells #[.slice (some ad344) t319.length co15, .bool t322] 24 (0, 0)) (za BK318.out) hb); replace HR344_2 := aS (Kd.C_below (zd HR344_2.out) hb); replace HR344_5 := aS (Kd.C_below (zd HR344_5.out) hb); replace HB := aS (q00 (z6 HB.out GE318.out) hb); (try clear hb); (try clear hb2); (try clear hk); (try clear hi))))
                         go_ret
                         exact ⟨by first | rfl | (simp [q04, q03] <;> rfl) | (simp [*, q04, q03] <;> rfl), by repeat (first | (with_reducible first | exact HB.out | apply bA | apply bN | apply bD | refine bS ?_ GE318.out) | exact HB.out)⟩
                 case p125 =>
                  obtain rfl := Option.some.inj H
                  go_wp2_with (first | (go_at_call 26; (with_reducible refine (clerestoryref1_Under.calls kj65 _ _ t319 t322 a1 0 false _ ?side1 ?side2 A80.out).mono ?_); (case side1 => repeat (first | exact (Kd.V_reads' HO_319000.out).2.2 | (with_reducible refine cA ?_ _) | (with_reducible refine cN ?_ _) | (with_reducible refine cD ?_))); (case side2 => exact (Kd.V_reads' HO_319000.out).2.1); rintro e w127 ⟨rfl, hb⟩; replace HO_9 := aS (Kd.R_below (zf HO_9.out) hb); replace HO_319000 := aS (Kd.V_below (ze HO_319000.out) hb); replace BK318 := aS (q02 (g := gb318) (o := .cells #[.slice (some ad344) t319.length co15, .bool t322] 24 (0, 0)) (za BK318.out) hb); replace HR344_2 := aS (Kd.C_below (zd HR344_2.out) hb); replace HR344_5 := aS (Kd.C_below (zd HR344_5.out) hb); replace HB := aS (q00 (z6 HB.out GE318.out) hb); (try clear hb); (try clear hb2); (try clear hk); (try clear hi)) | (go_at_call 51; (with_reducible refine (clerestorylaw1_domBegun.calls kj65  true _ A123.out).mono ?_); rintro e w128 ⟨rfl, hb⟩; replace HO_9 := aS (Kd.R_below (zf HO_9.out) hb); replace HO_319000 := aS (Kd.V_below (ze HO_319000.out) hb); replace BK318 := aS (q02 (g := gb318) (o := .cells #[.slice (some ad344) t319.length co15, .bool t322] 24 (0, 0)) (za BK318.out) hb); replace HR344_2 := aS (Kd.C_below (zd HR344_2.out) hb); replace HR344_5 := aS (Kd.C_below (zd HR344_5.out) hb); replace HB := aS (q00 (z6 HB.out GE318.out) hb); (try clear hb); (try clear hb2); (try clear hk); (try clear hi); obtain ⟨Ao129, co129, eo129⟩ := Kd.R_slice HO_9.out; subst eo129))
                  repeat (go_quiet (first | (go_at_call 26; (with_reducible refine (clerestoryref1_Under.calls kj65 _ _ t319 t322 a1 0 false _ ?side1 ?side2 A80.out).mono ?_); (case side1 => repeat (first | exact (Kd.V_reads' HO_319000.out).2.2 | (with_reducible refine cA ?_ _) | (with_reducible refine cN ?_ _) | (with_reducible refine cD ?_))); (case side2 => exact (Kd.V_reads' HO_319000.out).2.1); rintro e w127 ⟨rfl, hb⟩; replace HO_9 := aS (Kd.R_below (zf HO_9.out) hb); replace HO_319000 := aS (Kd.V_below (ze HO_319000.out) hb); replace BK318 := aS (q02 (g := gb318) (o := .cells #[.slice (some ad344) t319.length co15, .bool t322] 24 (0, 0)) (za BK318.out) hb); replace HR344_2 := aS (Kd.C_below (zd HR344_2.out) hb); replace HR344_5 := aS (Kd.C_below (zd HR344_5.out) hb); replace HB := aS (q00 (z6 HB.out GE318.out) hb); (try clear hb); (try clear hb2); (try clear hk); (try clear hi)) | (go_at_call 51; (with_reducible refine (clerestorylaw1_domBegun.calls kj65  true _ A123.out).mono ?_); rintro e w128 ⟨rfl, hb⟩; replace HO_9 := aS (Kd.R_below (zf HO_9.out) hb); replace HO_319000 := aS (Kd.V_below (ze HO_319000.out) hb); replace BK318 := aS (q02 (g := gb318) (o := .cells #[.slice (some ad344) t319.length co15, .bool t322] 24 (0, 0)) (za BK318.out) hb); replace HR344_2 := aS (Kd.C_below (zd HR344_2.out) hb); replace HR344_5 := aS (Kd.C_below (zd HR344_5.out) hb); replace HB := aS (q00 (z6 HB.out GE318.out) hb); (try clear hb); (try clear hb2); (try clear hk); (try clear hi); obtain ⟨Ao129, co129, eo129⟩ := Kd.R_slice HO_9.out; subst eo129)); try go_wp2_with (first | (go_at_call 26; (with_reducible refine (clerestoryref1_Under.calls kj65 _ _ t319 t322 a1 0 false _ ?side1 ?side2 A80.out).mono ?_); (case side1 => repeat (first | exact (Kd.V_reads' HO_319000.out).2.2 | (with_reducible refine cA ?_ _) | (with_reducible refine cN ?_ _) | (with_reducible refine cD ?_))); (case side2 => exact (Kd.V_reads' HO_319000.out).2.1); rintro e w127 ⟨rfl, hb⟩; replace HO_9 := aS (Kd.R_below (zf HO_9.out) hb); replace HO_319000 := aS (Kd.V_below (ze HO_319000.out) hb); replace BK318 := aS (q02 (g := gb318) (o := .cells #[.slice (some ad344) t319.length co15, .bool t322] 24 (0, 0)) (za BK318.out) hb); replace HR344_2 := aS (Kd.C_below (zd HR344_2.out) hb); replace HR344_5 := aS (Kd.C_below (zd HR344_5.out) hb); replace HB := aS (q00 (z6 HB.out GE318.out) hb); (try clear hb); (try clear hb2); (try clear hk); (try clear hi)) | (go_at_call 51; (with_reducible refine (clerestorylaw1_domBegun.calls kj65  true _ A123.out).mono ?_); rintro e w128 ⟨rfl, hb⟩; replace HO_9 := aS (Kd.R_below (zf HO_9.out) hb); replace HO_319000 := aS (Kd.V_below (ze HO_319000.out) hb); replace BK318 := aS (q02 (g := gb318) (o := .cells #[.slice (some ad344) t319.length co15, .bool t322] 24 (0, 0)) (za BK318.out) hb); replace HR344_2 := aS (Kd.C_below (zd HR344_2.out) hb); replace HR344_5 := aS (Kd.C_below (zd HR344_5.out) hb); replace HB := aS (q00 (z6 HB.out GE318.out) hb); (try clear hb); (try clear hb2); (try clear hk); (try clear hi); obtain ⟨Ao129, co129, eo129⟩ := Kd.R_slice HO_9.out; subst eo129)))
                  go_ret
                  exact ⟨by first | rfl | (simp [q04, q03] <;> rfl) | (simp [*, q04, q03] <;> rfl), by repeat (first | (with_reducible first | exact HB.out | apply bA | apply bN | apply bD | refine bS ?_ GE318.out) | exact HB.out)⟩
                 case n125 =>
                  obtain rfl := Option.some.inj H
                  go_wp2_with (first | (go_at_call 26; (with_reducible refine (clerestoryref1_Under.calls kj65 _ _ t319 t322 a1 0 false _ ?side1 ?side2 A80.out).mono ?_); (case side1 => repeat (first | exact (Kd.V_reads' HO_319000.out).2.2 | (with_reducible refine cA ?_ _) | (with_reducible refine cN ?_ _) | (with_reducible refine cD ?_))); (case side2 => exact (Kd.V_reads' HO_319000.out).2.1); rintro e w131 ⟨rfl, hb⟩; replace HO_9 := aS (Kd.R_below (zf HO_9.out) hb); replace HO_319000 := aS (Kd.V_below (ze HO_319000.out) hb); replace BK318 := aS (q02 (g := gb318) (o := .cells #[.slice (some ad344) t319.length co15, .bool t322] 24 (0, 0)) (za BK318.out) hb); replace HR344_2 := aS (Kd.C_below (zd HR344_2.out) hb); replace HR344_5 := aS (Kd.C_below (zd HR344_5.out) hb); replace HB := aS (q00 (z6 HB.out GE318.out) hb); (try clear hb); (try clear hb2); (try clear hk); (try clear hi)) | (go_at_call 51; (with_reducible refine (clerestorylaw1_domBegun.calls kj65  true _ A123.out).mono ?_); rintro e w132 ⟨rfl, hb⟩; replace HO_9 := aS (Kd.R_below (zf HO_9.out) hb); replace HO_319000 := aS (Kd.V_below (ze HO_319000.out) hb); replace BK318 := aS (q02 (g := gb318) (o := .cells #[.slice (some ad344) t319.length co15, .bool t322] 24 (0, 0)) (za BK318.out) hb); replace HR344_2 := aS (Kd.C_below (zd HR344_2.out) hb); replace HR344_5 := aS (Kd.C_below (zd HR344_5.out) hb); replace HB := aS (q00 (z6 HB.out GE318.out) hb); (try clear hb); (try clear hb2); (try clear hk); (try clear hi)))
                  repeat (go_quiet (first | (go_at_call 26; (with_reducible refine (clerestoryref1_Under.calls kj65 _ _ t319 t322 a1 0 false _ ?side1 ?side2 A80.out).mono ?_); (case side1 => repeat (first | exact (Kd.V_reads' HO_319000.out).2.2 | (with_reducible refine cA ?_ _) | (with_reducible refine cN ?_ _) | (with_reducible refine cD ?_))); (case side2 => exact (Kd.V_reads' HO_319000.out).2.1); rintro e w131 ⟨rfl, hb⟩; replace HO_9 := aS (Kd.R_below (zf HO_9.out) hb); replace HO_319000 := aS (Kd.V_below (ze HO_319000.out) hb); replace BK318 := aS (q02 (g := gb318) (o := .cells #[.slice (some ad344) t319.length co15, .bool t322] 24 (0, 0)) (za BK318.out) hb); replace HR344_2 := aS (Kd.C_below (zd HR344_2.out) hb); replace HR344_5 := aS (Kd.C_below (zd HR344_5.out) hb); replace HB := aS (q00 (z6 HB.out GE318.out) hb); (try clear hb); (try clear hb2); (try clear hk); (try clear hi)) | (go_at_call 51; (with_reducible refine (clerestorylaw1_domBegun.calls kj65  true _ A123.out).mono ?_); rintro e w132 ⟨rfl, hb⟩; replace HO_9 := aS (Kd.R_below (zf HO_9.out) hb); replace HO_319000 := aS (Kd.V_below (ze HO_319000.out) hb); replace BK318 := aS (q02 (g := gb318) (o := .cells #[.slice (some ad344) t319.length co15, .bool t322] 24 (0, 0)) (za BK318.out) hb); replace HR344_2 := aS (Kd.C_below (zd HR344_2.out) hb); replace HR344_5 := aS (Kd.C_below (zd HR344_5.out) hb); replace HB := aS (q00 (z6 HB.out GE318.out) hb); (try clear hb); (try clear hb2); (try clear hk); (try clear hi))); try go_wp2_with (first | (go_at_call 26; (with_reducible refine (clerestoryref1_Under.calls kj65 _ _ t319 t322 a1 0 false _ ?side1 ?side2 A80.out).mono ?_); (case side1 => repeat (first | exact (Kd.V_reads' HO_319000.out).2.2 | (with_reducible refine cA ?_ _) | (with_reducible refine cN ?_ _) | (with_reducible refine cD ?_))); (case side2 => exact (Kd.V_reads' HO_319000.out).2.1); rintro e w131 ⟨rfl, hb⟩; replace HO_9 := aS (Kd.R_below (zf HO_9.out) hb); replace HO_319000 := aS (Kd.V_below (ze HO_319000.out) hb); replace BK318 := aS (q02 (g := gb318) (o := .cells #[.slice (some ad344) t319.length co15, .bool t322] 24 (0, 0)) (za BK318.out) hb); replace HR344_2 := aS (Kd.C_below (zd HR344_2.out) hb); replace HR344_5 := aS (Kd.C_below (zd HR344_5.out) hb); replace HB := aS (q00 (z6 HB.out GE318.out) hb); (try clear hb); (try clear hb2); (try clear hk); (try clear hi)) | (go_at_call 51; (with_reducible refine (clerestorylaw1_domBegun.calls kj65  true _ A123.out).mono ?_); rintro e w132 ⟨rfl, hb⟩; replace HO_9 := aS (Kd.R_below (zf HO_9.out) hb); replace HO_319000 := aS (Kd.V_below (ze HO_319000.out) hb); replace BK318 := aS (q02 (g := gb318) (o := .cells #[.slice (some ad344) t319.length co15, .bool t322] 24 (0, 0)) (za BK318.out) hb); replace HR344_2 := aS (Kd.C_below (zd HR344_2.out) hb); replace HR344_5 := aS (Kd.C_below (zd HR344_5.out) hb); replace HB := aS (q00 (z6 HB.out GE318.out) hb); (try clear hb); (try clear hb2); (try clear hk); (try clear hi))))
                  go_ret
                  exact ⟨by first | rfl | (simp [q04, q03] <;> rfl) | (simp [*, q04, q03] <;> rfl), by repeat (first | (with_reducible first | exact HB.out | apply bA | apply bN | apply bD | refine bS ?_ GE318.out) | exact HB.out)⟩
                 case n124 =>
                  obtain rfl := Option.some.inj H
                  go_wp2_with (first | (go_at_call 26; (with_reducible refine (clerestoryref1_Under.calls kj65 _ _ t319 t322 a1 0 false _ ?side1 ?side2 A80.out).mono ?_); (case side1 => repeat (first | exact (Kd.V_reads' HO_319000.out).2.2 | (with_reducible refine cA ?_ _) | (with_reducible refine cN ?_ _) | (with_reducible refine cD ?_))); (case side2 => exact (Kd.V_reads' HO_319000.out).2.1); rintro e w134 ⟨rfl, hb⟩; replace HO_9 := aS (Kd.R_below (zf HO_9.out) hb); replace HO_319000 := aS (Kd.V_below (ze HO_319000.out) hb); replace BK318 := aS (q02 (g := gb318) (o := .cells #[.slice (some ad344) t319.length co15, .bool t322] 24 (0, 0)) (za BK318.out) hb); replace HR344_2 := aS (Kd.C_below (zd HR344_2.out) hb); replace HR344_5 := aS (Kd.C_below (zd HR344_5.out) hb); replace HB := aS (q00 (z6 HB.out GE318.out) hb); (try clear hb); (try clear hb2); (try clear hk); (try clear hi)) | (go_at_call 51; (with_reducible refine (clerestorylaw1_domBegun.calls kj65  false _ A123.out).mono ?_); rintro e w135 ⟨rfl, hb⟩; replace HO_9 := aS (Kd.R_below (zf HO_9.out) hb); replace HO_319000 := aS (Kd.V_below (ze HO_319000.out) hb); replace BK318 := aS (q02 (g := gb318) (o := .cells #[.slice (some ad344) t319.length co15, .bool t322] 24 (0, 0)) (za BK318.out) hb); replace HR344_2 := aS (Kd.C_below (zd HR344_2.out) hb); replace HR344_5 := aS (Kd.C_below (zd HR344_5.out) hb); replace HB := aS (q00 (z6 HB.out GE318.out) hb); (try clear hb); (try clear hb2); (try clear hk); (try clear hi)))
                  repeat (go_quiet (first | (go_at_call 26; (with_reducible refine (clerestoryref1_Under.calls kj65 _ _ t319 t322 a1 0 false _ ?side1 ?side2 A80.out).mono ?_); (case side1 => repeat (first | exact (Kd.V_reads' HO_319000.out).2.2 | (with_reducible refine cA ?_ _) | (with_reducible refine cN ?_ _) | (with_reducible refine cD ?_))); (case side2 => exact (Kd.V_reads' HO_319000.out).2.1); rintro e w134 ⟨rfl, hb⟩; replace HO_9 := aS (Kd.R_below (zf HO_9.out) hb); replace HO_319000 := aS (Kd.V_below (ze HO_319000.out) hb); replace BK318 := aS (q02 (g := gb318) (o := .cells #[.slice (some ad344) t319.length co15, .bool t322] 24 (0, 0)) (za BK318.out) hb); replace HR344_2 := aS (Kd.C_below (zd HR344_2.out) hb); replace HR344_5 := aS (Kd.C_below (zd HR344_5.out) hb); replace HB := aS (q00 (z6 HB.out GE318.out) hb); (try clear hb); (try clear hb2); (try clear hk); (try clear hi)) | (go_at_call 51; (with_reducible refine (clerestorylaw1_domBegun.calls kj65  false _ A123.out).mono ?_); rintro e w135 ⟨rfl, hb⟩; replace HO_9 := aS (Kd.R_below (zf HO_9.out) hb); replace HO_319000 := aS (Kd.V_below (ze HO_319000.out) hb); replace BK318 := aS (q02 (g := gb318) (o := .cells #[.slice (some ad344) t319.length co15, .bool t322] 24 (0, 0)) (za BK318.out) hb); replace HR344_2 := aS (Kd.C_below (zd HR344_2.out) hb); replace HR344_5 := aS (Kd.C_below (zd HR344_5.out) hb); replace HB := aS (q00 (z6 HB.out GE318.out) hb); (try clear hb); (try clear hb2); (try clear hk); (try clear hi))); try go_wp2_with (first | (go_at_call 26; (with_reducible refine (clerestoryref1_Under.calls kj65 _ _ t319 t322 a1 0 false _ ?side1 ?side2 A80.out).mono ?_); (case side1 => repeat (first | exact (Kd.V_reads' HO_319000.out).2.2 | (with_reducible refine cA ?_ _) | (with_reducible refine cN ?_ _) | (with_reducible refine cD ?_))); (case side2 => exact (Kd.V_reads' HO_319000.out).2.1); rintro e w134 ⟨rfl, hb⟩; replace HO_9 := aS (Kd.R_below (zf HO_9.out) hb); replace HO_319000 := aS (Kd.V_below (ze HO_319000.out) hb); replace BK318 := aS (q02 (g := gb318) (o := .cells #[.slice (some ad344) t319.length co15, .bool t322] 24 (0, 0)) (za BK318.out) hb); replace HR344_2 := aS (Kd.C_below (zd HR344_2.out) hb); replace HR344_5 := aS (Kd.C_below (zd HR344_5.out) hb); replace HB := aS (q00 (z6 HB.out GE318.out) hb); (try clear hb); (try clear hb2); (try clear hk); (try clear hi)) | (go_at_call 51; (with_reducible refine (clerestorylaw1_domBegun.calls kj65  false _ A123.out).mono ?_); rintro e w135 ⟨rfl, hb⟩; replace HO_9 := aS (Kd.R_below (zf HO_9.out) hb); replace HO_319000 := aS (Kd.V_below (ze HO_319000.out) hb); replace BK318 := aS (q02 (g := gb318) (o := .cells #[.slice (some ad344) t319.length co15, .bool t322] 24 (0, 0)) (za BK318.out) hb); replace HR344_2 := aS (Kd.C_below (zd HR344_2.out) hb); replace HR344_5 := aS (Kd.C_below (zd HR344_5.out) hb); replace HB := aS (q00 (z6 HB.out GE318.out) hb); (try clear hb); (try clear hb2); (try clear hk); (try clear hi))))
                  go_ret
                  exact ⟨by first | rfl | (simp [q04, q03] <;> rfl) | (simp [*, q04, q03] <;> rfl), by repeat (first | (with_reducible first | exact HB.out | apply bA | apply bN | apply bD | refine bS ?_ GE318.out) | exact HB.out)⟩
 case p144 =>
  obtain rfl := Option.some.inj H
  refine wp_cond (t := (t336 != 0)) rfl ?_
  rw [c10b1, if_pos rfl]
  go_wp2_with (first | (go_at_call 51; (with_reducible refine (clerestorylaw1_domBegun.calls k  true _ A136.out).mono ?_); rintro e w159 ⟨rfl, hb⟩; replace HO321 := aS (Kd.V_below (ze HO321.out) hb); replace HO325 := aS (Kd.R_below (zf HO325.out) hb); replace HO329 := aS (Kd.R_below (zf HO329.out) hb); replace BK318 := aS (q02 (g := gb318) (o := .cells #[.slice Ao15 t319.length co15, .bool t322] 24 (0, 0)) (za BK318.out) hb); replace HB := aS (q00 (z6 HB.out GE318.out) hb); (try clear hb); (try clear hb2); (try clear hk); (try clear hi); obtain ⟨Ao160, co160, eo160⟩ := Kd.R_slice HO325.out; subst eo160; obtain ⟨Ao161, co161, eo161⟩ := Kd.R_slice HO329.out; subst eo161))
  repeat (go_quiet (first | (go_at_call 51; (with_reducible refine (clerestorylaw1_domBegun.calls k  true _ A136.out).mono ?_); rintro e w159 ⟨rfl, hb⟩; replace HO321 := aS (Kd.V_below (ze HO321.out) hb); replace HO325 := aS (Kd.R_below (zf HO325.out) hb); replace HO329 := aS (Kd.R_below (zf HO329.out) hb); replace BK318 := aS (q02 (g := gb318) (o := .cells #[.slice Ao15 t319.length co15, .bool t322] 24 (0, 0)) (za BK318.out) hb); replace HB := aS (q00 (z6 HB.out GE318.out) hb); (try clear hb); (try clear hb2); (try clear hk); (try clear hi); obtain ⟨Ao160, co160, eo160⟩ := Kd.R_slice HO325.out; subst eo160; obtain ⟨Ao161, co161, eo161⟩ := Kd.R_slice HO329.out; subst eo161)); try go_wp2_with (first | (go_at_call 51; (with_reducible refine (clerestorylaw1_domBegun.calls k  true _ A136.out).mono ?_); rintro e w159 ⟨rfl, hb⟩; replace HO321 := aS (Kd.V_below (ze HO321.out) hb); replace HO325 := aS (Kd.R_below (zf HO325.out) hb); replace HO329 := aS (Kd.R_below (zf HO329.out) hb); replace BK318 := aS (q02 (g := gb318) (o := .cells #[.slice Ao15 t319.length co15, .bool t322] 24 (0, 0)) (za BK318.out) hb); replace HB := aS (q00 (z6 HB.out GE318.out) hb); (try clear hb); (try clear hb2); (try clear hk); (try clear hi); obtain ⟨Ao160, co160, eo160⟩ := Kd.R_slice HO325.out; subst eo160; obtain ⟨Ao161, co161, eo161⟩ := Kd.R_slice HO329.out; subst eo161)))
  go_ret
  exact ⟨by first | rfl | (simp [q04, q03] <;> rfl) | (simp [*, q04, q03] <;> rfl), by repeat (first | (with_reducible first | exact HB.out | apply bA | apply bN | apply bD | refine bS ?_ GE318.out) | exact HB.out)⟩
 case n144 =>
  obtain rfl := Option.some.inj H
  refine wp_cond (t := (t336 != 0)) rfl ?_
  rw [c10b1, if_pos rfl]
  go_wp2_with (first | (go_at_call 51; (with_reducible refine (clerestorylaw1_domBegun.calls k  true _ A136.out).mono ?_); rintro e w176 ⟨rfl, hb⟩; replace HO321 := aS (Kd.V_below (ze HO321.out) hb); replace HO325 := aS (Kd.R_below (zf HO325.out) hb); replace HO329 := aS (Kd.R_below (zf HO329.out) hb); replace BK318 := aS (q02 (g := gb318) (o := .cells #[.slice Ao15 t319.length co15, .bool t322] 24 (0, 0)) (za BK318.out) hb); replace HB := aS (q00 (z6 HB.out GE318.out) hb); (try clear hb); (try clear hb2); (try clear hk); (try clear hi); obtain ⟨Ao177, co177, eo177⟩ := Kd.R_slice HO325.out; subst eo177; obtain ⟨Ao178, co178, eo178⟩ := Kd.R_slice HO329.out; subst eo178))
  repeat (go_quiet (first | (go_at_call 51; (with_reducible refine (clerestorylaw1_domBegun.calls k  true _ A136.out).mono ?_); rintro e w176 ⟨rfl, hb⟩; replace HO321 := aS (Kd.V_below (ze HO321.out) hb); replace HO325 := aS (Kd.R_below (zf HO325.out) hb); replace HO329 := aS (Kd.R_below (zf HO329.out) hb); replace BK318 := aS (q02 (g := gb318) (o := .cells #[.slice Ao15 t319.length co15, .bool t322] 24 (0, 0)) (za BK318.out) hb); replace HB := aS (q00 (z6 HB.out GE318.out) hb); (try clear hb); (try clear hb2); (try clear hk); (try clear hi); obtain ⟨Ao177, co177, eo177⟩ := Kd.R_slice HO325.out; subst eo177; obtain ⟨Ao178, co178, eo178⟩ := Kd.R_slice HO329.out; subst eo178)); try go_wp2_with (first | (go_at_call 51; (with_reducible refine (clerestorylaw1_domBegun.calls k  true _ A136.out).mono ?_); rintro e w176 ⟨rfl, hb⟩; replace HO321 := aS (Kd.V_below (ze HO321.out) hb); replace HO325 := aS (Kd.R_below (zf HO325.out) hb); replace HO329 := aS (Kd.R_below (zf HO329.out) hb); replace BK318 := aS (q02 (g := gb318) (o := .cells #[.slice Ao15 t319.length co15, .bool t322] 24 (0, 0)) (za BK318.out) hb); replace HB := aS (q00 (z6 HB.out GE318.out) hb); (try clear hb); (try clear hb2); (try clear hk); (try clear hi); obtain ⟨Ao177, co177, eo177⟩ := Kd.R_slice HO325.out; subst eo177; obtain ⟨Ao178, co178, eo178⟩ := Kd.R_slice HO329.out; subst eo178)))
  go_ret
  exact ⟨by first | rfl | (simp [q04, q03] <;> rfl) | (simp [*, q04, q03] <;> rfl), by repeat (first | (with_reducible first | exact HB.out | apply bA | apply bN | apply bD | refine bS ?_ GE318.out) | exact HB.out)⟩
 case n143 =>
  obtain rfl := Option.some.inj H
  refine wp_cond (t := (t336 != 0)) rfl ?_
  rw [c10b1, if_pos rfl]
  go_wp2_with (first | (go_at_call 51; (with_reducible refine (clerestorylaw1_domBegun.calls k  true _ A136.out).mono ?_); rintro e w193 ⟨rfl, hb⟩; replace HO321 := aS (Kd.V_below (ze HO321.out) hb); replace HO325 := aS (Kd.R_below (zf HO325.out) hb); replace HO329 := aS (Kd.R_below (zf HO329.out) hb); replace BK318 := aS (q02 (g := gb318) (o := .cells #[.slice Ao15 t319.length co15, .bool t322] 24 (0, 0)) (za BK318.out) hb); replace HB := aS (q00 (z6 HB.out GE318.out) hb); (try clear hb); (try clear hb2); (try clear hk); (try clear hi); obtain ⟨Ao194, co194, eo194⟩ := Kd.R_slice HO325.out; subst eo194; obtain ⟨Ao195, co195, eo195⟩ := Kd.R_slice HO329.out; subst eo195))
  repeat (go_quiet (first | (go_at_call 51; (with_reducible refine (clerestorylaw1_domBegun.calls k  true _ A136.out).mono ?_); rintro e w193 ⟨rfl, hb⟩; replace HO321 := aS (Kd.V_below (ze HO321.out) hb); replace HO325 := aS (Kd.R_below (zf HO325.out) hb); replace HO329 := aS (Kd.R_below (zf HO329.out) hb); replace BK318 := aS (q02 (g := gb318) (o := .cells #[.slice Ao15 t319.length co15, .bool t322] 24 (0, 0)) (za BK318.out) hb); replace HB := aS (q00 (z6 HB.out GE318.out) hb); (try clear hb); (try clear hb2); (try clear hk); (try clear hi); obtain ⟨Ao194, co194, eo194⟩ := Kd.R_slice HO325.out; subst eo194; obtain ⟨Ao195, co195, eo195⟩ := Kd.R_slice HO329.out; subst eo195)); try go_wp2_with (first | (go_at_call 51; (with_reducible refine (clerestorylaw1_domBegun.calls k  true _ A136.out).mono ?_); rintro e w193 ⟨rfl, hb⟩; replace HO321 := aS (Kd.V_below (ze HO321.out) hb); replace HO325 := aS (Kd.R_below (zf HO325.out) hb); replace HO329 := aS (Kd.R_below (zf HO329.out) hb); replace BK318 := aS (q02 (g := gb318) (o := .cells #[.slice Ao15 t319.length co15, .bool t322] 24 (0, 0)) (za BK318.out) hb); replace HB := aS (q00 (z6 HB.out GE318.out) hb); (try clear hb); (try clear hb2); (try clear hk); (try clear hi); obtain ⟨Ao194, co194, eo194⟩ := Kd.R_slice HO325.out; subst eo194; obtain ⟨Ao195, co195, eo195⟩ := Kd.R_slice HO329.out; subst eo195)))
  go_ret
  exact ⟨by first | rfl | (simp [q04, q03] <;> rfl) | (simp [*, q04, q03] <;> rfl), by repeat (first | (with_reducible first | exact HB.out | apply bA | apply bN | apply bD | refine bS ?_ GE318.out) | exact HB.out)⟩
 case n142 =>
  obtain rfl := Option.some.inj H
  refine wp_cond (t := (t336 != 0)) rfl ?_
  rw [c10b1, if_pos rfl]
  go_wp2_with (first | (go_at_call 51; (with_reducible refine (clerestorylaw1_domBegun.calls k  true _ A136.out).mono ?_); rintro e w210 ⟨rfl, hb⟩; replace HO321 := aS (Kd.V_below (ze HO321.out) hb); replace HO325 := aS (Kd.R_below (zf HO325.out) hb); replace HO329 := aS (Kd.R_below (zf HO329.out) hb); replace BK318 := aS (q02 (g := gb318) (o := .cells #[.slice Ao15 t319.length co15, .bool t322] 24 (0, 0)) (za BK318.out) hb); replace HB := aS (q00 (z6 HB.out GE318.out) hb); (try clear hb); (try clear hb2); (try clear hk); (try clear hi); obtain ⟨Ao211, co211, eo211⟩ := Kd.R_slice HO325.out; subst eo211; obtain ⟨Ao212, co212, eo212⟩ := Kd.R_slice HO329.out; subst eo212))
  repeat (go_quiet (first | (go_at_call 51; (with_reducible refine (clerestorylaw1_domBegun.calls k  true _ A136.out).mono ?_); rintro e w210 ⟨rfl, hb⟩; replace HO321 := aS (Kd.V_below (ze HO321.out) hb); replace HO325 := aS (Kd.R_below (zf HO325.out) hb); replace HO329 := aS (Kd.R_below (zf HO329.out) hb); replace BK318 := aS (q02 (g := gb318) (o := .cells #[.slice Ao15 t319.length co15, .bool t322] 24 (0, 0)) (za BK318.out) hb); replace HB := aS (q00 (z6 HB.out GE318.out) hb); (try clear hb); (try clear hb2); (try clear hk); (try clear hi); obtain ⟨Ao211, co211, eo211⟩ := Kd.R_slice HO325.out; subst eo211; obtain ⟨Ao212, co212, eo212⟩ := Kd.R_slice HO329.out; subst eo212)); try go_wp2_with (first | (go_at_call 51; (with_reducible refine (clerestorylaw1_domBegun.calls k  true _ A136.out).mono ?_); rintro e w210 ⟨rfl, hb⟩; replace HO321 := aS (Kd.V_below (ze HO321.out) hb); replace HO325 := aS (Kd.R_below (zf HO325.out) hb); replace HO329 := aS (Kd.R_below (zf HO329.out) hb); replace BK318 := aS (q02 (g := gb318) (o := .cells #[.slice Ao15 t319.length co15, .bool t322] 24 (0, 0)) (za BK318.out) hb); replace HB := aS (q00 (z6 HB.out GE318.out) hb); (try clear hb); (try clear hb2); (try clear hk); (try clear hi); obtain ⟨Ao211, co211, eo211⟩ := Kd.R_slice HO325.out; subst eo211; obtain ⟨Ao212, co212, eo212⟩ := Kd.R_slice HO329.out; subst eo212)))
  go_ret
  exact ⟨by first | rfl | (simp [q04, q03] <;> rfl) | (simp [*, q04, q03] <;> rfl), by repeat (first | (with_reducible first | exact HB.out | apply bA | apply bN | apply bD | refine bS ?_ GE318.out) | exact HB.out)⟩
 case n141 =>
  obtain rfl := Option.some.inj H
  refine wp_cond (t := (t336 != 0)) rfl ?_
  rw [c10b1, if_pos rfl]
  go_wp2_with (first | (go_at_call 51; (with_reducible refine (clerestorylaw1_domBegun.calls k  true _ A136.out).mono ?_); rintro e w227 ⟨rfl, hb⟩; replace HO321 := aS (Kd.V_below (ze HO321.out) hb); replace HO325 := aS (Kd.R_below (zf HO325.out) hb); replace HO329 := aS (Kd.R_below (zf HO329.out) hb); replace BK318 := aS (q02 (g := gb318) (o := .cells #[.slice Ao15 t319.length co15, .bool t322] 24 (0, 0)) (za BK318.out) hb); replace HB := aS (q00 (z6 HB.out GE318.out) hb); (try clear hb); (try clear hb2); (try clear hk); (try clear hi)))
  repeat (go_quiet (first | (go_at_call 51; (with_reducible refine (clerestorylaw1_domBegun.calls k  true _ A136.out).mono ?_); rintro e w227 ⟨rfl, hb⟩; replace HO321 := aS (Kd.V_below (ze HO321.out) hb); replace HO325 := aS (Kd.R_below (zf HO325.out) hb); replace HO329 := aS (Kd.R_below (zf HO329.out) hb); replace BK318 := aS (q02 (g := gb318) (o := .cells #[.slice Ao15 t319.length co15, .bool t322] 24 (0, 0)) (za BK318.out) hb); replace HB := aS (q00 (z6 HB.out GE318.out) hb); (try clear hb); (try clear hb2); (try clear hk); (try clear hi))); try go_wp2_with (first | (go_at_call 51; (with_reducible refine (clerestorylaw1_domBegun.calls k  true _ A136.out).mono ?_); rintro e w227 ⟨rfl, hb⟩; replace HO321 := aS (Kd.V_below (ze HO321.out) hb); replace HO325 := aS (Kd.R_below (zf HO325.out) hb); replace HO329 := aS (Kd.R_below (zf HO329.out) hb); replace BK318 := aS (q02 (g := gb318) (o := .cells #[.slice Ao15 t319.length co15, .bool t322] 24 (0, 0)) (za BK318.out) hb); replace HB := aS (q00 (z6 HB.out GE318.out) hb); (try clear hb); (try clear hb2); (try clear hk); (try clear hi))))
  go_ret
  exact ⟨by first | rfl | (simp [q04, q03] <;> rfl) | (simp [*, q04, q03] <;> rfl), by repeat (first | (with_reducible first | exact HB.out | apply bA | apply bN | apply bD | refine bS ?_ GE318.out) | exact HB.out)⟩
 case n140 =>
  obtain rfl := Option.some.inj H
  refine wp_cond (t := (t336 != 0)) rfl ?_
  rw [c10b1, if_pos rfl]
  go_wp2_with (first | (go_at_call 51; (with_reducible refine (clerestorylaw1_domBegun.calls k  true _ A136.out).mono ?_); rintro e w242 ⟨rfl, hb⟩; replace HO321 := aS (Kd.V_below (ze HO321.out) hb); replace HO325 := aS (Kd.R_below (zf HO325.out) hb); replace HO329 := aS (Kd.R_below (zf HO329.out) hb); replace BK318 := aS (q02 (g := gb318) (o := .cells #[.slice Ao15 t319.length co15, .bool t322] 24 (0, 0)) (za BK318.out) hb); replace HB := aS (q00 (z6 HB.out GE318.out) hb); (try clear hb); (try clear hb2); (try clear hk); (try clear hi)))
  repeat (go_quiet (first | (go_at_call 51; (with_reducible refine (clerestorylaw1_domBegun.calls k  true _ A136.out).mono ?_); rintro e w242 ⟨rfl, hb⟩; replace HO321 := aS (Kd.V_below (ze HO321.out) hb); replace HO325 := aS (Kd.R_below (zf HO325.out) hb); replace HO329 := aS (Kd.R_below (zf HO329.out) hb); replace BK318 := aS (q02 (g := gb318) (o := .cells #[.slice Ao15 t319.length co15, .bool t322] 24 (0, 0)) (za BK318.out) hb); replace HB := aS (q00 (z6 HB.out GE318.out) hb); (try clear hb); (try clear hb2); (try clear hk); (try clear hi))); try go_wp2_with (first | (go_at_call 51; (with_reducible refine (clerestorylaw1_domBegun.calls k  true _ A136.out).mono ?_); rintro e w242 ⟨rfl, hb⟩; replace HO321 := aS (Kd.V_below (ze HO321.out) hb); replace HO325 := aS (Kd.R_below (zf HO325.out) hb); replace HO329 := aS (Kd.R_below (zf HO329.out) hb); replace BK318 := aS (q02 (g := gb318) (o := .cells #[.slice Ao15 t319.length co15, .bool t322] 24 (0, 0)) (za BK318.out) hb); replace HB := aS (q00 (z6 HB.out GE318.out) hb); (try clear hb); (try clear hb2); (try clear hk); (try clear hi))))
  go_ret
  exact ⟨by first | rfl | (simp [q04, q03] <;> rfl) | (simp [*, q04, q03] <;> rfl), by repeat (first | (with_reducible first | exact HB.out | apply bA | apply bN | apply bD | refine bS ?_ GE318.out) | exact HB.out)⟩
 case n139 =>
  obtain rfl := Option.some.inj H
  refine wp_cond (t := (t336 != 0)) rfl ?_
  rw [c10b1, if_pos rfl]
  go_wp2_with (first | (go_at_call 51; (with_reducible refine (clerestorylaw1_domBegun.calls k  true _ A136.out).mono ?_); rintro e w257 ⟨rfl, hb⟩; replace HO321 := aS (Kd.V_below (ze HO321.out) hb); replace HO325 := aS (Kd.R_below (zf HO325.out) hb); replace HO329 := aS (Kd.R_below (zf HO329.out) hb); replace BK318 := aS (q02 (g := gb318) (o := .cells #[.slice Ao15 t319.length co15, .bool t322] 24 (0, 0)) (za BK318.out) hb); replace HB := aS (q00 (z6 HB.out GE318.out) hb); (try clear hb); (try clear hb2); (try clear hk); (try clear hi)))
  repeat (go_quiet (first | (go_at_call 51; (with_reducible refine (clerestorylaw1_domBegun.calls k  true _ A136.out).mono ?_); rintro e w257 ⟨rfl, hb⟩; replace HO321 := aS (Kd.V_below (ze HO321.out) hb); replace HO325 := aS (Kd.R_below (zf HO325.out) hb); replace HO329 := aS (Kd.R_below (zf HO329.out) hb); replace BK318 := aS (q02 (g := gb318) (o := .cells #[.slice Ao15 t319.length co15, .bool t322] 24 (0, 0)) (za BK318.out) hb); replace HB := aS (q00 (z6 HB.out GE318.out) hb); (try clear hb); (try clear hb2); (try clear hk); (try clear hi))); try go_wp2_with (first | (go_at_call 51; (with_reducible refine (clerestorylaw1_domBegun.calls k  true _ A136.out).mono ?_); rintro e w257 ⟨rfl, hb⟩; replace HO321 := aS (Kd.V_below (ze HO321.out) hb); replace HO325 := aS (Kd.R_below (zf HO325.out) hb); replace HO329 := aS (Kd.R_below (zf HO329.out) hb); replace BK318 := aS (q02 (g := gb318) (o := .cells #[.slice Ao15 t319.length co15, .bool t322] 24 (0, 0)) (za BK318.out) hb); replace HB := aS (q00 (z6 HB.out GE318.out) hb); (try clear hb); (try clear hb2); (try clear hk); (try clear hi))))
  go_ret
  exact ⟨by first | rfl | (simp [q04, q03] <;> rfl) | (simp [*, q04, q03] <;> rfl), by repeat (first | (with_reducible first | exact HB.out | apply bA | apply bN | apply bD | refine bS ?_ GE318.out) | exact HB.out)⟩
 case n138 =>
  obtain rfl := Option.some.inj H
  refine wp_cond (t := (t336 != 0)) rfl ?_
  rw [c10b1, if_pos rfl]
  go_wp2_with (first | (go_at_call 51; (with_reducible refine (clerestorylaw1_domBegun.calls k  true _ A136.out).mono ?_); rintro e w272 ⟨rfl, hb⟩; replace HO321 := aS (Kd.V_below (ze HO321.out) hb); replace HO325 := aS (Kd.R_below (zf HO325.out) hb); replace HO329 := aS (Kd.R_below (zf HO329.out) hb); replace BK318 := aS (q02 (g := gb318) (o := .cells #[.slice Ao15 t319.length co15, .bool t322] 24 (0, 0)) (za BK318.out) hb); replace HB := aS (q00 (z6 HB.out GE318.out) hb); (try clear hb); (try clear hb2); (try clear hk); (try clear hi)))
  repeat (go_quiet (first | (go_at_call 51; (with_reducible refine (clerestorylaw1_domBegun.calls k  true _ A136.out).mono ?_); rintro e w272 ⟨rfl, hb⟩; replace HO321 := aS (Kd.V_below (ze HO321.out) hb); replace HO325 := aS (Kd.R_below (zf HO325.out) hb); replace HO329 := aS (Kd.R_below (zf HO329.out) hb); replace BK318 := aS (q02 (g := gb318) (o := .cells #[.slice Ao15 t319.length co15, .bool t322] 24 (0, 0)) (za BK318.out) hb); replace HB := aS (q00 (z6 HB.out GE318.out) hb); (try clear hb); (try clear hb2); (try clear hk); (try clear hi))); try go_wp2_with (first | (go_at_call 51; (with_reducible refine (clerestorylaw1_domBegun.calls k  true _ A136.out).mono ?_); rintro e w272 ⟨rfl, hb⟩; replace HO321 := aS (Kd.V_below (ze HO321.out) hb); replace HO325 := aS (Kd.R_below (zf HO325.out) hb); replace HO329 := aS (Kd.R_below (zf HO329.out) hb); replace BK318 := aS (q02 (g := gb318) (o := .cells #[.slice Ao15 t319.length co15, .bool t322] 24 (0, 0)) (za BK318.out) hb); replace HB := aS (q00 (z6 HB.out GE318.out) hb); (try clear hb); (try clear hb2); (try clear hk); (try clear hi))))
  go_ret
  exact ⟨by first | rfl | (simp [q04, q03] <;> rfl) | (simp [*, q04, q03] <;> rfl), by repeat (first | (with_reducible first | exact HB.out | apply bA | apply bN | apply bD | refine bS ?_ GE318.out) | exact HB.out)⟩
 case n137 =>
  obtain rfl := Option.some.inj H
  refine wp_cond (t := (t336 != 0)) rfl ?_
  rw [c10b1, if_pos rfl]
  go_wp2_with (first | (go_at_call 51; (with_reducible refine (clerestorylaw1_domBegun.calls k  false _ A136.out).mono ?_); rintro e w287 ⟨rfl, hb⟩; replace HO321 := aS (Kd.V_below (ze HO321.out) hb); replace HO325 := aS (Kd.R_below (zf HO325.out) hb); replace HO329 := aS (Kd.R_below (zf HO329.out) hb); replace BK318 := aS (q02 (g := gb318) (o := .cells #[.slice Ao15 t319.length co15, .bool t322] 24 (0, 0)) (za BK318.out) hb); replace HB := aS (q00 (z6 HB.out GE318.out) hb); (try clear hb); (try clear hb2); (try clear hk); (try clear hi)))
  repeat (go_quiet (first | (go_at_call 51; (with_reducible refine (clerestorylaw1_domBegun.calls k  false _ A136.out).mono ?_); rintro e w287 ⟨rfl, hb⟩; replace HO321 := aS (Kd.V_below (ze HO321.out) hb); replace HO325 := aS (Kd.R_below (zf HO325.out) hb); replace HO329 := aS (Kd.R_below (zf HO329.out) hb); replace BK318 := aS (q02 (g := gb318) (o := .cells #[.slice Ao15 t319.length co15, .bool t322] 24 (0, 0)) (za BK318.out) hb); replace HB := aS (q00 (z6 HB.out GE318.out) hb); (try clear hb); (try clear hb2); (try clear hk); (try clear hi))); try go_wp2_with (first | (go_at_call 51; (with_reducible refine (clerestorylaw1_domBegun.calls k  false _ A136.out).mono ?_); rintro e w287 ⟨rfl, hb⟩; replace HO321 := aS (Kd.V_below (ze HO321.out) hb); replace HO325 := aS (Kd.R_below (zf HO325.out) hb); replace HO329 := aS (Kd.R_below (zf HO329.out) hb); replace BK318 := aS (q02 (g := gb318) (o := .cells #[.slice Ao15 t319.length co15, .bool t322] 24 (0, 0)) (za BK318.out) hb); replace HB := aS (q00 (z6 HB.out GE318.out) hb); (try clear hb); (try clear hb2); (try clear hk); (try clear hi))))
  go_ret
  exact ⟨by first | rfl | (simp [q04, q03] <;> rfl) | (simp [*, q04, q03] <;> rfl), by repeat (first | (with_reducible first | exact HB.out | apply bA | apply bN | apply bD | refine bS ?_ GE318.out) | exact HB.out)⟩
end Go.Proofs.YthjnallbbhnndaaDoor.XDb
namespace Go.Proofs.YthjnallbbhnndaaDoor.XDb
open Go.Proofs.YthjnallbbhnndaaDoor.Short Go.RowKit Go.Proofs.YthjnallbbhnndaaDoorW.PrintWords Go.Proofs.YthjnallbbhnndaaDoorW.PrintLast Go.Proofs.YthjnallbbhnndaaDoor
def ok122 (x_ : S122) : Prop := (fun x_ : ByteArray => x_.size ≤ reachBytes) x_.f0 ∧ (fun x_ : ByteArray => x_.size ≤ reachBytes) x_.f1
theorem rd122 : Rd.Reads Tryd.prog 122 k122 ok122 :=
  ((Rd.reads_struct Tryd.underlying122 (by kernel_rfl) (Rd.readsF_cons rfl (Rd.reads_string Tryd.underlying9 (by kernel_rfl)) (Rd.readsF_one rfl (Rd.reads_string Tryd.underlying9 (by kernel_rfl))))).iso (fun x : S122 => (x.f0, x.f1)) (fun p_ => ⟨p_.1, p_.2⟩) (fun _ => rfl)).imp (fun _ h_ => h_)
def ok43 (x_ : S43) : Prop := (fun x_ : Int => (Lit.int .i64 x_).wf = true) x_.f0 ∧ (fun x_ : ByteArray => x_.size ≤ reachBytes) x_.f1 ∧ (fun l_ : List (S122) => l_.length * 32 ≤ reachBytes ∧ l_.length ≤ 9223372036854775807 ∧ ∀ a ∈ l_, ok122 a) x_.f2 ∧ (fun x_ : ByteArray => x_.size ≤ reachBytes) x_.f3 ∧ (fun x_ : Int => (Lit.int .i64 x_).wf = true) x_.f4 ∧ (fun l_ : List Int => l_.length * 8 ≤ reachBytes ∧ l_.length ≤ 9223372036854775807 ∧ ∀ a ∈ l_, (fun x_ : Int => (Lit.int .i64 x_).wf = true) a) x_.f5
theorem rd43 : Rd.Reads Tryd.prog 43 k43 ok43 :=
  ((Rd.reads_struct Tryd.underlying43 (by kernel_rfl) (Rd.readsF_cons rfl (Rd.reads_int Tryd.underlying3 (by kernel_rfl)) (Rd.readsF_cons rfl (Rd.reads_string Tryd.underlying9 (by kernel_rfl)) (Rd.readsF_cons rfl (show Rd.Reads Tryd.prog 41 (Kd.slice 122 k122) (fun l_ : List (S122) => l_.length * 32 ≤ reachBytes ∧ l_.length ≤ 9223372036854775807 ∧ ∀ a ∈ l_, ok122 a) from (Rd.reads_slice Tryd.underlying41 (by kernel_rfl) rd122).imp (fun l_ h_ => ⟨(show Tryd.prog.bytesOf 122 = 32 from by kernel_rfl) ▸ h_.1, h_.2⟩)) (Rd.readsF_cons rfl (Rd.reads_string Tryd.underlying9 (by kernel_rfl)) (Rd.readsF_cons rfl (Rd.reads_int Tryd.underlying3 (by kernel_rfl)) (Rd.readsF_one rfl (show Rd.Reads Tryd.prog 31 (Kd.slice 3 (Kd.int .i64)) (fun l_ : List Int => l_.length * 8 ≤ reachBytes ∧ l_.length ≤ 9223372036854775807 ∧ ∀ a ∈ l_, (fun x_ : Int => (Lit.int .i64 x_).wf = true) a) from (Rd.reads_slice Tryd.underlying31 (by kernel_rfl) (Rd.reads_int Tryd.underlying3 (by kernel_rfl))).imp (fun l_ h_ => ⟨(show Tryd.prog.bytesOf 3 = 8 from by kernel_rfl) ▸ h_.1, h_.2⟩))))))))).iso (fun x : S43 => (x.f0, x.f1, x.f2, x.f3, x.f4, x.f5)) (fun p_ => ⟨p_.1, p_.2.1, p_.2.2.1, p_.2.2.2.1, p_.2.2.2.2.1, p_.2.2.2.2.2⟩) (fun _ => rfl)).imp (fun _ h_ => h_)
def ok24 (x_ : S24) : Prop := (fun l_ : List (S43) => l_.length * 96 ≤ reachBytes ∧ l_.length ≤ 9223372036854775807 ∧ ∀ a ∈ l_, ok43 a) x_.f0 ∧ (fun _ : Bool => True) x_.f1
theorem rd24 : Rd.Reads Tryd.prog 24 k24 ok24 :=
  ((Rd.reads_struct Tryd.underlying24 (by kernel_rfl) (Rd.readsF_cons rfl (show Rd.Reads Tryd.prog 22 (Kd.slice 43 k43) (fun l_ : List (S43) => l_.length * 96 ≤ reachBytes ∧ l_.length ≤ 9223372036854775807 ∧ ∀ a ∈ l_, ok43 a) from (Rd.reads_slice Tryd.underlying22 (by kernel_rfl) rd43).imp (fun l_ h_ => ⟨(show Tryd.prog.bytesOf 43 = 96 from by kernel_rfl) ▸ h_.1, h_.2⟩)) (Rd.readsF_one rfl (Rd.reads_bool Tryd.underlying4 (by kernel_rfl))))).iso (fun x : S24 => (x.f0, x.f1)) (fun p_ => ⟨p_.1, p_.2⟩) (fun _ => rfl)).imp (fun _ h_ => h_)
def clerestorylaw1_DomAsks.Pure : Prop := ∀ (l0_0 : List (S43)) (a0_1 : Bool) (a1 : Int) (a2 : ByteArray), (fun l_ : List (S43) => l_.length * 96 ≤ reachBytes ∧ l_.length ≤ 9223372036854775807 ∧ ∀ a ∈ l_, ok43 a) l0_0 → (fun _ : Bool => True) a0_1 → (fun x_ : Int => (Lit.int .i64 x_).wf = true) a1 → (fun x_ : ByteArray => x_.size ≤ reachBytes) a2 → ∃ k, clerestorylaw1_DomAsks.f k l0_0 a0_1 a1 a2 = some true
end Go.Proofs.YthjnallbbhnndaaDoor.XDb
namespace Go.Proofs.YthjnallbbhnndaaDoor.Dm
open Go Go.RowKit Go.Proofs.YthjnallbbhnndaaDoor.XDb Go.Proofs.YthjnallbbhnndaaDoorW.PrintWords Go.Proofs.YthjnallbbhnndaaDoorW.PrintLast Go.Proofs.YthjnallbbhnndaaDoorW.PrintMore
set_option maxRecDepth 100000
theorem few_of_form (l0 : List S43) (q : Bool) (most : Int) (hm : 0 ≤ most ∧ most ≤ 1000) (hl : l0.length * 96 ≤ reachBytes ∧ l0.length ≤ 9223372036854775807 ∧ ∀ a ∈ l0, ok43 a) :
    ∃ ns, clerestorylaw1_few.f l0 q most = some (ns, q) ∧ (ns.length : Int) ≤ most ∧ SmallN ns ∧ KidsLe ns 17592186044416 := by
  obtain ⟨ns, hns⟩ : ∃ ns, l0.take (mn (l0.length : Int) most).toNat = ns := ⟨_, rfl⟩
  have hmn : 0 ≤ mn (l0.length : Int) most ∧ mn (l0.length : Int) most ≤ (l0.length : Int) ∧ mn (l0.length : Int) most ≤ most := by unfold mn; split <;> omega
  refine ⟨ns, ?_, by rw [← hns, List.length_take]; omega, ?_⟩
  · unfold clerestorylaw1_few.f
    rw [if_pos hmn.1, if_pos hmn.2.1, hns]
  have hok : ∀ a ∈ ns, ok43 a := fun a ha => hl.2.2 a (by rw [← hns] at ha; exact List.mem_of_mem_take ha)
  have hz : smallA (z43).f2 ∧ (z43).f1.size ≤ 140737488355328 ∧ (z43).f5.length ≤ 17592186044416 := ⟨fun x hx => by simp [z43] at hx, by decide, by decide⟩
  have hall : ∀ i : Int, smallA (q01 ns i).f2 ∧ (q01 ns i).f1.size ≤ 140737488355328 ∧ (q01 ns i).f5.length ≤ 17592186044416 := by
    intro i
    unfold q01
    by_cases c : i.toNat < ns.length
    · have e : ns.getD i.toNat z43 = ns[i.toNat] := by simp [List.getD, c]
      rw [e]
      obtain ⟨_, h1, h2, _, _, h5⟩ := hok _ (List.getElem_mem c)
      unfold reachBytes at h1 h2 h5
      refine ⟨fun x hx => ?_, by omega, by have := h5.1; omega⟩
      have := (h2.2.2 x hx).1
      unfold reachBytes at this
      omega
    · have e : ns.getD i.toNat z43 = z43 := by simp [List.getD, c]
      rw [e]
      exact hz
  exact ⟨fun i => ⟨(hall i).1, (hall i).2.1⟩, fun i => (hall i).2.2⟩
theorem both_check (ns : List S43) (q : Bool) (hS : SmallN ns) (hK : KidsLe ns 17592186044416) : ∃ K, ∀ k, K < k → dom_Check.f k ns q = some (docE ns) ∧ clerestoryref1_DocErr.f k ns q = some (docE ns) :=
  ⟨2 * ns.length + rounds ns 17592186044416, fun k hk => ⟨check_eq ns q hS 17592186044416 (by decide) hK k hk, docErr_eq ns q 17592186044416 (by decide) hK k hk⟩⟩
end Go.Proofs.YthjnallbbhnndaaDoor.Dm
namespace Go.Proofs.YthjnallbbhnndaaDoor.Pure
open Go Go.RowKit Go.Proofs.YthjnallbbhnndaaDoor.XDb Go.Proofs.YthjnallbbhnndaaDoor.Dm Go.Proofs.YthjnallbbhnndaaDoorW.PrintWords Go.Proofs.YthjnallbbhnndaaDoorW.PrintLast Go.Proofs.YthjnallbbhnndaaDoorW.PrintMore
set_option maxRecDepth 100000
theorem begunD : clerestorylaw1_domBegun.f 2000 = some true := by decide +kernel
theorem begunDK (k : Nat) (hk : 2000 ≤ k) : clerestorylaw1_domBegun.f k = some true := by
  have := more_rounds (g := fun k => clerestorylaw1_domBegun.f k) clerestorylaw1_domBegun.mono 2000 (k - 2000) _ begunD
  rw [show 2000 + (k - 2000) = k by omega] at this
  exact this
theorem sameInts_l0 (l : List Int) (hl : l.length ≤ 1000000) (d : Nat) : ∀ (i k : Nat), i + d = l.length → d < k → clerestoryref1_SameInts.l0 k l l (i : Int) = some true := by
  induction d with
  | zero =>
    intro i k hi hk
    obtain ⟨k, rfl⟩ : ∃ z, k = z + 1 := ⟨k - 1, by omega⟩
    rw [clerestoryref1_SameInts.l0, if_neg (by omega)]
  | succ d ih =>
    intro i k hi hk
    obtain ⟨k, rfl⟩ : ∃ z, k = z + 1 := ⟨k - 1, by omega⟩
    rw [clerestoryref1_SameInts.l0, if_pos (by omega), if_pos (by omega), if_pos (by omega), if_pos rfl, w1 i (by omega), ih (i + 1) k (by omega) (by omega)]
theorem sameInts_self (l : List Int) (hl : l.length ≤ 1000000) (k : Nat) (hk : l.length < k) : clerestoryref1_SameInts.f k l l = some true := by
  unfold clerestoryref1_SameInts.f
  rw [if_pos rfl]
  exact sameInts_l0 l hl l.length 0 k (by omega) hk
theorem emptyL : (⟨#[]⟩ : ByteArray).toList = [] := by first | rfl | decide +kernel | simp
section
variable {ns : List S43} (q : Bool)
theorem way_l0 (h : Tree ns) {x : Int} (h0 : 0 ≤ x) (h1 : x < ns.length) (r : List Int) (hl : r.length = q0o ns x + 1) (hr : ∀ m : Nat, m ≤ q0o ns x → rd r (m : Int) = upN ns (q0o ns x - m) x) (d : Nat) : ∀ (i k : Nat), i + d = r.length → 1 ≤ i → d + 2001 < k → clerestorylaw1_DomAsks.l0 k r (i : Int) ns q = some true := by
  have hd := (h.deep x h0 h1).1
  induction d with
  | zero =>
    intro i k hi h1i hk
    obtain ⟨k, rfl⟩ : ∃ z, k = z + 1 := ⟨k - 1, by omega⟩
    rw [clerestorylaw1_DomAsks.l0, if_neg (by omega), begunDK k (by omega), Option.bind_some]
  | succ d ih =>
    intro i k hi h1i hk
    obtain ⟨k, rfl⟩ : ∃ z, k = z + 1 := ⟨k - 1, by omega⟩
    have e1 := hr i (by omega)
    have e2 := hr (i - 1) (by omega)
    have hin := up_in h (q0o ns x - i) x h0 h1 (by omega)
    have ew : wrap64 ((i : Int) - 1) = ((i - 1 : Nat) : Int) := by unfold wrap64; omega
    have ep : par ns (upN ns (q0o ns x - i) x) = upN ns (q0o ns x - (i - 1)) x := by rw [← upN_succ, show q0o ns x - i + 1 = q0o ns x - (i - 1) by omega]
    rw [clerestorylaw1_DomAsks.l0, if_pos (by omega), if_pos (by omega), e1, if_neg (by omega), if_neg (by omega), if_pos hin.1, if_pos hin.2, ew, if_pos (by omega), if_pos (by omega), e2]
    rw [if_pos (show (q01 ns (upN ns (q0o ns x - i) x)).f4 = _ from ep), w1 i (by omega), ih (i + 1) k (by omega) (by omega) (by omega)]
theorem asks_j3 (h : Tree ns) {x : Int} (h0 : 0 ≤ x) (h1 : x < ns.length) (k : Nat) (hk : 3000 < k) (r : List Int) (hl : r.length = q0o ns x + 1) (hr : ∀ m : Nat, m ≤ q0o ns x → rd r (m : Int) = upN ns (q0o ns x - m) x) :
    clerestorylaw1_DomAsks.j3 k x (if upN ns (q0o ns x) x = 0 then (r, (0 : Int)) else ([], 5)).1 (if upN ns (q0o ns x) x = 0 then (r, (0 : Int)) else ([], 5)).2 ns q = some true := by
  obtain ⟨k, rfl⟩ : ∃ z, k = z + 2 := ⟨k - 2, by omega⟩
  have hd := h.deep x h0 h1
  have hm := h.many
  rw [clerestorylaw1_DomAsks.j3, under_eq h q h0 h1 _ (by omega), Option.bind_some]
  by_cases c : upN ns (q0o ns x) x = 0
  · rw [if_pos (decide_eq_true c), if_pos c, if_pos rfl]
    have hir : InR ns := fun i h0 h1 => by
      rcases h.up i h0 h1 with e | e
      · omega
      · exact e.2.1
    have hdp := deep_eq ns q (by omega) hir x h0 h1 (k + 1) (by omega)
    rw [if_neg (show ¬ ns.length < q1k ns (ns.length + 1) x from Nat.not_lt.2 hd.2)] at hdp
    have ez : rd r 0 = 0 := by have := hr 0 (Nat.zero_le _); rw [Nat.sub_zero, c] at this; exact this
    have el : rd r ((q0o ns x : Nat) : Int) = x := by have := hr (q0o ns x) (Nat.le_refl _); rw [Nat.sub_self] at this; exact this
    rw [hdp, Option.bind_some, show ((q1k ns (ns.length + 1) x : Nat) : Int) = ((q0o ns x : Nat) : Int) from rfl, w1 _ (by omega), if_pos (by rw [hl]), if_pos (by rw [hl]; omega), if_pos ez, hl, show wrap64 (((q0o ns x + 1 : Nat) : Int) - 1) = ((q0o ns x : Nat) : Int) by unfold wrap64; omega, if_pos (by omega), if_pos (by omega), el]
    rw [clerestorylaw1_DomAsks.j4, if_neg (by simp)]
    exact way_l0 q h h0 h1 r hl hr (r.length - 1) 1 k (by omega) (Nat.le_refl _) (by omega)
  · rw [if_neg (by simpa using c), if_neg c, begunDK _ (by omega), Option.bind_some, if_pos rfl, if_pos rfl]
    rfl
theorem asks_j2 (h : DocOk ns) (nm : ByteArray) {x : Int} (h0 : 0 ≤ x) (h1 : x < ns.length) (k : Nat) (hk : 3001 < k) (r : List Int) (e : Int) (H : ∀ k, 3000 < k → clerestorylaw1_DomAsks.j3 k x r e ns q = some true) :
    clerestorylaw1_DomAsks.j2 k x nm r e (if kindN ns x = 2 then (attrV (q01 ns x).f2 nm, hasA (q01 ns x).f2 nm, (0 : Int)) else (⟨#[]⟩, false, 7)).1 (if kindN ns x = 2 then (attrV (q01 ns x).f2 nm, hasA (q01 ns x).f2 nm, (0 : Int)) else (⟨#[]⟩, false, 7)).2.1 (if kindN ns x = 2 then (attrV (q01 ns x).f2 nm, hasA (q01 ns x).f2 nm, (0 : Int)) else (⟨#[]⟩, false, 7)).2.2 false ns q = some true := by
  obtain ⟨k, rfl⟩ : ∃ z, k = z + 1 := ⟨k - 1, by omega⟩
  have hl := (nodeE_text (h.node x h0 h1)).2.2
  rw [clerestorylaw1_DomAsks.j2, if_neg Bool.false_ne_true, if_pos h0, if_pos h1]
  by_cases c : kindN ns x = 2
  · rw [if_pos (show (q01 ns x).f0 = 2 from c), if_pos c, attrOf_eq _ nm (by omega) k (by omega), Option.bind_some, if_pos rfl, if_pos rfl, if_neg (by simp)]
    exact H k (by omega)
  · rw [if_neg (show ¬ (q01 ns x).f0 = 2 from c), if_neg c, if_pos rfl, if_pos emptyL, if_neg Bool.false_ne_true]
    exact H k (by omega)
end
theorem DomAsks : clerestorylaw1_DomAsks.Pure := by
  intro l0 q x nm hl _ _ _
  obtain ⟨ns, hf, hlen, hS, hK⟩ := few_of_form l0 q 60 (by omega) hl
  obtain ⟨K, hKk⟩ := both_check ns q hS hK
  refine ⟨K + 20000, ?_⟩
  obtain ⟨h1, h2⟩ := hKk (K + 20000) (by omega)
  generalize hk : K + 20000 = k at h1 h2 ⊢
  have hk2 : 20000 ≤ k := by omega
  clear hk hKk hl
  have hs : ∀ i : Int, (q01 ns i).f2.length ≤ 1000000 ∨ docE ns ≠ 0 := by
    intro i
    by_cases c : docE ns = 0
    · left
      have h := (docE_iff ns).1 c
      by_cases hi : 0 ≤ i ∧ i < ns.length
      · have := (nodeE_text (h.node i hi.1 hi.2)).2.2
        omega
      · have : ns.length ≤ i.toNat ∨ i.toNat = 0 := by omega
        rcases this with hn | hn
        · have e : q01 ns i = z43 := by
            unfold q01
            rw [List.getD_eq_getElem?_getD, List.getElem?_eq_none (by omega)]
            rfl
          rw [e]; decide
        · have e : q01 ns i = q01 ns 0 := by unfold q01; rw [hn]; rfl
          rw [e]
          have := (nodeE_text (h.node 0 (by omega) (by have := h.some_; omega))).2.2
          omega
    · exact .inr c
  have ho := order_eq ns q k (by omega) h1
  have ha := dattr_eq ns q x nm hs k (by omega) h1
  unfold clerestorylaw1_DomAsks.f
  rw [hf, Option.bind_some]
  show ((dom_Order.f k ns q).bind fun bt296 => (dom_Path.f k ns q x).bind fun bt300 => _) = some true
  rw [ho, Option.bind_some]
  by_cases c : docE ns = 0
  · have h := (docE_iff ns).1 c
    have ht := textOf_eq h q x k (by omega) h1
    have hsub := sub_few h.tree (i := 0) (by omega) (by have := h.some_; omega)
    unfold dom_Path.f
    rw [ask_eq ns q x k h1, Option.bind_some, if_pos c]
    by_cases ce : askE ns x = 0
    · obtain ⟨_, x0, x1⟩ := askE_zero ce
      obtain ⟨r, hr1, hr2, hr3⟩ := dpath_eq h.tree q x0 x1 k (by omega)
      rw [if_pos ce, hr1, Option.bind_some, ha, Option.bind_some, ht, Option.bind_some, h2, Option.bind_some, if_pos c, if_pos rfl, below_all h.tree q 0 (by omega) (by have := h.some_; omega) k (by omega), Option.bind_some, sameInts_self (sub ns 0) (by have := h.many; omega) k (by have := h.many; omega), Option.bind_some, if_pos ce, if_pos ce]
      obtain ⟨k, rfl⟩ : ∃ z, k = z + 3 := ⟨k - 3, by omega⟩
      rw [show (!true) = false from rfl, clerestorylaw1_DomAsks.j0, if_neg Bool.false_ne_true, if_neg (by omega), show decide (x ≥ (ns.length : Int)) = false from decide_eq_false (by omega), clerestorylaw1_DomAsks.j1, if_neg Bool.false_ne_true, if_pos rfl, ref_eq h q 41 x (by omega) x0 x1 _ (by omega), Option.bind_some, show ((q1h ns x).toList != (q1h ns x).toList) = false by simp]
      exact asks_j2 q h nm x0 x1 _ (by omega) _ _ fun k hk => asks_j3 q h.tree x0 x1 k hk r hr2 hr3
    · have ce1 : askE ns x = 1 := by
        unfold askE at ce ⊢
        rw [if_pos c] at ce ⊢
        split
        · rfl
        · rename_i hh; rw [if_neg hh] at ce; exact absurd rfl ce
      have hx : x < 0 ∨ (ns.length : Int) ≤ x := by
        unfold askE at ce1
        rw [if_pos c] at ce1
        by_cases hh : x < 0 ∨ (ns.length : Int) ≤ x
        · exact hh
        · rw [if_neg hh] at ce1; cases ce1
      rw [if_neg ce, Option.bind_some, ha, Option.bind_some, ht, Option.bind_some, h2, Option.bind_some, if_pos c, if_pos rfl, below_all h.tree q 0 (by omega) (by have := h.some_; omega) k (by omega), Option.bind_some, sameInts_self (sub ns 0) (by have := h.many; omega) k (by have := h.many; omega), Option.bind_some, if_neg ce, if_neg ce, ce1]
      obtain ⟨k, rfl⟩ : ∃ z, k = z + 3 := ⟨k - 3, by omega⟩
      have hj : clerestorylaw1_DomAsks.j1 (k + 2) x nm [] 1 ⟨#[]⟩ false 1 ⟨#[]⟩ 1 true ns q = some true := by
        rw [clerestorylaw1_DomAsks.j1, if_pos rfl, begunDK _ (by omega), Option.bind_some, if_pos rfl, if_pos rfl, if_pos rfl, if_pos rfl, if_pos (show (([] : List Int).length : Int) = 0 from rfl), if_pos emptyL, if_neg Bool.false_ne_true, emptyL]
        rfl
      rw [show (!true) = false from rfl, clerestorylaw1_DomAsks.j0, if_neg Bool.false_ne_true]
      by_cases c0 : x < 0
      · rw [if_pos c0]; exact hj
      · rw [if_neg c0, show decide (x ≥ (ns.length : Int)) = true from decide_eq_true (by omega)]; exact hj
  · unfold dom_Path.f
    have ce : askE ns x = docE ns := by unfold askE; rw [if_neg c]
    have hask := ask_eq ns q x k h1
    rw [ce] at hask ha
    unfold dom_TextOf.f
    rw [hask, Option.bind_some, if_neg c, if_neg c, Option.bind_some, ha, if_neg c, Option.bind_some, Option.bind_some, if_neg c, Option.bind_some, h2, Option.bind_some, if_neg c, begunDK k (by omega), Option.bind_some, if_pos rfl, if_pos rfl, if_pos rfl, if_pos rfl, if_pos rfl]
    show (if wrap64 ((([] : List Int).length : Int) + (([] : List Int).length : Int)) = 0 then (if (⟨#[]⟩ : ByteArray).toList = ([] : List UInt8) then (if false = true then some false else some ((⟨#[]⟩ : ByteArray).toList == ([] : List UInt8))) else some false) else some false) = some true
    rw [if_pos (show wrap64 ((([] : List Int).length : Int) + (([] : List Int).length : Int)) = 0 by unfold wrap64; simp), if_pos emptyL, if_neg Bool.false_ne_true, emptyL]
    rfl
end Go.Proofs.YthjnallbbhnndaaDoor.Pure
namespace Go.Proofs.YthjnallbbhnndaaDoor
open Go Go.Shelf Go.ChangeShapes Go.WideShapes Go.ChangeAt Go.RowKit Go.Lib
def lay2 : List (String × DataW Unit) := [("unicode/utf8.acceptRanges", Rows.laid_unicode_utf8_acceptRanges), ("unicode/utf8.first", Rows.laid_unicode_utf8_first)]
noncomputable def laidWorld (os : Os) : World :=
  let w0 := World.holding Tryd.prog os ⟨#[], #[], []⟩
  let put (h : Array Obj) (g : Nat) (cs : Array Value) : Array Obj := h.modify g fun
    | .cells _ t frozen => .cells cs t frozen
    | o => o
  let h1 := put w0.heap 1 (Lib.firstTab.map fun z => Value.int .u8 z).toArray
  let h2 := put h1 2 ((List.range 16).flatMap fun i => [Value.int .u8 (Lib.accLo i), Value.int .u8 (Lib.accHi i)]).toArray
  { w0 with heap := h2 }
theorem laid_met (os : Os) (args : Array Value) : laidMet Tryd.prog lay2 ((laidWorld os).forCall (fun _ _ => 0) ⟨#[], args, []⟩).memory :=
  (LaidIn.of_run (l := lay2) [2, 1] 8 (by kernel_rfl) (by kernel_rfl) (by kernel_rfl) (by kernel_rfl)).met
theorem own_ : ownKnob Tryd.prog.godebug = none := by kernel_rfl
theorem laidOut_ : laidOutB Tryd.prog = true := by kernel_rfl
end Go.Proofs.YthjnallbbhnndaaDoor
