/- What the form of a row reads as data of a type (numbers, bools, strings, slices, structs, nested) are cells of a kind of the print's: proved once for each way that kinds are put together. Conditions: each statement's own. -/
import Derived.Test.YtjlgbakdnenjhaaDoorWWords
import Derived.ProofKit
import Derived.SizedLaws
import Derived.Deep.Slices
namespace Go.Proofs.YtjlgbakdnenjhaaDoor.Rd
open Go.ChangeShapes Go.WideShapes Go.ChangeAt Go.RowKit Go.Proofs.YtjlgbakdnenjhaaDoorW.PrintWords

/-- The reading of type t gives cells of kind k, of a value of which Q holds. -/
def Reads {α : Type} (P : Program) (t : TypeId) (k : Kd α) (Q : α → Prop) : Prop :=
  P.cellsOf t = k.sz ∧ ∀ (H : Type) (enc : TypeId × Value → H) (w : World) (fuel : Nat) (cs : List Value) (x : DataW H × List MemPlace),
    DataW.trod enc P w 0 (fun _ => true) true fuel t cs = some x → (∀ n ∈ x.1.weights P t, n ≤ reachBytes) → ∃ a : α, k.K w a cs ∧ Q a

variable {P : Program} {t : TypeId}

theorem Reads.imp {α : Type} {k : Kd α} {Q Q' : α → Prop} (h : Reads P t k Q) (hq : ∀ a, Q a → Q' a) : Reads P t k Q' := by
  refine ⟨h.1, fun H enc w fuel cs x hx hw => ?_⟩
  obtain ⟨a, ha, hq'⟩ := h.2 H enc w fuel cs x hx hw
  exact ⟨a, ha, hq a hq'⟩

theorem reads_int {k : IntKind} (ht : P.underlying t = some (.int k)) (hc : P.cellsOf t = 1) : Reads P t (Kd.int k) (fun n => (Lit.int k n).wf = true) := by
  refine ⟨hc, fun H enc w fuel cs x hx _ => ?_⟩
  obtain ⟨n, rfl, _, hw⟩ := DataW.trod_int ht hx
  exact ⟨n, rfl, hw⟩

theorem reads_bool (ht : P.underlying t = some .bool) (hc : P.cellsOf t = 1) : Reads P t Kd.bool (fun _ => True) := by
  refine ⟨hc, fun H enc w fuel cs x hx _ => ?_⟩
  obtain ⟨b, rfl, _⟩ := DataW.trod_bool ht hx
  exact ⟨b, rfl, trivial⟩

theorem reads_string (ht : P.underlying t = some .string) (hc : P.cellsOf t = 1) : Reads P t Kd.string (fun s => s.size ≤ reachBytes) := by
  refine ⟨hc, fun H enc w fuel cs x hx hw => ?_⟩
  obtain ⟨s, rfl, rfl, _⟩ := DataW.trod_string ht hx
  exact ⟨s, rfl, by simpa [DataW.weights] using hw⟩

theorem weightsAll_mem {H : Type} {e : TypeId} : ∀ {l : List (DataW H)} {d : DataW H}, d ∈ l → ∀ n ∈ d.weights P e, n ∈ DataW.weightsAll P e l
  | a :: l, d, hd, n, hn => by
    unfold DataW.weightsAll
    rcases List.mem_cons.1 hd with rfl | h
    · exact List.mem_append_left _ hn
    · exact List.mem_append_right _ (weightsAll_mem h n hn)

theorem choose_list {α : Type} {p : Nat → α → Prop} : ∀ (n : Nat), (∀ i, i < n → ∃ a, p i a) → ∃ l : List α, l.length = n ∧ ∀ i a, l[i]? = some a → p i a
  | 0, _ => ⟨[], rfl, fun i a h => by simp at h⟩
  | n + 1, h => by
    obtain ⟨l, hl, hp⟩ := choose_list n (fun i hi => h i (by omega))
    obtain ⟨a, ha⟩ := h n (by omega)
    refine ⟨l ++ [a], by simp [hl], fun i b hb => ?_⟩
    by_cases hi : i < l.length
    · rw [List.getElem?_append_left hi] at hb
      exact hp i b hb
    · have := (List.getElem?_eq_some_iff.1 hb).1
      simp at this
      have e : i = l.length := by omega
      subst e
      simp at hb
      subst hb
      rw [hl]
      exact ha

theorem reads_slice {e : TypeId} {α : Type} {k : Kd α} {Q : α → Prop} (ht : P.underlying t = some (.slice e)) (hc : P.cellsOf t = 1) (he : Reads P e k Q) :
    Reads P t (Kd.slice e k) (fun l => l.length * P.bytesOf e ≤ reachBytes ∧ l.length ≤ 9223372036854775807 ∧ ∀ a ∈ l, Q a) := by
  refine ⟨hc, fun H enc w fuel cs x hx hw => ?_⟩
  rcases DataW.trod_slice ht hx with ⟨rfl, rfl⟩ | ⟨a, len, cap, elems, rest, n, _, rfl, rfl, _, hl, hm, hlen, hel, _, _⟩
  · exact ⟨[], ⟨none, 0, rfl, Nat.le_refl _, ⟨rfl, by simp, fun h => absurd h (by simp)⟩⟩, by simp, by simp, by simp⟩
  · have hw' : ∀ m ∈ ((elems.map (·.1)).length + (rest.map (·.1)).length) * P.bytesOf e :: (DataW.weightsAll P e (elems.map (·.1)) ++ DataW.weightsAll P e (rest.map (·.1))), m ≤ reachBytes := by
      have := hw
      unfold DataW.weights at this
      rw [ht] at this
      exact this
    have each : ∀ i, i < len → ∃ b, (∃ c, w.cells? 0 (a.add (i * P.cellsOf e)) (P.cellsOf e) = some c ∧ k.K w b c) ∧ Q b := by
      intro i hi
      have h1 := hel i hi
      have hi' : i < elems.length := by omega
      rw [List.getElem?_eq_getElem hi', Option.bind_eq_some_iff] at h1
      obtain ⟨c, hcs, hy⟩ := h1
      obtain ⟨b, hb, hq⟩ := he.2 H enc w n c _ hy (fun m hm' => hw' m (List.mem_cons_of_mem _ (List.mem_append_left _ (weightsAll_mem (List.mem_map.2 ⟨_, List.getElem_mem hi', rfl⟩) m hm'))))
      exact ⟨b, ⟨c, hcs, hb⟩, hq⟩
    obtain ⟨l, hll, hp⟩ := choose_list len each
    have hmax : len ≤ 9223372036854775807 := by unfold maxLen at hm; omega
    refine ⟨l, ⟨some a, cap, by rw [hll], by omega, ⟨rfl, by omega, fun _ => ⟨a, rfl, fun j p hj => ?_⟩⟩⟩, ?_, by omega, fun b hb => ?_⟩
    · obtain ⟨⟨c, hcs, hb⟩, _⟩ := hp j p hj
      refine ⟨c, k.K_len hb, hb, fun i u hu => ?_⟩
      obtain ⟨_, hlen', hcell⟩ := World.cells?_some hcs
      have hi := (List.getElem?_eq_some_iff.1 hu).1
      have := hcell i (by omega)
      rw [hu, Go.Deep.add_add] at this
      rw [← he.1]
      exact this
    · have := hw' _ (List.mem_cons_self ..)
      simp only [List.length_map] at this
      rw [hll, ← hlen]
      exact Nat.le_trans (Nat.mul_le_mul_right _ (Nat.le_add_right _ _)) this
    · obtain ⟨i, hi⟩ := List.getElem?_of_mem hb
      exact (hp i b hi).2

/-- The same of the fields of a struct from one place on. -/
def ReadsF {α : Type} (P : Program) (fs : List Field) (off : Nat) (k : Kd α) (Q : α → Prop) : Prop :=
  ∀ (H : Type) (enc : TypeId × Value → H) (w : World) (n : Nat) (cs : List Value) (xs : List (DataW H × List MemPlace)), xs.length = fs.length →
    (∀ (i : Nat) (f : Field), fs[i]? = some f → DataW.trod enc P w 0 (fun _ => true) true n f.type ((cs.drop f.offset).take (P.cellsOf f.type)) = xs[i]?) →
    (∀ m ∈ DataW.weightsEach P (fs.map (·.type)) (xs.map (·.1)), m ≤ reachBytes) → cs.length = off + k.sz → ∃ a : α, k.K w a (cs.drop off) ∧ Q a

theorem readsF_one {f : Field} {off : Nat} {α : Type} {k : Kd α} {Q : α → Prop} (hf : f.offset = off) (h : Reads P f.type k Q) : ReadsF P [f] off k Q := by
  intro H enc w n cs xs hl hx hw hc
  obtain ⟨y, rfl⟩ : ∃ y, xs = [y] := by
    match xs, hl with
    | [y], _ => exact ⟨y, rfl⟩
  have h1 := hx 0 f rfl
  rw [hf, h.1, List.take_of_length_le (by rw [List.length_drop]; omega)] at h1
  exact h.2 H enc w n _ y h1 (fun m hm => hw m (by simp [DataW.weightsEach, hm]))

theorem readsF_cons {f : Field} {fs : List Field} {off : Nat} {α β : Type} {k1 : Kd α} {k2 : Kd β} {Q1 : α → Prop} {Q2 : β → Prop} (hf : f.offset = off) (h : Reads P f.type k1 Q1) (hr : ReadsF P fs (off + k1.sz) k2 Q2) :
    ReadsF P (f :: fs) off (Kd.pair k1 k2) (fun p => Q1 p.1 ∧ Q2 p.2) := by
  intro H enc w n cs xs hl hx hw hc
  obtain ⟨y, ys, rfl⟩ : ∃ y ys, xs = y :: ys := by
    match xs, hl with
    | y :: ys, _ => exact ⟨y, ys, rfl⟩
  have h1 := hx 0 f rfl
  rw [hf, h.1] at h1
  have hsz : (Kd.pair k1 k2).sz = k1.sz + k2.sz := rfl
  obtain ⟨a, ha, hqa⟩ := h.2 H enc w n _ y h1 (fun m hm => hw m (by simp [DataW.weightsEach, hm]))
  obtain ⟨b, hb, hqb⟩ := hr H enc w n cs ys (by simpa using hl) (fun i g hg => by simpa using hx (i + 1) g (by simpa using hg)) (fun m hm => hw m (by simp [DataW.weightsEach]; exact .inr (by simpa using hm))) (by omega)
  refine ⟨(a, b), ⟨_, _, ?_, ha, hb⟩, hqa, hqb⟩
  rw [← List.drop_drop, List.take_append_drop]

theorem reads_struct {fs : Array Field} {α : Type} {k : Kd α} {Q : α → Prop} (ht : P.underlying t = some (.struct fs)) (hc : P.cellsOf t = k.sz) (h : ReadsF P fs.toList 0 k Q) : Reads P t k Q := by
  refine ⟨hc, fun H enc w fuel cs x hx hw => ?_⟩
  obtain ⟨xs, n, _, rfl, hl, hlen, hf⟩ := DataW.trod_struct ht hx
  have := h H enc w n cs xs (by simpa using hlen) (fun i f hi => hf i f (by simpa using hi)) (fun m hm => hw m (by unfold DataW.weights; rw [ht]; exact hm)) (by omega)
  simpa using this

theorem Reads.iso {α β : Type} {k : Kd α} {Q : α → Prop} (h : Reads P t k Q) (f : β → α) (g : α → β) (hg : ∀ a, f (g a) = a) : Reads P t (Kd.iso k f) (fun b => Q (f b)) := by
  refine ⟨h.1, fun H enc w fuel cs x hx hw => ?_⟩
  obtain ⟨a, ha, hq⟩ := h.2 H enc w fuel cs x hx hw
  exact ⟨g a, by show k.K w (f (g a)) cs; rw [hg]; exact ha, by show Q (f (g a)); rw [hg]; exact hq⟩

/-- An argument that is a slice, opened. -/
theorem open_slice_arg {H : Type} {enc : TypeId × Value → H} {r : Reach} {b0 : Nat} {w : World} {e : TypeId} {α : Type} {k : Kd α} {Q : List α → Prop} {v : Value} {d : DataW H} {p : List MemPlace}
    (hr : Reads P t (Kd.slice e k) Q) (ht : P.underlying t = some (.slice e)) (hv : Value.okWide P w r b0 t v) (h : DataW.Trod enc P w 0 (fun _ => true) true t v d p) (hw : ∀ n ∈ d.weights P t, n ≤ reachBytes) :
    ∃ (A : Option Addr) (c : Nat) (l : List α), v = .slice A l.length c ∧ l.length ≤ c ∧ Kd.C k w A l.length l ∧ Q l := by
  obtain ⟨a0, len, cap, rfl⟩ := okWide_slice ht hv
  obtain ⟨fuel, hf⟩ := h
  obtain ⟨l, ⟨A, c, hcs, hlc, hC⟩, hq⟩ := hr.2 H enc w fuel _ _ hf hw
  simp only [Value.cells, List.cons.injEq, and_true] at hcs
  exact ⟨A, c, l, hcs, hlc, hC, hq⟩

/-- An argument that is a struct, opened. -/
theorem open_struct_arg {H : Type} {enc : TypeId × Value → H} {r : Reach} {b0 : Nat} {w : World} {fs : Array Field} {α : Type} {k : Kd α} {Q : α → Prop} {v : Value} {d : DataW H} {p : List MemPlace}
    (hr : Reads P t k Q) (ht : P.underlying t = some (.struct fs)) (hv : Value.okWide P w r b0 t v) (h : DataW.Trod enc P w 0 (fun _ => true) true t v d p) (hw : ∀ n ∈ d.weights P t, n ≤ reachBytes) :
    ∃ (cs : List Value) (x : α), v = .agg ⟨cs⟩ ∧ k.K w x cs ∧ Q x := by
  obtain ⟨cs, rfl, _⟩ := okWide_struct ht hv
  obtain ⟨fuel, hf⟩ := h
  obtain ⟨x, hx, hq⟩ := hr.2 H enc w fuel _ _ hf hw
  exact ⟨cs.toList, x, rfl, hx, hq⟩

/-- The weights of the j-th argument. -/
theorem weights_arg {H : Type} {ts : List TypeId} {ds : List (DataW H)} (h : (DataW.weightsEach P ts ds).all (· ≤ reachBytes) = true) {j : Nat} {d : DataW H} (ht : ts[j]? = some t) (hd : ds[j]? = some d) : ∀ n ∈ d.weights P t, n ≤ reachBytes := by
  intro n hn
  have := DataW.weights_mem_each ht hd n hn
  simpa using (List.all_eq_true.1 h) n this
end Go.Proofs.YtjlgbakdnenjhaaDoor.Rd
