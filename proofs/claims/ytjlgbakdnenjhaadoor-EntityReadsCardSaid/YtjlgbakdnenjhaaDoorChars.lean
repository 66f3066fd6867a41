/- chars.write and chars.Encode: the builder gets each sign's bytes; the text is all of them in line. Conditions: the signs fit in 32 bits, there are at most 2^44 of them. -/
import Derived.Test.YtjlgbakdnenjhaaDoorBuilder
import Derived.Test.YtjlgbakdnenjhaaDoorWWords
import Derived.Test.YtjlgbakdnenjhaaDoorWLast
import Derived.Test.YtjlgbakdnenjhaaDoorWMore
import Derived.Deep.LoopGhost
import Derived.Lib.Hide
import Derived.Outline
namespace Go.Proofs.YtjlgbakdnenjhaaDoor.Ch
open Go.Shelf Go.RowKit Go.Proofs.YtjlgbakdnenjhaaDoorW.PrintWords Go.Proofs.YtjlgbakdnenjhaaDoor.Bd

theorem at_int {w : World} {k : IntKind} {A : Option Addr} {n : Nat} {xs : List Int} (h : Kd.C (Kd.int k) w A n xs) (i : Nat) (hi : i < n) : ∃ ad, A = some ad ∧ w.cell? (ad.add i) = some (.int k (xs.getD i 0)) := by
  obtain ⟨ad, c, e, _, hK, hc⟩ := Kd.C_get h 0 (i : Int) (by omega) (by omega)
  refine ⟨ad, e, ?_⟩
  have hK' : c = [.int k (xs.getD (i : Int).toNat 0)] := hK
  have := hc 0 _ (by rw [hK']; rfl)
  have e1 : (i : Int).toNat * (Kd.int k).sz + 0 = i := by show (i : Int).toNat * 1 + 0 = i; omega
  rw [e1] at this
  simpa using this

theorem builder_mono {T e : TypeId} {B b : Nat} {bs : List Value} {w : World} (h : Lib.BuilderAtF T e B b (.pointer (some ⟨b, 0, none⟩)) bs w) : Lib.IsBuilderF T e B b bs w := .inr h

theorem cells_valid (r : Int) : Lib.runeCells (if Lib.validRune r = true then r else 65533) = Lib.runeCells r := by
  split
  · rfl
  · rename_i h
    unfold Lib.runeCells
    rw [Lib.encodeRuneZ_bad (r := r)]
    · rw [Lib.encodeRuneZ_three (by omega)]; rfl
    · unfold Lib.validRune at h
      simp only [decide_eq_true_eq] at h
      omega

set_option maxHeartbeats 1000000 in
set_option maxRecDepth 100000 in
theorem write_ok (B b : Nat) (bs : List Value) (r : Int) (hr0 : -2147483648 ≤ r) (hr1 : r ≤ 2147483647) (w : World) (h : Lib.IsBuilderF TB T8 B b bs w) (hlen : bs.length + 4 ≤ 140737488355328) (hBw : B ≤ w.heap.size) :
    Calls Tryd.prog 20 #[.pointer (some ⟨b, 0, none⟩), .int .i32 r] w fun e w' => e = .returned (.tuple #[]) ∧ (Lib.IsBuilderF TB T8 B b (bs ++ Lib.runeCells r) w' ∧ Below B w w') := by
  have hcv := cells_valid r
  cases hv : Lib.validRune r with
  | true =>
    rw [hv, if_pos rfl] at hcv
    clear hcv
    have HV := Lib.hid hv
    clear hv
    go_enter Tryd.func20, Tryd.ntmps20
    go_wp2_with (first | (go_at_call 33; refine (Tryd.utf8_ValidRune r _).mono ?_; rintro e w' ⟨rfl, rfl⟩; rw [HV.out]) | (go_at_call 34; refine (writeRune B b bs r hr0 hr1 _ h hlen hBw).mono ?_))
    rintro e w1 ⟨rfl, h1, hb1, _⟩
    go_wp2
    go_end0
    exact ⟨rfl, builder_mono h1, hb1⟩
  | false =>
    rw [hv, if_neg (by decide)] at hcv
    have HV := Lib.hid hv
    have HC := Lib.hid hcv
    clear hv hcv
    go_enter Tryd.func20, Tryd.ntmps20
    go_wp2_with (first | (go_at_call 33; refine (Tryd.utf8_ValidRune r _).mono ?_; rintro e w' ⟨rfl, rfl⟩; rw [HV.out]) | (go_at_call 34; refine (writeRune B b bs 65533 (by omega) (by omega) _ h hlen hBw).mono ?_))
    rintro e w1 ⟨rfl, h1, hb1, _⟩
    go_wp2
    go_end0
    exact ⟨rfl, by rw [← HC.out]; exact builder_mono h1, hb1⟩

/-- The signs' bytes, in line. -/
def bytesOfSigns (l : List Int) : List UInt8 := l.flatMap Lib.encodeRune

theorem bytesOfSigns_snoc (l : List Int) (r : Int) : bytesOfSigns (l ++ [r]) = bytesOfSigns l ++ Lib.encodeRune r := by simp [bytesOfSigns]

theorem bytesOfSigns_le (l : List Int) : (bytesOfSigns l).length ≤ 4 * l.length := by
  induction l with
  | nil => simp [bytesOfSigns]
  | cons r t ih =>
    have := Lib.encodeRuneZ_length r
    simp only [bytesOfSigns, List.flatMap_cons, List.length_append, List.length_cons] at ih ⊢
    have e : (Lib.encodeRune r).length = (Lib.encodeRuneZ r).length := by simp [Lib.encodeRune]
    omega

theorem take_snoc_getD (l : List Int) (k : Nat) (h : k < l.length) : l.take (k + 1) = l.take k ++ [l.getD k 0] := by
  rw [List.take_succ_eq_append_getElem h, List.getD_eq_getElem?_getD, List.getElem?_eq_getElem h]
  rfl

theorem builder_new (w : World) : Lib.IsBuilderF TB T8 w.heap.size w.heap.size (Lib.byteCells []) (w.alloc (.cells #[.pointer none, .slice none 0 0] TB)) := by
  refine .inl ⟨Nat.le_refl _, .slice none 0 0, heap_alloc_new w _, ⟨by simp [Lib.byteCells], .inl ⟨rfl, rfl⟩⟩, by simp [Value.ownBlock]⟩

theorem step_cells (l : List Int) (k : Nat) (h : k < l.length) : Lib.byteCells (bytesOfSigns (l.take k)) ++ Lib.runeCells (l.getD k 0) = Lib.byteCells (bytesOfSigns (l.take (k + 1))) := by
  rw [take_snoc_getD l k h, bytesOfSigns_snoc, Lib.byteCells_append, Lib.byteCells_encodeRune]

set_option maxHeartbeats 1000000 in
set_option maxRecDepth 100000 in
theorem encode_ok (A0 : Option Addr) (c0 : Nat) (l0 : List Int) (w : World) (hr0 : Kd.C (Kd.int .i32) w A0 l0.length l0) (hw : ∀ r ∈ l0, -2147483648 ≤ r ∧ r ≤ 2147483647) (hl : l0.length ≤ 17592186044416) :
    Calls Tryd.prog 7 #[.slice A0 l0.length c0] w fun e w' => e = .returned (.string ⟨(bytesOfSigns l0).toArray⟩) ∧ Below w.heap.size w w' := by
  have HR := Lib.hid hr0
  have HW := Lib.hid hw
  clear hr0 hw
  go_enter Tryd.func7, Tryd.ntmps7
  go_wp2
  go_loopw [8] (fun i wr => ∃ k : Nat, k ≤ l0.length ∧ i = .int .i64 k ∧ Hid (Lib.IsBuilderF TB T8 w.heap.size w.heap.size (Lib.byteCells (bytesOfSigns (l0.take k))) wr) ∧ Hid (Below w.heap.size w wr)) (fun i _ => l0.length - (intOf i).toNat)
  case atStart => exact ⟨0, Nat.zero_le _, rfl, Lib.hid (builder_new w), Lib.hid ((Below.refl _ _).alloc (Nat.le_refl _) _)⟩
  case round =>
    obtain ⟨k, hk, rfl, hbd, hbl⟩ := hrel
    by_cases hlt : k < l0.length
    · obtain ⟨ad, e, hx⟩ := at_int HR.out k hlt
      cases e
      have hx' := (hbl.out.cell (World.block_lt_of_cell? w _ hx)).trans hx
      clear hx
      obtain ⟨g0, g1⟩ := HW.out (l0.getD k 0) (by rw [List.getD_eq_getElem?_getD, List.getElem?_eq_getElem hlt]; exact List.getElem_mem hlt)
      have hst := Lib.hid (step_cells l0 k hlt)
      have hle := bytesOfSigns_le (l0.take k)
      have hle2 : (l0.take k).length ≤ l0.length := by rw [List.length_take]; omega
      have hlen : (Lib.byteCells (bytesOfSigns (l0.take k))).length + 4 ≤ 140737488355328 := by rw [Lib.byteCells_length]; omega
      have hsz := hbl.out.size
      generalize l0.getD k 0 = r at hx' g0 g1 hst
      go_wp2_with (go_at_call 20; refine (write_ok w.heap.size w.heap.size _ r g0 g1 _ hbd.out hlen hsz).mono ?_; rintro e w1 ⟨rfl, h1, hb1⟩)
      go_roundw
      case rel => exact ⟨k + 1, by omega, by go_num, Lib.hid (by rw [← hst.out]; exact h1), Lib.hid (hbl.out.trans hb1)⟩
      case measure => simp [intOf]; omega
    · have e : k = l0.length := by omega
      subst e
      rw [List.take_length] at hbd
      have hsz := hbl.out.size
      go_wp2_with (go_at_call 21; refine (Tryd.Builder_String_any_k w.heap.size w.heap.size _ _ hbd.out hsz).mono ?_; rintro e w1 ⟨rfl, _, hb1, _⟩)
      go_ret
      exact ⟨rfl, hbl.out.trans hb1⟩
end Go.Proofs.YtjlgbakdnenjhaaDoor.Ch
