/- Written by this session's program (wip/xp) out of the translation as Lean prints it: for each Go function a Lean function and the proof that the code answers just so, on the conditions named in each statement. -/
import Derived.Test.YthecjfkafpndoaaXEn0
import Derived.Test.YthecjfkafpndoaaXEn1
import Derived.Test.YthecjfkafpndoaaXEn2
import Derived.Test.YthecjfkafpndoaaXEn5
namespace Go.Proofs.Ythecjfkafpndoaa.XEn
open Go.RowKit Go.Proofs.YthecjfkafpndoaaW.PrintWords Go.Proofs.YthecjfkafpndoaaW.PrintLast Go.Proofs.YthecjfkafpndoaaW.PrintMore
attribute [local go_sem] max2_int min2_int max_two min_two max_three min_three max_four min_four   -- for this text's walks alone
set_option linter.unusedVariables false
set_option linter.unusedSimpArgs false

/-! ### entity_read: function 107, given -/
section
open Go.Shelf Bd Ch Sg
theorem entity_read.builder_below {B b : Nat} {bs : List Value} {W W' : World} (h : Lib.IsBuilderF TB T8 B b bs W) (hb : Below W.heap.size W W') : Lib.IsBuilderF TB T8 B b bs W' :=
  builder_kept h (row := none) ⟨hb.os, hb.tape, hb.output, hb.size, fun i hi _ => hb.block i hi⟩ (fun r e => by cases e)

def entity_read.readL (F : ByteArray → Option (ByteArray × Int)) : Nat → ByteArray → List UInt8 → Option (List UInt8)
  | 0, _, _ => none
  | k + 1, s, out => if s.size = 0 then some out else (F s).bind fun r =>
      if out.length + r.1.size < 70368744177664 then
        if r.2 = 0 then entity_read.readL F k (s.extract 1 s.size) (out ++ (s.extract 0 1).data.toList)
        else if 0 ≤ r.2 ∧ r.2 ≤ (s.size : Int) then entity_read.readL F k (s.extract r.2.toNat s.size) (out ++ r.1.data.toList) else none
      else none

theorem entity_read.readL_mono (F G : ByteArray → Option (ByteArray × Int)) (h : ∀ s, LeO (F s) (G s)) : ∀ k s out, LeO (entity_read.readL F k s out) (entity_read.readL G (k + 1) s out)
  | 0, _, _ => LeO.none _
  | k + 1, s, out => by
    unfold entity_read.readL
    refine LeO.ite (LeO.refl _) (LeO.bind (h s) fun r => LeO.ite (LeO.ite (entity_read.readL_mono F G h k _ _) (LeO.ite (entity_read.readL_mono F G h k _ _) (LeO.none _))) (LeO.none _))


def entity_read.strLen : Value → Nat
  | .string s => s.size
  | _ => 0

set_option maxHeartbeats 2000000 in
set_option maxRecDepth 100000 in
theorem entity_read.read_ok (kf k0 : Nat) (s0 : ByteArray) (attr : Bool) (r : List UInt8) (w : World) (h : entity_read.readL (fun s => entity_Find.f kf s attr) k0 s0 [] = some r) :
    Calls Try.prog 107 #[.string s0, .bool attr] w fun e w' => e = .returned (.string ⟨r.toArray⟩) ∧ Below w.heap.size w w' := by
  have H0 := Lib.hid h
  clear h
  go_enter Try.func107, Try.ntmps107
  go_wp2
  go_loopw [0] (fun v wr => ∃ (k : Nat) (s : ByteArray) (out : List UInt8), v = .string s ∧ Hid (entity_read.readL (fun s => entity_Find.f kf s attr) k s out = some r) ∧ Hid (Lib.IsBuilderF TB T8 w.heap.size w.heap.size (Lib.byteCells out) wr) ∧ Hid (Below w.heap.size w wr) ∧ k ≤ k0) (fun v _ => entity_read.strLen v)
  case atStart => exact ⟨k0, s0, [], rfl, H0, Lib.hid (builder_new w), Lib.hid ((Below.refl _ _).alloc (Nat.le_refl _) _), Nat.le_refl _⟩
  case round =>
    obtain ⟨k, s, out, rfl, hr, hbd, hbl, hk⟩ := hrel
    obtain ⟨k, rfl⟩ : ∃ q, k = q + 1 := ⟨k - 1, by
      cases k with
      | zero => have := hr.out; simp [entity_read.readL] at this
      | succ n => rfl⟩
    have hr' := hr.out
    unfold entity_read.readL at hr'
    by_cases hz : s.size = 0
    · rw [if_pos hz] at hr'
      obtain rfl := Option.some.inj hr'
      obtain rfl : s = ⟨#[]⟩ := by
        obtain ⟨⟨l⟩⟩ := s
        have : l.length = 0 := hz
        rw [List.length_eq_zero_iff.1 this]
      clear hr hr'
      have hsz := hbl.out.size
      go_wp2_with (go_at_call 63; refine (Try.Builder_String_any_k w.heap.size w.heap.size _ _ hbd.out hsz).mono ?_; rintro e w1 ⟨rfl, _, hb1, _⟩)
      go_ret
      exact ⟨rfl, hbl.out.trans hb1⟩
    · rw [if_neg hz] at hr'
      have hne : s ≠ ⟨#[]⟩ := fun e => hz (by rw [e]; rfl)
      have hemp : s.toList.isEmpty = false := by
        rw [List.isEmpty_eq_false_iff, Lib.toList_data]
        intro e
        refine hz ?_
        show s.data.size = 0
        rw [← Array.length_toList, e]
        rfl
      obtain ⟨⟨tx, n⟩, hF, hr2⟩ := Option.bind_eq_some_iff.1 hr'
      simp only at hr2
      have hF' := Lib.hid hF
      clear hr hr' hF
      have hsz := hbl.out.size
      by_cases hl : out.length + tx.size < 70368744177664
      · rw [if_pos hl] at hr2
        by_cases hn : n = 0
        · subst hn
          rw [if_pos rfl] at hr2
          have HR := Lib.hid hr2
          clear hr2
          have he1 : (s.extract 0 1).size ≤ 1 := by simp only [ByteArray.size_extract]; omega
          go_wp2_with (first | (go_at_call 41; refine (entity_Find.calls kf s attr tx 0 _ hF'.out).mono ?_; rintro e w1 ⟨rfl, hbF⟩) | (go_at_call 116; refine (writeString w.heap.size w.heap.size (Lib.byteCells out) (s.extract 0 1) _ (entity_read.builder_below hbd.out hbF) (by rw [Lib.byteCells_length]; omega) (Nat.le_trans hsz hbF.size)).mono ?_; rintro e w2 ⟨rfl, h2, hb2, _⟩))
          go_roundw
          case rel => exact ⟨k, s.extract 1 s.size, out ++ (s.extract 0 1).data.toList, by first | rfl | simp, HR, Lib.hid (by rw [Lib.byteCells_append]; exact builder_mono h2), Lib.hid ((hbl.out.trans (hbF.mono hsz)).trans hb2), by omega⟩
          case measure => simp [entity_read.strLen]; omega
        · rw [if_neg hn] at hr2
          by_cases hle : 0 ≤ n ∧ n ≤ (s.size : Int)
          · rw [if_pos hle] at hr2
            have HR := Lib.hid hr2
            clear hr2
            obtain ⟨m, rfl⟩ : ∃ m : Nat, n = (m : Int) := ⟨n.toNat, by omega⟩
            obtain ⟨_, hle2⟩ := hle
            have hm1 : m ≤ s.size := by omega
            have hm0 : 0 < m := by omega
            go_wp2_with (first | (go_at_call 41; refine (entity_Find.calls kf s attr tx (m : Int) _ hF'.out).mono ?_; rintro e w1 ⟨rfl, hbF⟩) | (go_at_call 116; refine (writeString w.heap.size w.heap.size (Lib.byteCells out) tx _ (entity_read.builder_below hbd.out hbF) (by rw [Lib.byteCells_length]; omega) (Nat.le_trans hsz hbF.size)).mono ?_; rintro e w2 ⟨rfl, h2, hb2, _⟩))
            go_roundw
            case rel => exact ⟨k, s.extract m s.size, out ++ tx.data.toList, by first | rfl | simp, by simpa using HR, Lib.hid (by rw [Lib.byteCells_append]; exact builder_mono h2), Lib.hid ((hbl.out.trans (hbF.mono hsz)).trans hb2), by omega⟩
            case measure => simp [entity_read.strLen]; omega
          · rw [if_neg hle] at hr2
            cases hr2
      · rw [if_neg hl] at hr2
        cases hr2
end
def entity_read.f (k : Nat) (a0 : ByteArray) (a1 : Bool) : Option (ByteArray) := (entity_read.readL (fun s => entity_Find.f k s a1) k a0 []).map (fun l => ⟨l.toArray⟩)
theorem entity_read.mono : ∀ a0 a1 k, LeO (entity_read.f k a0 a1) (entity_read.f (k + 1) a0 a1) := fun a0 a1 k => LeO.map _ (entity_read.readL_mono _ _ (fun s => entity_Find.mono s a1 k) k a0 [])
theorem entity_read.calls (k : Nat) (a0 : ByteArray) (a1 : Bool) (r : ByteArray) (w : World) (h : entity_read.f k a0 a1 = some r) :
    Calls Try.prog 107 #[.string a0, .bool a1] w fun e w' => e = .returned (.string r) ∧ Below w.heap.size w w' := by
  obtain ⟨l, hl, rfl⟩ := Option.map_eq_some_iff.1 h
  exact entity_read.read_ok k k a0 a1 l w hl

/-! ### entity_Text: function 79 -/
def entity_Text.f (k : Nat) (a0 : ByteArray) : Option (ByteArray) := (entity_read.f k a0 false).bind fun t204 => (some t204)
theorem entity_Text.mono : ∀ a0 k, LeO (entity_Text.f k a0) (entity_Text.f (k + 1) a0) := by
  intro a0 k
  unfold entity_Text.f
  repeat' first
      | (with_reducible exact entity_read.mono _ _ _)
      | (with_reducible exact LeO.refl _)
      | (with_reducible exact LeO.none _)
      | (with_reducible refine LeO.ite ?_ ?_)
      | (with_reducible refine LeO.bind ?_ (fun _ => ?_))
      | exact entity_read.mono _ _ _
      | exact LeO.none _
      | refine LeO.ite ?_ ?_
      | refine LeO.bind ?_ (fun _ => ?_)
set_option maxHeartbeats 8000000 in
set_option maxRecDepth 100000 in
theorem entity_Text.calls (k : Nat) (a0 : ByteArray) (r : ByteArray) (w : World) (h : entity_Text.f k a0 = some r) :
    Calls Try.prog 79 #[.string a0] w fun e w' => e = .returned (.string r) ∧ Below w.heap.size w w' := by
  have HB := Aside0.mk (Below.refl w.heap.size w)
  have H : ((entity_read.f k a0 false).bind fun t204 => (some t204)) = some r := h
  clear h
  replace H := Option.bind_eq_some_iff.mp H
  obtain ⟨t204, A20, H⟩ := H
  replace H : (some t204) = some r := H
  have A2 := Aside0.mk A20
  clear A20
  obtain rfl := Option.some.inj H
  go_enter Try.func79, Try.ntmps79
  go_wp2_with (first | ((with_reducible refine gate_callee (f := 107) rfl ?_); refine goesL_ (some 4) rfl rfl Try.func107 (by kernel_rfl) rfl #[.string a0, .bool false] rfl (by (try simp only [List.map_toArray, List.map_cons, List.map_nil]); first | done | rfl | (simp only [List.length_drop, List.length_take]; rfl)) ?_; (with_reducible refine (entity_read.calls k a0 false t204 _ A2.out).mono ?_); rintro e w3 ⟨rfl, hb⟩; refine ⟨_, rfl, ?_⟩; have n0_ := Aside0.mk (below_step (by repeat (first | (with_reducible first | exact HB.out | apply below_alloc | apply pw_below_drewN | apply below_drew1) | exact HB.out)) hb); clear HB; have HB := n0_; clear n0_; (try clear hb); (try clear hb2); (try clear hk); (try clear hi)))
  go_ret
  exact ⟨by first | rfl | (simp [errW_none, errW_some] <;> rfl) | (simp [*, errW_none, errW_some] <;> rfl), by repeat (first | (with_reducible first | exact HB.out | apply below_alloc | apply pw_below_drewN | apply below_drew1) | exact HB.out)⟩

/-! ### clerestorylaw1_entityBegun: function 43 -/
def clerestorylaw1_entityBegun.f (k : Nat)  : Option (Bool) := (entity_Find.f k (⟨#[38, 110, 111, 116, 105, 110, 59, 120]⟩ : ByteArray) false).bind fun bt205 => ((entity_Find.f k (⟨#[38, 110, 111, 116, 105, 116]⟩ : ByteArray) false).bind fun bt207 => (if bt205.1.toList = ([226, 136, 137] : List UInt8) then (if bt205.2 = 7 then (if bt207.1.toList = ([194, 172] : List UInt8) then (if bt207.2 = 4 then ((entity_Text.f k (⟨#[38, 35, 54, 53, 59, 38, 108, 116]⟩ : ByteArray)).bind fun t209 => (some (t209.toList == ([65, 60] : List UInt8)))) else (some false)) else (some false)) else (some false)) else (some false)))
theorem clerestorylaw1_entityBegun.mono : ∀ k, LeO (clerestorylaw1_entityBegun.f k ) (clerestorylaw1_entityBegun.f (k + 1) ) := by
  intro  k
  unfold clerestorylaw1_entityBegun.f
  repeat' first
      | (with_reducible exact entity_Find.mono _ _ _)
      | (with_reducible exact entity_Text.mono _ _)
      | (with_reducible exact LeO.refl _)
      | (with_reducible exact LeO.none _)
      | (with_reducible refine LeO.ite ?_ ?_)
      | (with_reducible refine LeO.bind ?_ (fun _ => ?_))
      | exact entity_Find.mono _ _ _
      | exact entity_Text.mono _ _
      | exact LeO.none _
      | refine LeO.ite ?_ ?_
      | refine LeO.bind ?_ (fun _ => ?_)
set_option maxHeartbeats 8000000 in
set_option maxRecDepth 100000 in
theorem clerestorylaw1_entityBegun.calls (k : Nat)  (r : Bool) (w : World) (h : clerestorylaw1_entityBegun.f k  = some r) :
    Calls Try.prog 43 #[] w fun e w' => e = .returned (.bool r) ∧ Below w.heap.size w w' := by
  have HB := Aside0.mk (Below.refl w.heap.size w)
  have H : ((entity_Find.f k (⟨#[38, 110, 111, 116, 105, 110, 59, 120]⟩ : ByteArray) false).bind fun bt205 => ((entity_Find.f k (⟨#[38, 110, 111, 116, 105, 116]⟩ : ByteArray) false).bind fun bt207 => (if bt205.1.toList = ([226, 136, 137] : List UInt8) then (if bt205.2 = 7 then (if bt207.1.toList = ([194, 172] : List UInt8) then (if bt207.2 = 4 then ((entity_Text.f k (⟨#[38, 35, 54, 53, 59, 38, 108, 116]⟩ : ByteArray)).bind fun t209 => (some (t209.toList == ([65, 60] : List UInt8)))) else (some false)) else (some false)) else (some false)) else (some false)))) = some r := h
  clear h
  replace H := Option.bind_eq_some_iff.mp H
  obtain ⟨⟨t205, t206⟩, A10, H⟩ := H
  replace H : ((entity_Find.f k (⟨#[38, 110, 111, 116, 105, 116]⟩ : ByteArray) false).bind fun bt207 => (if t205.toList = ([226, 136, 137] : List UInt8) then (if t206 = 7 then (if bt207.1.toList = ([194, 172] : List UInt8) then (if bt207.2 = 4 then ((entity_Text.f k (⟨#[38, 35, 54, 53, 59, 38, 108, 116]⟩ : ByteArray)).bind fun t209 => (some (t209.toList == ([65, 60] : List UInt8)))) else (some false)) else (some false)) else (some false)) else (some false))) = some r := H
  have A1 := Aside0.mk A10
  clear A10
  replace H := Option.bind_eq_some_iff.mp H
  obtain ⟨⟨t207, t208⟩, A20, H⟩ := H
  replace H : (if t205.toList = ([226, 136, 137] : List UInt8) then (if t206 = 7 then (if t207.toList = ([194, 172] : List UInt8) then (if t208 = 4 then ((entity_Text.f k (⟨#[38, 35, 54, 53, 59, 38, 108, 116]⟩ : ByteArray)).bind fun t209 => (some (t209.toList == ([65, 60] : List UInt8)))) else (some false)) else (some false)) else (some false)) else (some false)) = some r := H
  have A2 := Aside0.mk A20
  clear A20
  by_cases c3 : t205.toList = ([226, 136, 137] : List UInt8)
  · rw [if_pos c3] at H
    have c3b0 : (t205.toList == ([226, 136, 137] : List UInt8)) = true := beq_iff_eq.mpr c3
    have c3b1 : (t205.toList != ([226, 136, 137] : List UInt8)) = false := bne_eq_false_iff_eq.mpr c3
    clear c3
    by_cases c4 : t206 = 7
    · rw [if_pos c4] at H
      have c4b0 : (t206 == 7) = true := beq_iff_eq.mpr c4
      have c4b1 : (t206 != 7) = false := bne_eq_false_iff_eq.mpr c4
      clear c4
      by_cases c5 : t207.toList = ([194, 172] : List UInt8)
      · rw [if_pos c5] at H
        have c5b0 : (t207.toList == ([194, 172] : List UInt8)) = true := beq_iff_eq.mpr c5
        have c5b1 : (t207.toList != ([194, 172] : List UInt8)) = false := bne_eq_false_iff_eq.mpr c5
        clear c5
        by_cases c6 : t208 = 4
        · rw [if_pos c6] at H
          have c6b0 : (t208 == 4) = true := beq_iff_eq.mpr c6
          have c6b1 : (t208 != 4) = false := bne_eq_false_iff_eq.mpr c6
          clear c6
          replace H := Option.bind_eq_some_iff.mp H
          obtain ⟨t209, A70, H⟩ := H
          replace H : (some (t209.toList == ([65, 60] : List UInt8))) = some r := H
          have A7 := Aside0.mk A70
          clear A70
          obtain rfl := Option.some.inj H
          go_enter Try.func43, Try.ntmps43
          go_wp2_with (first | ((with_reducible refine gate_callee (f := 41) rfl ?_); refine goesL_ (some 6) rfl rfl Try.func41 (by kernel_rfl) rfl #[.string (⟨#[38, 110, 111, 116, 105, 110, 59, 120]⟩ : ByteArray), .bool false] rfl (by (try simp only [List.map_toArray, List.map_cons, List.map_nil]); first | done | rfl | (simp only [List.length_drop, List.length_take]; rfl)) ?_; (with_reducible refine (entity_Find.calls k (⟨#[38, 110, 111, 116, 105, 110, 59, 120]⟩ : ByteArray) false t205 t206 _ A1.out).mono ?_); rintro e w8 ⟨rfl, hb⟩; refine ⟨_, rfl, ?_⟩; have n0_ := Aside0.mk (below_step (by repeat (first | (with_reducible first | exact HB.out | apply below_alloc | apply pw_below_drewN | apply below_drew1) | exact HB.out)) hb); clear HB; have HB := n0_; clear n0_; (try clear hb); (try clear hb2); (try clear hk); (try clear hi)) | ((with_reducible refine gate_callee (f := 41) rfl ?_); refine goesL_ (some 10) rfl rfl Try.func41 (by kernel_rfl) rfl #[.string (⟨#[38, 110, 111, 116, 105, 116]⟩ : ByteArray), .bool false] rfl (by (try simp only [List.map_toArray, List.map_cons, List.map_nil]); first | done | rfl | (simp only [List.length_drop, List.length_take]; rfl)) ?_; (with_reducible refine (entity_Find.calls k (⟨#[38, 110, 111, 116, 105, 116]⟩ : ByteArray) false t207 t208 _ A2.out).mono ?_); rintro e w9 ⟨rfl, hb⟩; refine ⟨_, rfl, ?_⟩; have n0_ := Aside0.mk (below_step (by repeat (first | (with_reducible first | exact HB.out | apply below_alloc | apply pw_below_drewN | apply below_drew1) | exact HB.out)) hb); clear HB; have HB := n0_; clear n0_; (try clear hb); (try clear hb2); (try clear hk); (try clear hi)) | (go_at_call 79; (with_reducible refine (entity_Text.calls k (⟨#[38, 35, 54, 53, 59, 38, 108, 116]⟩ : ByteArray) t209 _ A7.out).mono ?_); rintro e w10 ⟨rfl, hb⟩; have n0_ := Aside0.mk (below_step (by repeat (first | (with_reducible first | exact HB.out | apply below_alloc | apply pw_below_drewN | apply below_drew1) | exact HB.out)) hb); clear HB; have HB := n0_; clear n0_; (try clear hb); (try clear hb2); (try clear hk); (try clear hi)))
          go_ret
          exact ⟨by first | rfl | (simp [errW_none, errW_some] <;> rfl) | (simp [*, errW_none, errW_some] <;> rfl), by repeat (first | (with_reducible first | exact HB.out | apply below_alloc | apply pw_below_drewN | apply below_drew1) | exact HB.out)⟩
        · rw [if_neg c6] at H
          have c6b0 : (t208 == 4) = false := beq_eq_false_iff_ne.mpr c6
          have c6b1 : (t208 != 4) = true := bne_iff_ne.mpr c6
          obtain rfl := Option.some.inj H
          go_enter Try.func43, Try.ntmps43
          go_wp2_with (first | ((with_reducible refine gate_callee (f := 41) rfl ?_); refine goesL_ (some 6) rfl rfl Try.func41 (by kernel_rfl) rfl #[.string (⟨#[38, 110, 111, 116, 105, 110, 59, 120]⟩ : ByteArray), .bool false] rfl (by (try simp only [List.map_toArray, List.map_cons, List.map_nil]); first | done | rfl | (simp only [List.length_drop, List.length_take]; rfl)) ?_; (with_reducible refine (entity_Find.calls k (⟨#[38, 110, 111, 116, 105, 110, 59, 120]⟩ : ByteArray) false t205 t206 _ A1.out).mono ?_); rintro e w11 ⟨rfl, hb⟩; refine ⟨_, rfl, ?_⟩; have n0_ := Aside0.mk (below_step (by repeat (first | (with_reducible first | exact HB.out | apply below_alloc | apply pw_below_drewN | apply below_drew1) | exact HB.out)) hb); clear HB; have HB := n0_; clear n0_; (try clear hb); (try clear hb2); (try clear hk); (try clear hi)) | ((with_reducible refine gate_callee (f := 41) rfl ?_); refine goesL_ (some 10) rfl rfl Try.func41 (by kernel_rfl) rfl #[.string (⟨#[38, 110, 111, 116, 105, 116]⟩ : ByteArray), .bool false] rfl (by (try simp only [List.map_toArray, List.map_cons, List.map_nil]); first | done | rfl | (simp only [List.length_drop, List.length_take]; rfl)) ?_; (with_reducible refine (entity_Find.calls k (⟨#[38, 110, 111, 116, 105, 116]⟩ : ByteArray) false t207 t208 _ A2.out).mono ?_); rintro e w12 ⟨rfl, hb⟩; refine ⟨_, rfl, ?_⟩; have n0_ := Aside0.mk (below_step (by repeat (first | (with_reducible first | exact HB.out | apply below_alloc | apply pw_below_drewN | apply below_drew1) | exact HB.out)) hb); clear HB; have HB := n0_; clear n0_; (try clear hb); (try clear hb2); (try clear hk); (try clear hi)))
          go_ret
          exact ⟨by first | rfl | (simp [errW_none, errW_some] <;> rfl) | (simp [*, errW_none, errW_some] <;> rfl), by repeat (first | (with_reducible first | exact HB.out | apply below_alloc | apply pw_below_drewN | apply below_drew1) | exact HB.out)⟩
      · rw [if_neg c5] at H
        have c5b0 : (t207.toList == ([194, 172] : List UInt8)) = false := beq_eq_false_iff_ne.mpr c5
        have c5b1 : (t207.toList != ([194, 172] : List UInt8)) = true := bne_iff_ne.mpr c5
        obtain rfl := Option.some.inj H
        go_enter Try.func43, Try.ntmps43
        go_wp2_with (first | ((with_reducible refine gate_callee (f := 41) rfl ?_); refine goesL_ (some 6) rfl rfl Try.func41 (by kernel_rfl) rfl #[.string (⟨#[38, 110, 111, 116, 105, 110, 59, 120]⟩ : ByteArray), .bool false] rfl (by (try simp only [List.map_toArray, List.map_cons, List.map_nil]); first | done | rfl | (simp only [List.length_drop, List.length_take]; rfl)) ?_; (with_reducible refine (entity_Find.calls k (⟨#[38, 110, 111, 116, 105, 110, 59, 120]⟩ : ByteArray) false t205 t206 _ A1.out).mono ?_); rintro e w13 ⟨rfl, hb⟩; refine ⟨_, rfl, ?_⟩; have n0_ := Aside0.mk (below_step (by repeat (first | (with_reducible first | exact HB.out | apply below_alloc | apply pw_below_drewN | apply below_drew1) | exact HB.out)) hb); clear HB; have HB := n0_; clear n0_; (try clear hb); (try clear hb2); (try clear hk); (try clear hi)) | ((with_reducible refine gate_callee (f := 41) rfl ?_); refine goesL_ (some 10) rfl rfl Try.func41 (by kernel_rfl) rfl #[.string (⟨#[38, 110, 111, 116, 105, 116]⟩ : ByteArray), .bool false] rfl (by (try simp only [List.map_toArray, List.map_cons, List.map_nil]); first | done | rfl | (simp only [List.length_drop, List.length_take]; rfl)) ?_; (with_reducible refine (entity_Find.calls k (⟨#[38, 110, 111, 116, 105, 116]⟩ : ByteArray) false t207 t208 _ A2.out).mono ?_); rintro e w14 ⟨rfl, hb⟩; refine ⟨_, rfl, ?_⟩; have n0_ := Aside0.mk (below_step (by repeat (first | (with_reducible first | exact HB.out | apply below_alloc | apply pw_below_drewN | apply below_drew1) | exact HB.out)) hb); clear HB; have HB := n0_; clear n0_; (try clear hb); (try clear hb2); (try clear hk); (try clear hi)))
        go_ret
        exact ⟨by first | rfl | (simp [errW_none, errW_some] <;> rfl) | (simp [*, errW_none, errW_some] <;> rfl), by repeat (first | (with_reducible first | exact HB.out | apply below_alloc | apply pw_below_drewN | apply below_drew1) | exact HB.out)⟩
    · rw [if_neg c4] at H
      have c4b0 : (t206 == 7) = false := beq_eq_false_iff_ne.mpr c4
      have c4b1 : (t206 != 7) = true := bne_iff_ne.mpr c4
      obtain rfl := Option.some.inj H
      go_enter Try.func43, Try.ntmps43
      go_wp2_with (first | ((with_reducible refine gate_callee (f := 41) rfl ?_); refine goesL_ (some 6) rfl rfl Try.func41 (by kernel_rfl) rfl #[.string (⟨#[38, 110, 111, 116, 105, 110, 59, 120]⟩ : ByteArray), .bool false] rfl (by (try simp only [List.map_toArray, List.map_cons, List.map_nil]); first | done | rfl | (simp only [List.length_drop, List.length_take]; rfl)) ?_; (with_reducible refine (entity_Find.calls k (⟨#[38, 110, 111, 116, 105, 110, 59, 120]⟩ : ByteArray) false t205 t206 _ A1.out).mono ?_); rintro e w15 ⟨rfl, hb⟩; refine ⟨_, rfl, ?_⟩; have n0_ := Aside0.mk (below_step (by repeat (first | (with_reducible first | exact HB.out | apply below_alloc | apply pw_below_drewN | apply below_drew1) | exact HB.out)) hb); clear HB; have HB := n0_; clear n0_; (try clear hb); (try clear hb2); (try clear hk); (try clear hi)) | ((with_reducible refine gate_callee (f := 41) rfl ?_); refine goesL_ (some 10) rfl rfl Try.func41 (by kernel_rfl) rfl #[.string (⟨#[38, 110, 111, 116, 105, 116]⟩ : ByteArray), .bool false] rfl (by (try simp only [List.map_toArray, List.map_cons, List.map_nil]); first | done | rfl | (simp only [List.length_drop, List.length_take]; rfl)) ?_; (with_reducible refine (entity_Find.calls k (⟨#[38, 110, 111, 116, 105, 116]⟩ : ByteArray) false t207 t208 _ A2.out).mono ?_); rintro e w16 ⟨rfl, hb⟩; refine ⟨_, rfl, ?_⟩; have n0_ := Aside0.mk (below_step (by repeat (first | (with_reducible first | exact HB.out | apply below_alloc | apply pw_below_drewN | apply below_drew1) | exact HB.out)) hb); clear HB; have HB := n0_; clear n0_; (try clear hb); (try clear hb2); (try clear hk); (try clear hi)))
      go_ret
      exact ⟨by first | rfl | (simp [errW_none, errW_some] <;> rfl) | (simp [*, errW_none, errW_some] <;> rfl), by repeat (first | (with_reducible first | exact HB.out | apply below_alloc | apply pw_below_drewN | apply below_drew1) | exact HB.out)⟩
  · rw [if_neg c3] at H
    have c3b0 : (t205.toList == ([226, 136, 137] : List UInt8)) = false := beq_eq_false_iff_ne.mpr c3
    have c3b1 : (t205.toList != ([226, 136, 137] : List UInt8)) = true := bne_iff_ne.mpr c3
    obtain rfl := Option.some.inj H
    go_enter Try.func43, Try.ntmps43
    go_wp2_with (first | ((with_reducible refine gate_callee (f := 41) rfl ?_); refine goesL_ (some 6) rfl rfl Try.func41 (by kernel_rfl) rfl #[.string (⟨#[38, 110, 111, 116, 105, 110, 59, 120]⟩ : ByteArray), .bool false] rfl (by (try simp only [List.map_toArray, List.map_cons, List.map_nil]); first | done | rfl | (simp only [List.length_drop, List.length_take]; rfl)) ?_; (with_reducible refine (entity_Find.calls k (⟨#[38, 110, 111, 116, 105, 110, 59, 120]⟩ : ByteArray) false t205 t206 _ A1.out).mono ?_); rintro e w17 ⟨rfl, hb⟩; refine ⟨_, rfl, ?_⟩; have n0_ := Aside0.mk (below_step (by repeat (first | (with_reducible first | exact HB.out | apply below_alloc | apply pw_below_drewN | apply below_drew1) | exact HB.out)) hb); clear HB; have HB := n0_; clear n0_; (try clear hb); (try clear hb2); (try clear hk); (try clear hi)) | ((with_reducible refine gate_callee (f := 41) rfl ?_); refine goesL_ (some 10) rfl rfl Try.func41 (by kernel_rfl) rfl #[.string (⟨#[38, 110, 111, 116, 105, 116]⟩ : ByteArray), .bool false] rfl (by (try simp only [List.map_toArray, List.map_cons, List.map_nil]); first | done | rfl | (simp only [List.length_drop, List.length_take]; rfl)) ?_; (with_reducible refine (entity_Find.calls k (⟨#[38, 110, 111, 116, 105, 116]⟩ : ByteArray) false t207 t208 _ A2.out).mono ?_); rintro e w18 ⟨rfl, hb⟩; refine ⟨_, rfl, ?_⟩; have n0_ := Aside0.mk (below_step (by repeat (first | (with_reducible first | exact HB.out | apply below_alloc | apply pw_below_drewN | apply below_drew1) | exact HB.out)) hb); clear HB; have HB := n0_; clear n0_; (try clear hb); (try clear hb2); (try clear hk); (try clear hi)))
    go_ret
    exact ⟨by first | rfl | (simp [errW_none, errW_some] <;> rfl) | (simp [*, errW_none, errW_some] <;> rfl), by repeat (first | (with_reducible first | exact HB.out | apply below_alloc | apply pw_below_drewN | apply below_drew1) | exact HB.out)⟩

/-! ### clerestorylaw1_EntityFinds: function 8 -/
def clerestorylaw1_EntityFinds.f (k : Nat) (a0 : ByteArray) (a1 : Bool) : Option (Bool) := (clerestorylaw1_some.f a0 200).bind fun t210 => ((entity_Find.f k t210 a1).bind fun bt211 => ((clerestoryref1_EntityFind.f k t210 a1).bind fun bt213 => ((clerestorylaw1_entityBegun.f k).bind fun t215 => (if t215 = true then (if bt211.1.toList = bt213.1.toList then (some (bt211.2 == bt213.2)) else (some false)) else (some false)))))
theorem clerestorylaw1_EntityFinds.mono : ∀ a0 a1 k, LeO (clerestorylaw1_EntityFinds.f k a0 a1) (clerestorylaw1_EntityFinds.f (k + 1) a0 a1) := by
  intro a0 a1 k
  unfold clerestorylaw1_EntityFinds.f
  repeat' first
      | (with_reducible exact clerestorylaw1_entityBegun.mono _)
      | (with_reducible exact clerestoryref1_EntityFind.mono _ _ _)
      | (with_reducible exact entity_Find.mono _ _ _)
      | (with_reducible exact LeO.refl _)
      | (with_reducible exact LeO.none _)
      | (with_reducible refine LeO.ite ?_ ?_)
      | (with_reducible refine LeO.bind ?_ (fun _ => ?_))
      | exact clerestorylaw1_entityBegun.mono _
      | exact clerestoryref1_EntityFind.mono _ _ _
      | exact entity_Find.mono _ _ _
      | exact LeO.none _
      | refine LeO.ite ?_ ?_
      | refine LeO.bind ?_ (fun _ => ?_)
set_option maxHeartbeats 8000000 in
set_option maxRecDepth 100000 in
theorem clerestorylaw1_EntityFinds.calls (k : Nat) (a0 : ByteArray) (a1 : Bool) (r : Bool) (w : World) (h : clerestorylaw1_EntityFinds.f k a0 a1 = some r) :
    Calls Try.prog 8 #[.string a0, .bool a1] w fun e w' => e = .returned (.bool r) ∧ Below w.heap.size w w' := by
  have HB := Aside0.mk (Below.refl w.heap.size w)
  have H : ((clerestorylaw1_some.f a0 200).bind fun t210 => ((entity_Find.f k t210 a1).bind fun bt211 => ((clerestoryref1_EntityFind.f k t210 a1).bind fun bt213 => ((clerestorylaw1_entityBegun.f k).bind fun t215 => (if t215 = true then (if bt211.1.toList = bt213.1.toList then (some (bt211.2 == bt213.2)) else (some false)) else (some false)))))) = some r := h
  clear h
  replace H := Option.bind_eq_some_iff.mp H
  obtain ⟨t210, A30, H⟩ := H
  replace H : ((entity_Find.f k t210 a1).bind fun bt211 => ((clerestoryref1_EntityFind.f k t210 a1).bind fun bt213 => ((clerestorylaw1_entityBegun.f k).bind fun t215 => (if t215 = true then (if bt211.1.toList = bt213.1.toList then (some (bt211.2 == bt213.2)) else (some false)) else (some false))))) = some r := H
  have A3 := Aside0.mk A30
  clear A30
  replace H := Option.bind_eq_some_iff.mp H
  obtain ⟨⟨t211, t212⟩, A40, H⟩ := H
  replace H : ((clerestoryref1_EntityFind.f k t210 a1).bind fun bt213 => ((clerestorylaw1_entityBegun.f k).bind fun t215 => (if t215 = true then (if t211.toList = bt213.1.toList then (some (t212 == bt213.2)) else (some false)) else (some false)))) = some r := H
  have A4 := Aside0.mk A40
  clear A40
  replace H := Option.bind_eq_some_iff.mp H
  obtain ⟨⟨t213, t214⟩, A50, H⟩ := H
  replace H : ((clerestorylaw1_entityBegun.f k).bind fun t215 => (if t215 = true then (if t211.toList = t213.toList then (some (t212 == t214)) else (some false)) else (some false))) = some r := H
  have A5 := Aside0.mk A50
  clear A50
  replace H := Option.bind_eq_some_iff.mp H
  obtain ⟨t215, A60, H⟩ := H
  replace H : (if t215 = true then (if t211.toList = t213.toList then (some (t212 == t214)) else (some false)) else (some false)) = some r := H
  have A6 := Aside0.mk A60
  clear A60
  by_cases c7 : t215 = true
  · subst c7
    have H1 : (if t211.toList = t213.toList then (some (t212 == t214)) else (some false)) = some r := by rw [if_pos rfl] at H; exact H
    clear H
    have H := H1
    clear H1
    by_cases c8 : t211.toList = t213.toList
    · rw [if_pos c8] at H
      have c8b0 : (t211.toList == t213.toList) = true := beq_iff_eq.mpr c8
      have c8b1 : (t211.toList != t213.toList) = false := bne_eq_false_iff_eq.mpr c8
      clear c8
      obtain rfl := Option.some.inj H
      go_enter Try.func8, Try.ntmps8
      go_wp2_with (first | ((with_reducible refine gate_callee (f := 18) rfl ?_); refine goesL_ (some 10) rfl rfl Try.func18 (by kernel_rfl) rfl #[.string a0, .int .i64 200] rfl (by (try simp only [List.map_toArray, List.map_cons, List.map_nil]); first | done | rfl | (simp only [List.length_drop, List.length_take]; rfl)) ?_; (with_reducible refine (clerestorylaw1_some.calls a0 200 t210 _ A3.out).mono ?_); rintro e w9 ⟨rfl, hb⟩; refine ⟨_, rfl, ?_⟩; have n0_ := Aside0.mk (below_step (by repeat (first | (with_reducible first | exact HB.out | apply below_alloc | apply pw_below_drewN | apply below_drew1) | exact HB.out)) hb); clear HB; have HB := n0_; clear n0_; (try clear hb); (try clear hb2); (try clear hk); (try clear hi)) | ((with_reducible refine gate_callee (f := 41) rfl ?_); refine goesL_ (some 14) rfl rfl Try.func41 (by kernel_rfl) rfl #[.string t210, .bool a1] rfl (by (try simp only [List.map_toArray, List.map_cons, List.map_nil]); first | done | rfl | (simp only [List.length_drop, List.length_take]; rfl)) ?_; (with_reducible refine (entity_Find.calls k t210 a1 t211 t212 _ A4.out).mono ?_); rintro e w10 ⟨rfl, hb⟩; refine ⟨_, rfl, ?_⟩; have n0_ := Aside0.mk (below_step (by repeat (first | (with_reducible first | exact HB.out | apply below_alloc | apply pw_below_drewN | apply below_drew1) | exact HB.out)) hb); clear HB; have HB := n0_; clear n0_; (try clear hb); (try clear hb2); (try clear hk); (try clear hi)) | ((with_reducible refine gate_callee (f := 42) rfl ?_); refine goesL_ (some 20) rfl rfl Try.func42 (by kernel_rfl) rfl #[.string t210, .bool a1] rfl (by (try simp only [List.map_toArray, List.map_cons, List.map_nil]); first | done | rfl | (simp only [List.length_drop, List.length_take]; rfl)) ?_; (with_reducible refine (clerestoryref1_EntityFind.calls k t210 a1 t213 t214 _ A5.out).mono ?_); rintro e w11 ⟨rfl, hb⟩; refine ⟨_, rfl, ?_⟩; have n0_ := Aside0.mk (below_step (by repeat (first | (with_reducible first | exact HB.out | apply below_alloc | apply pw_below_drewN | apply below_drew1) | exact HB.out)) hb); clear HB; have HB := n0_; clear n0_; (try clear hb); (try clear hb2); (try clear hk); (try clear hi)) | ((with_reducible refine gate_callee (f := 43) rfl ?_); refine goesL_ (some 23) rfl rfl Try.func43 (by kernel_rfl) rfl #[] rfl (by (try simp only [List.map_toArray, List.map_cons, List.map_nil]); first | done | rfl | (simp only [List.length_drop, List.length_take]; rfl)) ?_; (with_reducible refine (clerestorylaw1_entityBegun.calls k  true _ A6.out).mono ?_); rintro e w12 ⟨rfl, hb⟩; refine ⟨_, rfl, ?_⟩; have n0_ := Aside0.mk (below_step (by repeat (first | (with_reducible first | exact HB.out | apply below_alloc | apply pw_below_drewN | apply below_drew1) | exact HB.out)) hb); clear HB; have HB := n0_; clear n0_; (try clear hb); (try clear hb2); (try clear hk); (try clear hi)))
      go_ret
      exact ⟨by first | rfl | (simp [errW_none, errW_some] <;> rfl) | (simp [*, errW_none, errW_some] <;> rfl), by repeat (first | (with_reducible first | exact HB.out | apply below_alloc | apply pw_below_drewN | apply below_drew1) | exact HB.out)⟩
    · rw [if_neg c8] at H
      have c8b0 : (t211.toList == t213.toList) = false := beq_eq_false_iff_ne.mpr c8
      have c8b1 : (t211.toList != t213.toList) = true := bne_iff_ne.mpr c8
      obtain rfl := Option.some.inj H
      go_enter Try.func8, Try.ntmps8
      go_wp2_with (first | ((with_reducible refine gate_callee (f := 18) rfl ?_); refine goesL_ (some 10) rfl rfl Try.func18 (by kernel_rfl) rfl #[.string a0, .int .i64 200] rfl (by (try simp only [List.map_toArray, List.map_cons, List.map_nil]); first | done | rfl | (simp only [List.length_drop, List.length_take]; rfl)) ?_; (with_reducible refine (clerestorylaw1_some.calls a0 200 t210 _ A3.out).mono ?_); rintro e w13 ⟨rfl, hb⟩; refine ⟨_, rfl, ?_⟩; have n0_ := Aside0.mk (below_step (by repeat (first | (with_reducible first | exact HB.out | apply below_alloc | apply pw_below_drewN | apply below_drew1) | exact HB.out)) hb); clear HB; have HB := n0_; clear n0_; (try clear hb); (try clear hb2); (try clear hk); (try clear hi)) | ((with_reducible refine gate_callee (f := 41) rfl ?_); refine goesL_ (some 14) rfl rfl Try.func41 (by kernel_rfl) rfl #[.string t210, .bool a1] rfl (by (try simp only [List.map_toArray, List.map_cons, List.map_nil]); first | done | rfl | (simp only [List.length_drop, List.length_take]; rfl)) ?_; (with_reducible refine (entity_Find.calls k t210 a1 t211 t212 _ A4.out).mono ?_); rintro e w14 ⟨rfl, hb⟩; refine ⟨_, rfl, ?_⟩; have n0_ := Aside0.mk (below_step (by repeat (first | (with_reducible first | exact HB.out | apply below_alloc | apply pw_below_drewN | apply below_drew1) | exact HB.out)) hb); clear HB; have HB := n0_; clear n0_; (try clear hb); (try clear hb2); (try clear hk); (try clear hi)) | ((with_reducible refine gate_callee (f := 42) rfl ?_); refine goesL_ (some 20) rfl rfl Try.func42 (by kernel_rfl) rfl #[.string t210, .bool a1] rfl (by (try simp only [List.map_toArray, List.map_cons, List.map_nil]); first | done | rfl | (simp only [List.length_drop, List.length_take]; rfl)) ?_; (with_reducible refine (clerestoryref1_EntityFind.calls k t210 a1 t213 t214 _ A5.out).mono ?_); rintro e w15 ⟨rfl, hb⟩; refine ⟨_, rfl, ?_⟩; have n0_ := Aside0.mk (below_step (by repeat (first | (with_reducible first | exact HB.out | apply below_alloc | apply pw_below_drewN | apply below_drew1) | exact HB.out)) hb); clear HB; have HB := n0_; clear n0_; (try clear hb); (try clear hb2); (try clear hk); (try clear hi)) | ((with_reducible refine gate_callee (f := 43) rfl ?_); refine goesL_ (some 23) rfl rfl Try.func43 (by kernel_rfl) rfl #[] rfl (by (try simp only [List.map_toArray, List.map_cons, List.map_nil]); first | done | rfl | (simp only [List.length_drop, List.length_take]; rfl)) ?_; (with_reducible refine (clerestorylaw1_entityBegun.calls k  true _ A6.out).mono ?_); rintro e w16 ⟨rfl, hb⟩; refine ⟨_, rfl, ?_⟩; have n0_ := Aside0.mk (below_step (by repeat (first | (with_reducible first | exact HB.out | apply below_alloc | apply pw_below_drewN | apply below_drew1) | exact HB.out)) hb); clear HB; have HB := n0_; clear n0_; (try clear hb); (try clear hb2); (try clear hk); (try clear hi)))
      go_ret
      exact ⟨by first | rfl | (simp [errW_none, errW_some] <;> rfl) | (simp [*, errW_none, errW_some] <;> rfl), by repeat (first | (with_reducible first | exact HB.out | apply below_alloc | apply pw_below_drewN | apply below_drew1) | exact HB.out)⟩
  · replace c7 := Bool.eq_false_iff.mpr c7
    subst c7
    have H1 : (some false) = some r := by rw [if_neg (show ¬ (false = true) by decide)] at H; exact H
    clear H
    have H := H1
    clear H1
    obtain rfl := Option.some.inj H
    go_enter Try.func8, Try.ntmps8
    go_wp2_with (first | ((with_reducible refine gate_callee (f := 18) rfl ?_); refine goesL_ (some 10) rfl rfl Try.func18 (by kernel_rfl) rfl #[.string a0, .int .i64 200] rfl (by (try simp only [List.map_toArray, List.map_cons, List.map_nil]); first | done | rfl | (simp only [List.length_drop, List.length_take]; rfl)) ?_; (with_reducible refine (clerestorylaw1_some.calls a0 200 t210 _ A3.out).mono ?_); rintro e w17 ⟨rfl, hb⟩; refine ⟨_, rfl, ?_⟩; have n0_ := Aside0.mk (below_step (by repeat (first | (with_reducible first | exact HB.out | apply below_alloc | apply pw_below_drewN | apply below_drew1) | exact HB.out)) hb); clear HB; have HB := n0_; clear n0_; (try clear hb); (try clear hb2); (try clear hk); (try clear hi)) | ((with_reducible refine gate_callee (f := 41) rfl ?_); refine goesL_ (some 14) rfl rfl Try.func41 (by kernel_rfl) rfl #[.string t210, .bool a1] rfl (by (try simp only [List.map_toArray, List.map_cons, List.map_nil]); first | done | rfl | (simp only [List.length_drop, List.length_take]; rfl)) ?_; (with_reducible refine (entity_Find.calls k t210 a1 t211 t212 _ A4.out).mono ?_); rintro e w18 ⟨rfl, hb⟩; refine ⟨_, rfl, ?_⟩; have n0_ := Aside0.mk (below_step (by repeat (first | (with_reducible first | exact HB.out | apply below_alloc | apply pw_below_drewN | apply below_drew1) | exact HB.out)) hb); clear HB; have HB := n0_; clear n0_; (try clear hb); (try clear hb2); (try clear hk); (try clear hi)) | ((with_reducible refine gate_callee (f := 42) rfl ?_); refine goesL_ (some 20) rfl rfl Try.func42 (by kernel_rfl) rfl #[.string t210, .bool a1] rfl (by (try simp only [List.map_toArray, List.map_cons, List.map_nil]); first | done | rfl | (simp only [List.length_drop, List.length_take]; rfl)) ?_; (with_reducible refine (clerestoryref1_EntityFind.calls k t210 a1 t213 t214 _ A5.out).mono ?_); rintro e w19 ⟨rfl, hb⟩; refine ⟨_, rfl, ?_⟩; have n0_ := Aside0.mk (below_step (by repeat (first | (with_reducible first | exact HB.out | apply below_alloc | apply pw_below_drewN | apply below_drew1) | exact HB.out)) hb); clear HB; have HB := n0_; clear n0_; (try clear hb); (try clear hb2); (try clear hk); (try clear hi)) | ((with_reducible refine gate_callee (f := 43) rfl ?_); refine goesL_ (some 23) rfl rfl Try.func43 (by kernel_rfl) rfl #[] rfl (by (try simp only [List.map_toArray, List.map_cons, List.map_nil]); first | done | rfl | (simp only [List.length_drop, List.length_take]; rfl)) ?_; (with_reducible refine (clerestorylaw1_entityBegun.calls k  false _ A6.out).mono ?_); rintro e w20 ⟨rfl, hb⟩; refine ⟨_, rfl, ?_⟩; have n0_ := Aside0.mk (below_step (by repeat (first | (with_reducible first | exact HB.out | apply below_alloc | apply pw_below_drewN | apply below_drew1) | exact HB.out)) hb); clear HB; have HB := n0_; clear n0_; (try clear hb); (try clear hb2); (try clear hk); (try clear hi)))
    go_ret
    exact ⟨by first | rfl | (simp [errW_none, errW_some] <;> rfl) | (simp [*, errW_none, errW_some] <;> rfl), by repeat (first | (with_reducible first | exact HB.out | apply below_alloc | apply pw_below_drewN | apply below_drew1) | exact HB.out)⟩

end Go.Proofs.Ythecjfkafpndoaa.XEn
