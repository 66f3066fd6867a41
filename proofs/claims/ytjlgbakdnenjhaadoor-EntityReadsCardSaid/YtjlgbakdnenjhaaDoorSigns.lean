/- chars.signs, the iterator over a text's signs: whatever a loop's body does that leaves the iterator's own box alone, the signs come in line, each with its place. Condition: the text's length. -/
import Derived.Test.YtjlgbakdnenjhaaDoorSign1
import Derived.RangeFuncNested
import Derived.RangeFuncBound
import Derived.RangeFuncCalls
import Derived.RangeFuncLeaves
import Derived.RangeFuncBox
import Derived.RangeFuncFrom
import Derived.RangeFuncWrites
import Derived.Shelf.Abstract
import Derived.Shelf.RegionOpen
import Derived.WalkKit
import Derived.OwnWalkIn
import Derived.TacticsInMore
import Derived.LoopNIn
import Derived.LoopIn
import Derived.Lib.Hide
namespace Go.Proofs.YtjlgbakdnenjhaaDoor.Sg
open Go Go.RowKit Go.Shelf Go.Proofs Go.Proofs.YtjlgbakdnenjhaaDoor.L Go.Proofs.YtjlgbakdnenjhaaDoor.XCa Go.Proofs.YtjlgbakdnenjhaaDoorW.PrintWords
attribute [local go_sem] Oper.semAt_some

/-- The signs from a place on, each with its place. -/
def sgAt : Nat → List Int → Nat → List (Nat × Int)
  | 0, _, _ => []
  | _ + 1, [], _ => []
  | d + 1, b :: t, at_ => (at_, (sg1 (b :: t)).1) :: sgAt d ((b :: t).drop (sg1 (b :: t)).2) (at_ + (sg1 (b :: t)).2)

theorem sgAt_fuel : ∀ (d e : Nat) (l : List Int) (a : Nat), l.length ≤ d → l.length ≤ e → sgAt d l a = sgAt e l a
  | 0, 0, _, _, _, _ => rfl
  | 0, e + 1, l, _, h, _ => by have : l = [] := List.length_eq_zero_iff.1 (by omega); subst this; rfl
  | d + 1, 0, l, _, _, h => by have : l = [] := List.length_eq_zero_iff.1 (by omega); subst this; rfl
  | d + 1, e + 1, [], _, _, _ => rfl
  | d + 1, e + 1, b :: t, a, h1, h2 => by
    have hs := sg1_size (b :: t) (by simp)
    simp only [sgAt]
    rw [sgAt_fuel d e _ _ (by rw [List.length_drop]; simp only [List.length_cons] at h1 ⊢; omega) (by rw [List.length_drop]; simp only [List.length_cons] at h2 ⊢; omega)]

/-- All signs of a text, each with its place. -/
def sigs (s : ByteArray) : List (Nat × Int) := sgAt s.size (bytesOf s) 0
def rest (s : ByteArray) (a : Nat) : List (Nat × Int) := sgAt (s.size - a) ((bytesOf s).drop a) a

theorem bytes_length (s : ByteArray) : (bytesOf s).length = s.size := by simp [bytesOf]

theorem rest_step (s : ByteArray) (a : Nat) (h : a < s.size) : rest s a = (a, (sg1 ((bytesOf s).drop a)).1) :: rest s (a + (sg1 ((bytesOf s).drop a)).2) := by
  have hl : ((bytesOf s).drop a).length = s.size - a := by rw [List.length_drop, bytes_length]
  have hs := sg1_size ((bytesOf s).drop a) (by intro e; rw [e] at hl; simp at hl; omega)
  unfold rest
  obtain ⟨d, hd⟩ : ∃ d, s.size - a = d + 1 := ⟨s.size - a - 1, by omega⟩
  rw [hd]
  match hm : (bytesOf s).drop a, hl with
  | [], hl => simp at hl; omega
  | b :: t, hl =>
    rw [hm] at hs
    simp only [sgAt]
    congr 1
    have e : (bytesOf s).drop (a + (sg1 (b :: t)).2) = (b :: t).drop (sg1 (b :: t)).2 := by rw [← hm, List.drop_drop]
    rw [e]
    refine sgAt_fuel _ _ _ _ ?_ ?_
    · rw [List.length_drop]; omega
    · rw [List.length_drop]; omega

theorem rest_end (s : ByteArray) (a : Nat) (h : s.size ≤ a) : rest s a = [] := by
  unfold rest
  rw [show s.size - a = 0 by omega]
  rfl

theorem bytes_extract (s : ByteArray) (a : Nat) : bytesOf (s.extract a s.size) = (bytesOf s).drop a := by
  unfold bytesOf
  rw [Lib.extract_to_end, List.map_drop]

/-- What the loop's body must leave alone: the box that the iterator reads. -/
def KpB (b : Nat) (W W' : World) : Prop := W'.heap[b]? = W.heap[b]?
def encS (x : Nat × Int) : Array Value := #[.int .i64 (x.1 : Int), .int .i32 x.2]

theorem grown_drewN (W : World) (n : Nat) : W.grownBy (W.drewN n) none := ⟨rfl, rfl, rfl, by simp, fun _ _ _ => rfl⟩

set_option maxRecDepth 100000 in
set_option maxHeartbeats 2000000 in
theorem signs1_in (n : Nat) (hn : 1 ≤ n) (l Bs : Nat) (s : ByteArray) (hs : s.size ≤ 140737488355328) (enc : Nat × Int → Array Value) (henc : ∀ x : Nat × Int, 0 ≤ x.2 → x.2 < 2097152 → enc x = encS x) (J Jx : List (Nat × Int) → World → Prop)
    (hY : ∀ pre x W, J pre W → pre.length < s.size → YieldAt Fence.wide (n - 1) Tryd.prog l (enc x) W fun e W' =>
      (e = .returned (.bool true) ∧ J (pre ++ [x]) W' ∧ KpB Bs W W') ∨ (e = .returned (.bool false) ∧ Jx (pre ++ [x]) W'))
    (W : World) (hJ : AbidesFrom W.heap.size J) (hb : Boxed W Bs 9 (.string s)) (h0 : J [] W) :
    CallsIn Fence.wide n Tryd.prog 31 #[.func (.yield l) #[] #[], .pointer (some ⟨Bs, 0, none⟩)] W fun e W' => (∃ v, e = .returned v) ∧
      ((∃ xs, xs = sigs s ∧ J xs W') ∨ (∃ pre, pre <+: sigs s ∧ Jx pre W')) := by
  refine callsIn_of_wp Tryd.func31 rfl trivial ?_ rfl
  simp only [Tryd.ntmps31, List.size_toArray, List.length_cons, List.length_nil, Nat.reduceAdd, Nat.reduceSub, Array.replicate_succ, Array.replicate_zero, List.push_toArray, List.append_toArray, List.nil_append, List.cons_append]
  gi_wp2
  gi_loopw [3] (fun i wr => ∃ (a : Nat) (pre : List (Nat × Int)), a ≤ s.size ∧ i = .int .i64 a ∧ pre.length ≤ a ∧ Hid (pre ++ rest s a = sigs s) ∧ J pre wr ∧ Hid (Boxed wr Bs 9 (.string s)))
    (fun i _ => s.size - (intOf i).toNat)
  case atStart => exact ⟨0, [], Nat.zero_le _, rfl, Nat.le_refl _, Lib.hid rfl, h0, Lib.hid hb⟩
  case round =>
    obtain ⟨a, pre, ha, rfl, hpl, hpr, hJs, hbx⟩ := hrel
    have hc := hbx.out.cell
    by_cases hlt : a < s.size
    · have hst := Lib.hid (rest_step s a hlt)
      have h1 := one_eq1 (s.extract a s.size) (by simp; omega) (by simp; omega)
      rw [bytes_extract] at h1
      have hsz := sg1_size ((bytesOf s).drop a) (by intro e; have hl : ((bytesOf s).drop a).length = s.size - a := by rw [List.length_drop, bytes_length]
                                                    rw [e] at hl; simp at hl; omega)
      rw [List.length_drop, bytes_length] at hsz
      have hrg := sg1_range ((bytesOf s).drop a) (isBytes_drop (isBytes_of s) a)
      obtain ⟨r, hr⟩ : ∃ r, (sg1 ((bytesOf s).drop a)).1 = r := ⟨_, rfl⟩
      obtain ⟨m, hm⟩ : ∃ m, (sg1 ((bytesOf s).drop a)).2 = m := ⟨_, rfl⟩
      rw [hr, hm] at h1
      rw [hr] at hrg
      obtain ⟨hr0, hr1⟩ := hrg
      rw [hm] at hsz
      have hst' := hst.out
      rw [hr, hm] at hst'
      have HST := Lib.hid hst'
      have H1 := Lib.hid h1
      clear hst hst' h1 hr hm
      have hpr' := hpr.out
      rw [HST.out] at hpr'
      have HPR := Lib.hid hpr'
      clear hpr'
      gi_wp2_with (refine ⟨trivial, ?_⟩; gi_at_call 32; refine (callsIn_wide.2 (chars_one.calls 12 _ _ _ _ H1.out)).mono ?_; rintro e W2 ⟨rfl, ⟨⟨nd, rfl⟩⟩⟩; obtain ⟨fn, tmps, assign, body, hy, hR⟩ := hY pre (a, r) (wr.drewN nd) (hJ pre wr _ none hJs (grown_drewN wr nd) (fun _ e_ => by cases e_)) (by omega); rw [henc (a, r) hr0 hr1] at hy; dsimp only [encS] at hy)
      refine hR.mono ?_
      rintro e W3 (⟨rfl, hJ3, hk3⟩ | ⟨rfl, hJx3⟩)
      · gi_wp2
        go_roundw
        case rel => exact ⟨a + m, pre ++ [(a, r)], by omega, by go_num, by simp; omega, Lib.hid (by rw [List.append_assoc]; exact HPR.out), hJ3, Lib.hid (by show W3.heap[Bs]? = _; rw [hk3]; exact hbx.out)⟩
        case measure => simp [intOf]; omega
      · gi_wp2
        refine bodyPost_ret (results_none rfl _ _ _) rfl ?_
        exact ⟨⟨_, rfl⟩, .inr ⟨_, ⟨_, by rw [List.append_assoc]; exact HPR.out⟩, hJx3⟩⟩
    · have hre := rest_end s a (by omega)
      have hpr' := hpr.out
      rw [hre, List.append_nil] at hpr'
      subst hpr'
      clear hpr hre
      gi_wp2
      go_end0
      exact ⟨⟨_, rfl⟩, .inl ⟨_, rfl, hJs⟩⟩

set_option maxHeartbeats 1000000 in
/-- chars.signs: the text is boxed; the function value captures the box. -/
theorem signs_in (n : Nat) (s : ByteArray) (w : World) :
    CallsIn Fence.wide n Tryd.prog 19 #[.string s] w fun e w' => e = .returned (.func (.func 31) #[] #[.pointer (some ⟨w.heap.size, 0, none⟩)]) ∧ w' = w.alloc (.cells #[.string s] 9) := by
  refine callsIn_of_wp Tryd.func19 rfl trivial ?_ rfl
  simp only [Tryd.ntmps19, List.size_toArray, List.length_cons, List.length_nil, Nat.reduceAdd, Nat.reduceSub, Array.replicate_succ, Array.replicate_zero, List.push_toArray, List.append_toArray, List.nil_append, List.cons_append]
  gi_wp2
  go_ret
  exact ⟨rfl, rfl⟩

theorem signs_stops (n : Nat) (hn : 1 ≤ n) (Bs : Nat) (s : ByteArray) (hs : s.size ≤ 140737488355328) (w : World) (hb : Boxed w Bs 9 (.string s)) (enc : Nat × Int → Array Value) (henc : ∀ x : Nat × Int, 0 ≤ x.2 → x.2 < 2097152 → enc x = encS x) :
    SeqStopsK Fence.wide n Tryd.prog 31 #[.pointer (some ⟨Bs, 0, none⟩)] enc (KpB Bs) (fun xs => xs = sigs s) (fun pre => pre <+: sigs s) s.size w := fun l J Jx W hW hJ _ hY h0 =>
  signs1_in n hn l Bs s hs enc henc J Jx hY W hJ ((hW.block Bs hb.lt).trans hb) h0

theorem kpB_t {b : Nat} {A B C : World} (h : KpB b A B) (k : KpB b B C) : KpB b A C := Eq.trans k h
theorem kpB_b {b : Nat} {w : World} (hb : b < w.heap.size) (W : World) (l : Nat) (o o' : Obj) (hl : w.heap.size ≤ l) (_ : W.heap[l]? = some o) (_ : o.isCells = false) (_ : o.isWalk = false) : KpB b W (W.putObj l o') :=
  World.putObj_heap_other (by omega)
end Go.Proofs.YtjlgbakdnenjhaaDoor.Sg
