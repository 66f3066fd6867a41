/- The plain law behind OpenNames and OpenScopes: the constants' lemmas (printed by wip/tpl/gen_open.py), and what open's functions and the reference's answer, in words of lists. No condition but the texts' lengths. -/
import Derived.Test.YthecjfkafpndoaaOpenLib
namespace Go.Proofs.Ythecjfkafpndoaa.Pure
open Go.RowKit Go.Proofs.Ythecjfkafpndoaa.XOpen Go.Proofs.YthecjfkafpndoaaW.PrintWords Go.Proofs.YthecjfkafpndoaaW.PrintLast Go.Proofs.Ythecjfkafpndoaa.L
set_option maxRecDepth 100000
def c_sp : List UInt8 := [97, 100, 100, 114, 101, 115, 115, 32, 97, 114, 116, 105, 99, 108, 101, 32, 97, 115, 105, 100, 101, 32, 98, 108, 111, 99, 107, 113, 117, 111, 116, 101, 32, 98, 111, 100, 121, 32, 98, 114, 32, 98, 117, 116, 116, 111, 110, 32, 99, 97, 112, 116, 105, 111, 110, 32, 99, 111, 108, 32, 99, 111, 108, 103, 114, 111, 117, 112, 32, 100, 100, 32, 100, 101, 116, 97, 105, 108, 115, 32, 100, 105, 114, 32, 100, 105, 118, 32, 100, 108, 32, 100, 116, 32, 102, 105, 101, 108, 100, 115, 101, 116, 32, 102, 105, 103, 99, 97, 112, 116, 105, 111, 110, 32, 102, 105, 103, 117, 114, 101, 32, 102, 111, 111, 116, 101, 114, 32, 102, 111, 114, 109, 32, 104, 49, 32, 104, 50, 32, 104, 51, 32, 104, 52, 32, 104, 53, 32, 104, 54, 32, 104, 101, 97, 100, 32, 104, 101, 97, 100, 101, 114, 32, 104, 114, 32, 104, 116, 109, 108, 32, 105, 109, 103, 32, 105, 110, 112, 117, 116, 32, 108, 105, 32, 108, 105, 110, 107, 32, 109, 97, 105, 110, 32, 109, 101, 110, 117, 32, 109, 101, 116, 97, 32, 110, 97, 118, 32, 111, 98, 106, 101, 99, 116, 32, 111, 108, 32, 112, 32, 112, 114, 101, 32, 115, 99, 114, 105, 112, 116, 32, 115, 101, 97, 114, 99, 104, 32, 115, 101, 99, 116, 105, 111, 110, 32, 115, 101, 108, 101, 99, 116, 32, 115, 116, 121, 108, 101, 32, 115, 117, 109, 109, 97, 114, 121, 32, 116, 97, 98, 108, 101, 32, 116, 98, 111, 100, 121, 32, 116, 100, 32, 116, 101, 109, 112, 108, 97, 116, 101, 32, 116, 101, 120, 116, 97, 114, 101, 97, 32, 116, 102, 111, 111, 116, 32, 116, 104, 32, 116, 104, 101, 97, 100, 32, 116, 105, 116, 108, 101, 32, 116, 114, 32, 117, 108]
def c_vo : List UInt8 := [97, 114, 101, 97, 32, 98, 97, 115, 101, 32, 98, 114, 32, 99, 111, 108, 32, 101, 109, 98, 101, 100, 32, 104, 114, 32, 105, 109, 103, 32, 105, 110, 112, 117, 116, 32, 108, 105, 110, 107, 32, 109, 101, 116, 97, 32, 115, 111, 117, 114, 99, 101, 32, 116, 114, 97, 99, 107, 32, 119, 98, 114]
def c_fo : List UInt8 := [97, 32, 98, 32, 98, 105, 103, 32, 99, 111, 100, 101, 32, 101, 109, 32, 102, 111, 110, 116, 32, 105, 32, 110, 111, 98, 114, 32, 115, 32, 115, 109, 97, 108, 108, 32, 115, 116, 114, 105, 107, 101, 32, 115, 116, 114, 111, 110, 103, 32, 116, 116, 32, 117]
def c_he : List UInt8 := [104, 49, 32, 104, 50, 32, 104, 51, 32, 104, 52, 32, 104, 53, 32, 104, 54]
def c_im : List UInt8 := [100, 100, 32, 100, 116, 32, 108, 105, 32, 111, 112, 116, 103, 114, 111, 117, 112, 32, 111, 112, 116, 105, 111, 110, 32, 112]
def c_b0 : List UInt8 := [99, 97, 112, 116, 105, 111, 110, 32, 104, 116, 109, 108, 32, 111, 98, 106, 101, 99, 116, 32, 116, 97, 98, 108, 101, 32, 116, 100, 32, 116, 101, 109, 112, 108, 97, 116, 101, 32, 116, 104]
def c_b2 : List UInt8 := [99, 97, 112, 116, 105, 111, 110, 32, 104, 116, 109, 108, 32, 111, 98, 106, 101, 99, 116, 32, 116, 97, 98, 108, 101, 32, 116, 100, 32, 116, 101, 109, 112, 108, 97, 116, 101, 32, 116, 104, 32, 111, 108, 32, 117, 108]
def c_b3 : List UInt8 := [99, 97, 112, 116, 105, 111, 110, 32, 104, 116, 109, 108, 32, 111, 98, 106, 101, 99, 116, 32, 116, 97, 98, 108, 101, 32, 116, 100, 32, 116, 101, 109, 112, 108, 97, 116, 101, 32, 116, 104, 32, 98, 117, 116, 116, 111, 110]
def c_b4 : List UInt8 := [104, 116, 109, 108, 32, 116, 97, 98, 108, 101, 32, 116, 101, 109, 112, 108, 97, 116, 101]
def c_r2 : List UInt8 := [111, 108, 32, 117, 108]
def c_r5 : List UInt8 := [111, 112, 116, 103, 114, 111, 117, 112, 32, 111, 112, 116, 105, 111, 110]
theorem sp_one (n : ByteArray) (hn : n.size ≤ 140737488355328) : open_One.f n (⟨#[32, 97, 100, 100, 114, 101, 115, 115, 32, 97, 114, 116, 105, 99, 108, 101, 32, 97, 115, 105, 100, 101, 32, 98, 108, 111, 99, 107, 113, 117, 111, 116, 101, 32, 98, 111, 100, 121, 32, 98, 114, 32, 98, 117, 116, 116, 111, 110, 32, 99, 97, 112, 116, 105, 111, 110, 32, 99, 111, 108, 32, 99, 111, 108, 103, 114, 111, 117, 112, 32, 100, 100, 32, 100, 101, 116, 97, 105, 108, 115, 32, 100, 105, 114, 32, 100, 105, 118, 32, 100, 108, 32, 100, 116, 32, 102, 105, 101, 108, 100, 115, 101, 116, 32, 102, 105, 103, 99, 97, 112, 116, 105, 111, 110, 32, 102, 105, 103, 117, 114, 101, 32, 102, 111, 111, 116, 101, 114, 32, 102, 111, 114, 109, 32, 104, 49, 32, 104, 50, 32, 104, 51, 32, 104, 52, 32, 104, 53, 32, 104, 54, 32, 104, 101, 97, 100, 32, 104, 101, 97, 100, 101, 114, 32, 104, 114, 32, 104, 116, 109, 108, 32, 105, 109, 103, 32, 105, 110, 112, 117, 116, 32, 108, 105, 32, 108, 105, 110, 107, 32, 109, 97, 105, 110, 32, 109, 101, 110, 117, 32, 109, 101, 116, 97, 32, 110, 97, 118, 32, 111, 98, 106, 101, 99, 116, 32, 111, 108, 32, 112, 32, 112, 114, 101, 32, 115, 99, 114, 105, 112, 116, 32, 115, 101, 97, 114, 99, 104, 32, 115, 101, 99, 116, 105, 111, 110, 32, 115, 101, 108, 101, 99, 116, 32, 115, 116, 121, 108, 101, 32, 115, 117, 109, 109, 97, 114, 121, 32, 116, 97, 98, 108, 101, 32, 116, 98, 111, 100, 121, 32, 116, 100, 32, 116, 101, 109, 112, 108, 97, 116, 101, 32, 116, 101, 120, 116, 97, 114, 101, 97, 32, 116, 102, 111, 111, 116, 32, 116, 104, 32, 116, 104, 101, 97, 100, 32, 116, 105, 116, 108, 101, 32, 116, 114, 32, 117, 108, 32]⟩ : ByteArray) = some (decide (n.data.toList ∈ splitB c_sp)) :=
  one_eq n hn _ c_sp (by kernel_rfl) (of_decide_eq_true (by kernel_rfl)) (of_decide_eq_true (by kernel_rfl))
theorem vo_one (n : ByteArray) (hn : n.size ≤ 140737488355328) : open_One.f n (⟨#[32, 97, 114, 101, 97, 32, 98, 97, 115, 101, 32, 98, 114, 32, 99, 111, 108, 32, 101, 109, 98, 101, 100, 32, 104, 114, 32, 105, 109, 103, 32, 105, 110, 112, 117, 116, 32, 108, 105, 110, 107, 32, 109, 101, 116, 97, 32, 115, 111, 117, 114, 99, 101, 32, 116, 114, 97, 99, 107, 32, 119, 98, 114, 32]⟩ : ByteArray) = some (decide (n.data.toList ∈ splitB c_vo)) :=
  one_eq n hn _ c_vo (by kernel_rfl) (of_decide_eq_true (by kernel_rfl)) (of_decide_eq_true (by kernel_rfl))
theorem fo_one (n : ByteArray) (hn : n.size ≤ 140737488355328) : open_One.f n (⟨#[32, 97, 32, 98, 32, 98, 105, 103, 32, 99, 111, 100, 101, 32, 101, 109, 32, 102, 111, 110, 116, 32, 105, 32, 110, 111, 98, 114, 32, 115, 32, 115, 109, 97, 108, 108, 32, 115, 116, 114, 105, 107, 101, 32, 115, 116, 114, 111, 110, 103, 32, 116, 116, 32, 117, 32]⟩ : ByteArray) = some (decide (n.data.toList ∈ splitB c_fo)) :=
  one_eq n hn _ c_fo (by kernel_rfl) (of_decide_eq_true (by kernel_rfl)) (of_decide_eq_true (by kernel_rfl))
theorem im_one (n : ByteArray) (hn : n.size ≤ 140737488355328) : open_One.f n (⟨#[32, 100, 100, 32, 100, 116, 32, 108, 105, 32, 111, 112, 116, 103, 114, 111, 117, 112, 32, 111, 112, 116, 105, 111, 110, 32, 112, 32]⟩ : ByteArray) = some (decide (n.data.toList ∈ splitB c_im)) :=
  one_eq n hn _ c_im (by kernel_rfl) (of_decide_eq_true (by kernel_rfl)) (of_decide_eq_true (by kernel_rfl))
theorem b0_one (n : ByteArray) (hn : n.size ≤ 140737488355328) : open_One.f n (⟨#[32, 99, 97, 112, 116, 105, 111, 110, 32, 104, 116, 109, 108, 32, 111, 98, 106, 101, 99, 116, 32, 116, 97, 98, 108, 101, 32, 116, 100, 32, 116, 101, 109, 112, 108, 97, 116, 101, 32, 116, 104, 32]⟩ : ByteArray) = some (decide (n.data.toList ∈ splitB c_b0)) :=
  one_eq n hn _ c_b0 (by kernel_rfl) (of_decide_eq_true (by kernel_rfl)) (of_decide_eq_true (by kernel_rfl))
theorem b2_one (n : ByteArray) (hn : n.size ≤ 140737488355328) : open_One.f n (⟨#[32, 99, 97, 112, 116, 105, 111, 110, 32, 104, 116, 109, 108, 32, 111, 98, 106, 101, 99, 116, 32, 116, 97, 98, 108, 101, 32, 116, 100, 32, 116, 101, 109, 112, 108, 97, 116, 101, 32, 116, 104, 32, 111, 108, 32, 117, 108, 32]⟩ : ByteArray) = some (decide (n.data.toList ∈ splitB c_b2)) :=
  one_eq n hn _ c_b2 (by kernel_rfl) (of_decide_eq_true (by kernel_rfl)) (of_decide_eq_true (by kernel_rfl))
theorem b3_one (n : ByteArray) (hn : n.size ≤ 140737488355328) : open_One.f n (⟨#[32, 99, 97, 112, 116, 105, 111, 110, 32, 104, 116, 109, 108, 32, 111, 98, 106, 101, 99, 116, 32, 116, 97, 98, 108, 101, 32, 116, 100, 32, 116, 101, 109, 112, 108, 97, 116, 101, 32, 116, 104, 32, 98, 117, 116, 116, 111, 110, 32]⟩ : ByteArray) = some (decide (n.data.toList ∈ splitB c_b3)) :=
  one_eq n hn _ c_b3 (by kernel_rfl) (of_decide_eq_true (by kernel_rfl)) (of_decide_eq_true (by kernel_rfl))
theorem b4_one (n : ByteArray) (hn : n.size ≤ 140737488355328) : open_One.f n (⟨#[32, 104, 116, 109, 108, 32, 116, 97, 98, 108, 101, 32, 116, 101, 109, 112, 108, 97, 116, 101, 32]⟩ : ByteArray) = some (decide (n.data.toList ∈ splitB c_b4)) :=
  one_eq n hn _ c_b4 (by kernel_rfl) (of_decide_eq_true (by kernel_rfl)) (of_decide_eq_true (by kernel_rfl))
theorem sp_word (n : ByteArray) (k : Nat) (hk : 2000 < k) : clerestoryref1_Word.f k n (⟨#[97, 100, 100, 114, 101, 115, 115, 32, 97, 114, 116, 105, 99, 108, 101, 32, 97, 115, 105, 100, 101, 32, 98, 108, 111, 99, 107, 113, 117, 111, 116, 101, 32, 98, 111, 100, 121, 32, 98, 114, 32, 98, 117, 116, 116, 111, 110, 32, 99, 97, 112, 116, 105, 111, 110, 32, 99, 111, 108, 32, 99, 111, 108, 103, 114, 111, 117, 112, 32, 100, 100, 32, 100, 101, 116, 97, 105, 108, 115, 32, 100, 105, 114, 32, 100, 105, 118, 32, 100, 108, 32, 100, 116, 32, 102, 105, 101, 108, 100, 115, 101, 116, 32, 102, 105, 103, 99, 97, 112, 116, 105, 111, 110, 32, 102, 105, 103, 117, 114, 101, 32, 102, 111, 111, 116, 101, 114, 32, 102, 111, 114, 109, 32, 104, 49, 32, 104, 50, 32, 104, 51, 32, 104, 52, 32, 104, 53, 32, 104, 54, 32, 104, 101, 97, 100, 32, 104, 101, 97, 100, 101, 114, 32, 104, 114, 32, 104, 116, 109, 108, 32, 105, 109, 103, 32, 105, 110, 112, 117, 116, 32, 108, 105, 32, 108, 105, 110, 107, 32, 109, 97, 105, 110, 32, 109, 101, 110, 117, 32, 109, 101, 116, 97, 32, 110, 97, 118, 32, 111, 98, 106, 101, 99, 116, 32, 111, 108, 32, 112, 32, 112, 114, 101, 32, 115, 99, 114, 105, 112, 116, 32, 115, 101, 97, 114, 99, 104, 32, 115, 101, 99, 116, 105, 111, 110, 32, 115, 101, 108, 101, 99, 116, 32, 115, 116, 121, 108, 101, 32, 115, 117, 109, 109, 97, 114, 121, 32, 116, 97, 98, 108, 101, 32, 116, 98, 111, 100, 121, 32, 116, 100, 32, 116, 101, 109, 112, 108, 97, 116, 101, 32, 116, 101, 120, 116, 97, 114, 101, 97, 32, 116, 102, 111, 111, 116, 32, 116, 104, 32, 116, 104, 101, 97, 100, 32, 116, 105, 116, 108, 101, 32, 116, 114, 32, 117, 108]⟩ : ByteArray) = some (decide (n.data.toList ∈ splitB c_sp)) :=
  word_eq n _ (of_decide_eq_true (by kernel_rfl)) k (Nat.lt_of_le_of_lt (of_decide_eq_true (by kernel_rfl)) hk)
theorem vo_word (n : ByteArray) (k : Nat) (hk : 2000 < k) : clerestoryref1_Word.f k n (⟨#[97, 114, 101, 97, 32, 98, 97, 115, 101, 32, 98, 114, 32, 99, 111, 108, 32, 101, 109, 98, 101, 100, 32, 104, 114, 32, 105, 109, 103, 32, 105, 110, 112, 117, 116, 32, 108, 105, 110, 107, 32, 109, 101, 116, 97, 32, 115, 111, 117, 114, 99, 101, 32, 116, 114, 97, 99, 107, 32, 119, 98, 114]⟩ : ByteArray) = some (decide (n.data.toList ∈ splitB c_vo)) :=
  word_eq n _ (of_decide_eq_true (by kernel_rfl)) k (Nat.lt_of_le_of_lt (of_decide_eq_true (by kernel_rfl)) hk)
theorem fo_word (n : ByteArray) (k : Nat) (hk : 2000 < k) : clerestoryref1_Word.f k n (⟨#[97, 32, 98, 32, 98, 105, 103, 32, 99, 111, 100, 101, 32, 101, 109, 32, 102, 111, 110, 116, 32, 105, 32, 110, 111, 98, 114, 32, 115, 32, 115, 109, 97, 108, 108, 32, 115, 116, 114, 105, 107, 101, 32, 115, 116, 114, 111, 110, 103, 32, 116, 116, 32, 117]⟩ : ByteArray) = some (decide (n.data.toList ∈ splitB c_fo)) :=
  word_eq n _ (of_decide_eq_true (by kernel_rfl)) k (Nat.lt_of_le_of_lt (of_decide_eq_true (by kernel_rfl)) hk)
theorem he_word (n : ByteArray) (k : Nat) (hk : 2000 < k) : clerestoryref1_Word.f k n (⟨#[104, 49, 32, 104, 50, 32, 104, 51, 32, 104, 52, 32, 104, 53, 32, 104, 54]⟩ : ByteArray) = some (decide (n.data.toList ∈ splitB c_he)) :=
  word_eq n _ (of_decide_eq_true (by kernel_rfl)) k (Nat.lt_of_le_of_lt (of_decide_eq_true (by kernel_rfl)) hk)
theorem im_word (n : ByteArray) (k : Nat) (hk : 2000 < k) : clerestoryref1_Word.f k n (⟨#[100, 100, 32, 100, 116, 32, 108, 105, 32, 111, 112, 116, 103, 114, 111, 117, 112, 32, 111, 112, 116, 105, 111, 110, 32, 112]⟩ : ByteArray) = some (decide (n.data.toList ∈ splitB c_im)) :=
  word_eq n _ (of_decide_eq_true (by kernel_rfl)) k (Nat.lt_of_le_of_lt (of_decide_eq_true (by kernel_rfl)) hk)
theorem b0_word (n : ByteArray) (k : Nat) (hk : 2000 < k) : clerestoryref1_Word.f k n (⟨#[99, 97, 112, 116, 105, 111, 110, 32, 104, 116, 109, 108, 32, 111, 98, 106, 101, 99, 116, 32, 116, 97, 98, 108, 101, 32, 116, 100, 32, 116, 101, 109, 112, 108, 97, 116, 101, 32, 116, 104]⟩ : ByteArray) = some (decide (n.data.toList ∈ splitB c_b0)) :=
  word_eq n _ (of_decide_eq_true (by kernel_rfl)) k (Nat.lt_of_le_of_lt (of_decide_eq_true (by kernel_rfl)) hk)
theorem b4_word (n : ByteArray) (k : Nat) (hk : 2000 < k) : clerestoryref1_Word.f k n (⟨#[104, 116, 109, 108, 32, 116, 97, 98, 108, 101, 32, 116, 101, 109, 112, 108, 97, 116, 101]⟩ : ByteArray) = some (decide (n.data.toList ∈ splitB c_b4)) :=
  word_eq n _ (of_decide_eq_true (by kernel_rfl)) k (Nat.lt_of_le_of_lt (of_decide_eq_true (by kernel_rfl)) hk)
theorem r2_word (n : ByteArray) (k : Nat) (hk : 2000 < k) : clerestoryref1_Word.f k n (⟨#[111, 108, 32, 117, 108]⟩ : ByteArray) = some (decide (n.data.toList ∈ splitB c_r2)) :=
  word_eq n _ (of_decide_eq_true (by kernel_rfl)) k (Nat.lt_of_le_of_lt (of_decide_eq_true (by kernel_rfl)) hk)
theorem r5_word (n : ByteArray) (k : Nat) (hk : 2000 < k) : clerestoryref1_Word.f k n (⟨#[111, 112, 116, 103, 114, 111, 117, 112, 32, 111, 112, 116, 105, 111, 110]⟩ : ByteArray) = some (decide (n.data.toList ∈ splitB c_r5)) :=
  word_eq n _ (of_decide_eq_true (by kernel_rfl)) k (Nat.lt_of_le_of_lt (of_decide_eq_true (by kernel_rfl)) hk)
theorem bt_getD (s : ByteArray) (i : Nat) (h : i < s.size) : bt s (i : Int) = ((s.data.toList.getD i 0).toNat : Int) := by
  rw [bt_nat s i h, List.getD_eq_getElem?_getD, List.getElem?_eq_getElem (by simpa using h)]
  rfl

theorem size_list (s : ByteArray) : s.size = s.data.toList.length := by simp

theorem he_list : splitB c_he = [[104, 49], [104, 50], [104, 51], [104, 52], [104, 53], [104, 54]] := by kernel_rfl

theorem heading_eq (n : ByteArray) : open_Heading.f n = some (decide (n.data.toList ∈ splitB c_he)) := by
  rw [he_list]
  unfold open_Heading.f
  have hs := size_list n
  by_cases h2 : (n.size : Int) = 2
  · have b0 := bt_getD n 0 (by omega)
    have b1 := bt_getD n 1 (by omega)
    rw [if_pos h2, if_pos (by omega)]
    rw [show ((0 : Nat) : Int) = 0 from rfl] at b0
    rw [show ((1 : Nat) : Int) = 1 from rfl] at b1
    rw [b0, b1]
    match hl : n.data.toList, (show n.data.toList.length = 2 by omega) with
    | [a, b], _ =>
      simp only [List.getD_cons_zero, List.getD_cons_succ]
      by_cases ha : (a.toNat : Int) = 104
      · have ha' : a = 104 := UInt8.toNat_inj.1 (by simpa using (by omega : a.toNat = 104))
        subst ha'
        rw [if_pos (by rfl), if_pos (by omega)]
        simp only [List.mem_cons, List.cons.injEq, and_true, true_and, List.not_mem_nil, or_false]
        by_cases hb : (b.toNat : Int) ≥ 49
        · rw [if_pos hb]
          congr 1
          have key : (b.toNat : Int) ≤ 54 ↔ b = 49 ∨ b = 50 ∨ b = 51 ∨ b = 52 ∨ b = 53 ∨ b = 54 := by
            simp only [← UInt8.toNat_inj]
            simp
            omega
          exact decide_eq_decide.2 key
        · rw [if_neg hb]
          congr 1
          symm
          rw [decide_eq_false_iff_not]
          simp only [← UInt8.toNat_inj]
          simp
          omega
      · rw [if_neg ha]
        congr 1
        symm
        rw [decide_eq_false_iff_not]
        simp only [List.mem_cons, List.cons.injEq, List.not_mem_nil, or_false]
        have : ¬ a = 104 := fun e => ha (by rw [e]; rfl)
        simp [this]
  · rw [if_neg h2]
    congr 1
    symm
    rw [decide_eq_false_iff_not]
    intro hm
    have : n.data.toList.length = 2 := by
      simp only [List.mem_cons, List.not_mem_nil, or_false] at hm
      rcases hm with h | h | h | h | h | h <;> rw [h] <;> rfl
    omega

def barB (sc : Int) (x : List UInt8) : Bool :=
  if sc = 2 then decide (x ∈ splitB c_b2) else if sc = 3 then decide (x ∈ splitB c_b3) else if sc = 4 then decide (x ∈ splitB c_b4)
  else if sc = 5 then !decide (x ∈ splitB c_r5) else decide (x ∈ splitB c_b0)

theorem r5_list : splitB c_r5 = [[111, 112, 116, 103, 114, 111, 117, 112], [111, 112, 116, 105, 111, 110]] := by kernel_rfl

theorem bar_eq (x : ByteArray) (hx : x.size ≤ 140737488355328) (sc : Int) : open_Bar.f x sc = some (barB sc x.data.toList) := by
  unfold open_Bar.f barB
  by_cases h2 : sc = 2
  · rw [if_pos h2, if_pos h2, b2_one x hx]; rfl
  rw [if_neg h2, if_neg h2]
  by_cases h3 : sc = 3
  · rw [if_pos h3, if_pos h3, b3_one x hx]; rfl
  rw [if_neg h3, if_neg h3]
  by_cases h4 : sc = 4
  · rw [if_pos h4, if_pos h4, b4_one x hx]; rfl
  rw [if_neg h4, if_neg h4]
  by_cases h5 : sc = 5
  · rw [if_pos h5, if_pos h5, r5_list, Lib.toList_data]
    by_cases ha : x.data.toList = [111, 112, 116, 103, 114, 111, 117, 112]
    · rw [if_pos ha, ha]; simp
    · rw [if_neg ha]
      by_cases hb : x.data.toList = [111, 112, 116, 105, 111, 110]
      · simp [hb]
      · simp [ha, hb]
  rw [if_neg h5, if_neg h5, b0_one x hx]; rfl

/-- the stack from its end on. -/
def hasR (sc : Int) (n : List UInt8) : List (List UInt8) → Bool
  | [] => false
  | x :: t => if x = n then true else if barB sc x then false else hasR sc n t

theorem rd_nat (l : List ByteArray) (i : Nat) (h : i < l.length) : rdOf ByteArray.empty l (i : Int) = l[i] := by
  simp [rdOf, List.getD_eq_getElem?_getD, List.getElem?_eq_getElem h]

theorem wrap_pred (j : Nat) (h : j ≤ 1000000000000) : wrap64 (((j + 1 : Nat) : Int) - 1 - 1) = (j : Int) - 1 := by
  unfold wrap64
  omega

theorem take_rev (l : List ByteArray) (j : Nat) (h : j < l.length) : ((l.take (j + 1)).reverse.map (·.data.toList)) = l[j].data.toList :: ((l.take j).reverse.map (·.data.toList)) := by
  rw [List.take_succ_eq_append_getElem h, List.reverse_append]
  simp

theorem has_loop (l : List ByteArray) (hl : l.length ≤ 100000) (hx : ∀ x ∈ l, x.size ≤ 140737488355328) (n : ByteArray) (sc : Int) (j : Nat) : ∀ (k : Nat), j ≤ l.length → j < k →
    open_Has.l0 k l n sc ((j : Int) - 1) = some (hasR sc n.data.toList ((l.take j).reverse.map (·.data.toList))) := by
  induction j with
  | zero =>
    intro k hj hk
    obtain ⟨k, rfl⟩ : ∃ m, k = m + 1 := ⟨k - 1, by omega⟩
    simp only [open_Has.l0]
    rw [if_neg (by omega)]
    simp [hasR]
  | succ j ih =>
    intro k hj hk
    obtain ⟨k, rfl⟩ : ∃ m, k = m + 1 := ⟨k - 1, by omega⟩
    have e : ((j + 1 : Nat) : Int) - 1 = (j : Int) := by omega
    have hlt : j < l.length := by omega
    simp only [open_Has.l0]
    rw [e, if_pos (by omega), if_pos (by omega), if_pos (by omega), rd_nat l j hlt, take_rev l j hlt, Lib.toList_data, Lib.toList_data]
    simp only [hasR]
    by_cases h : l[j].data.toList = n.data.toList
    · rw [if_pos h, if_pos h]
    · rw [if_neg h, if_neg h, bar_eq _ (hx _ (List.getElem_mem hlt))]
      simp only [Option.bind_some]
      have w := wrap_pred j (by omega)
      rw [e] at w
      rw [w]
      cases hb : barB sc l[j].data.toList with
      | true => rw [if_pos rfl, if_pos rfl]
      | false => rw [if_neg (by decide), if_neg (by decide)]; exact ih k (by omega) (by omega)

theorem has_eq (l : List ByteArray) (hl : l.length ≤ 100000) (hx : ∀ x ∈ l, x.size ≤ 140737488355328) (n : ByteArray) (sc : Int) (k : Nat) (hk : l.length < k) :
    open_Has.f k l n sc = some (hasR sc n.data.toList (l.reverse.map (·.data.toList))) := by
  unfold open_Has.f
  have w : wrap64 ((l.length : Int) - 1) = (l.length : Int) - 1 := by unfold wrap64; omega
  rw [w, has_loop l hl hx n sc l.length k (Nat.le_refl _) hk, List.take_length]

theorem in_eq (l : List ByteArray) (hl : l.length ≤ 100000) (hx : ∀ x ∈ l, x.size ≤ 140737488355328) (n : ByteArray) (sc : Int) (k : Nat) (hk : l.length + 1 < k) :
    open_In.f k l n sc = some (if sc < 1 ∨ sc > 5 then (false, 1) else if (l.length : Int) > 60 then (false, 2) else (hasR sc n.data.toList (l.reverse.map (·.data.toList)), 0)) := by
  obtain ⟨k, rfl⟩ : ∃ m, k = m + 1 := ⟨k - 1, by omega⟩
  unfold open_In.f
  by_cases h1 : sc < 1
  · rw [if_pos h1, if_pos (.inl h1), open_In.j0, if_pos rfl]
  · rw [if_neg h1, open_In.j0]
    by_cases h5 : sc > 5
    · rw [if_pos (decide_eq_true h5), if_pos (.inr h5)]
    · rw [if_neg (by simpa using h5), if_neg (show ¬ (sc < 1 ∨ sc > 5) by omega)]
      by_cases h6 : (l.length : Int) > 60
      · rw [if_pos h6, if_pos h6]
      · rw [if_neg h6, if_neg h6, has_eq l hl hx n sc k (by omega)]
        rfl

/-- how many implied ends, the stack from its end on. -/
def endsR (but : List UInt8) : List (List UInt8) → Nat
  | [] => 0
  | x :: t => if x = but then 0 else if x ∈ splitB c_im then endsR but t + 1 else 0

theorem endsR_le (but : List UInt8) (l : List (List UInt8)) : endsR but l ≤ l.length := by
  induction l with
  | nil => simp [endsR]
  | cons x t ih =>
    unfold endsR
    split
    · simp
    · split
      · simp; exact ih
      · simp

theorem ends_loop (l : List ByteArray) (hl : l.length ≤ 100000) (hx : ∀ x ∈ l, x.size ≤ 140737488355328) (n : ByteArray) (j : Nat) : ∀ (k m : Nat), j ≤ l.length → j < k → m + j ≤ 1000000 →
    open_Ends.l0 k l n (m : Int) ((j : Int) - 1) = some (((m + endsR n.data.toList ((l.take j).reverse.map (·.data.toList)) : Nat)) : Int) := by
  induction j with
  | zero =>
    intro k m hj hk hm
    obtain ⟨k, rfl⟩ : ∃ m, k = m + 1 := ⟨k - 1, by omega⟩
    simp only [open_Ends.l0]
    rw [if_neg (by omega)]
    simp [endsR]
  | succ j ih =>
    intro k m hj hk hm
    obtain ⟨k, rfl⟩ : ∃ m, k = m + 1 := ⟨k - 1, by omega⟩
    have e : ((j + 1 : Nat) : Int) - 1 = (j : Int) := by omega
    have hlt : j < l.length := by omega
    simp only [open_Ends.l0]
    rw [e, if_pos (by omega), if_pos (by omega), if_pos (by omega), rd_nat l j hlt, take_rev l j hlt, Lib.toList_data, Lib.toList_data]
    simp only [endsR]
    by_cases h : l[j].data.toList = n.data.toList
    · rw [if_pos h, if_pos h]; simp
    · rw [if_neg h, if_neg h, im_one _ (hx _ (List.getElem_mem hlt))]
      simp only [Option.bind_some]
      have w := wrap_pred j (by omega)
      rw [e] at w
      have w2 : wrap64 ((m : Int) + 1) = ((m + 1 : Nat) : Int) := wrap_succ m (by omega)
      by_cases hb : l[j].data.toList ∈ splitB c_im
      · rw [if_pos (by simpa using hb), if_pos hb, w, w2, ih k (m + 1) (by omega) (by omega) (by omega)]
        congr 2
        omega
      · rw [if_neg (by simpa using hb), if_neg hb]; simp

theorem implied_eq (l : List ByteArray) (hl : l.length ≤ 100000) (hx : ∀ x ∈ l, x.size ≤ 140737488355328) (n : ByteArray) (k : Nat) (hk : l.length < k) :
    open_Implied.f k l n = some (if (l.length : Int) > 60 then (0, 2) else ((endsR n.data.toList (l.reverse.map (·.data.toList)) : Int), 0)) := by
  unfold open_Implied.f
  by_cases h6 : (l.length : Int) > 60
  · rw [if_pos h6, if_pos h6]
  · rw [if_neg h6, if_neg h6]
    unfold open_Ends.f
    have w : wrap64 ((l.length : Int) - 1) = (l.length : Int) - 1 := by unfold wrap64; omega
    have := ends_loop l hl hx n l.length k 0 (Nat.le_refl _) hk (by omega)
    rw [show ((0 : Nat) : Int) = 0 from rfl] at this
    rw [w, this, List.take_length]
    simp

theorem special_eq (n : ByteArray) (hn : n.size ≤ 140737488355328) : open_Special.f n = some (decide (n.data.toList ∈ splitB c_sp)) := by
  unfold open_Special.f; rw [sp_one n hn]; rfl
theorem void_eq (n : ByteArray) (hn : n.size ≤ 140737488355328) : open_Void.f n = some (decide (n.data.toList ∈ splitB c_vo)) := by
  unfold open_Void.f; rw [vo_one n hn]; rfl
theorem formatting_eq (n : ByteArray) (hn : n.size ≤ 140737488355328) : open_Formatting.f n = some (decide (n.data.toList ∈ splitB c_fo)) := by
  unfold open_Formatting.f; rw [fo_one n hn]; rfl

theorem begun_eq (k : Nat) (hk : 10 < k) : clerestorylaw1_openBegun.f k = some true := by
  unfold clerestorylaw1_openBegun.f
  rw [in_eq _ (by decide) (by intro x hx; simp at hx; rcases hx with rfl | rfl | rfl <;> decide) _ _ k (by simp; omega)]
  rw [implied_eq _ (by decide) (by intro x hx; simp at hx; rcases hx with rfl | rfl | rfl <;> decide) _ k (by simp; omega)]
  rw [special_eq _ (by decide), void_eq _ (by decide), formatting_eq _ (by decide), heading_eq]
  kernel_rfl
end Go.Proofs.Ythecjfkafpndoaa.Pure
